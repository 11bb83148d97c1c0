/- Pairs of disks: new kept disks, a head kept. No conditions. -/
import Derived.Test.YtgnilmdaegnaaaaZTw4
set_option linter.unusedSimpArgs false
set_option linter.unusedVariables false
namespace Go.Proofs.Ytgnilmdaegnaaaa
open Go.RowKit
open Go.ChangeShapes Go.WideShapes Go.ChangeAt
theorem headOk_zero : headOk 0 0 0 [] = true := by decide
def zrow : List Int := headRow 0 0 0 []
def newK : List (List Int) := syncM (List.replicate 22 []) [⟨0, zrow ++ [sumM zrow]⟩]
theorem twoOk_new : twoOk (List.replicate 22 []) [] (List.replicate 22 []) [] = true := by decide
set_option maxRecDepth 100000 in
set_option maxHeartbeats 4000000 in
theorem newKept_any (w : World) : Calls Try.prog 43 #[] w (TwRes w 22 newK 0 [] 22 newK 0 []) := by
  have CN : Hid (∀ W, Calls Try.prog 103 #[.int .i64 22] W (TwRes W 22 (List.replicate 22 []) 0 [] 22 (List.replicate 22 []) 0 [])) := Lib.hid (fun W => newTwo_any 22 W (by omega) (by omega))
  have CH : Hid (∀ W, Calls Try.prog 36 #[.agg #[.int .i64 0, .int .i64 0, .int .i64 0, .slice none 0 0]] W (SlRes W 1 13 zrow)) := Lib.hid (fun W => by
    have h7 := headRow_any 0 0 0 none 0 0 0 0 [] W (Sl.nil _ _ _ _ _ _ (by omega))
    rw [(headRow_ok headOk_zero).1] at h7
    exact h7)
  have hzo : rowOk zrow = true := (headRow_ok headOk_zero).2.1
  have CM : Hid (∀ (W : World) (A0 : Option Addr) (c0 : Nat) (A1 : Option Addr) (c1 : Nat) (A2 : Option Addr) (c2 : Nat) (A3 : Option Addr) (c3 : Nat) (lo hi : Nat) (Ar : Option Addr) (cr lor hir : Nat), SlR W lo hi A0 22 c0 (List.replicate 22 []) → SlW W lo hi A1 0 c1 [] → SlR W lo hi A2 22 c2 (List.replicate 22 []) → SlW W lo hi A3 0 c3 [] → hi ≤ W.heap.size → Sl W lor hir 1 Ar 13 cr zrow → hir ≤ W.heap.size → Calls Try.prog 102 #[.agg #[.slice A0 22 c0, .slice A1 0 c1, .slice A2 22 c2, .slice A3 0 c3], .int .i64 0, .slice Ar 13 cr] W (TwRes W 22 newK 0 [] 22 newK 0 [])) := Lib.hid (fun W A0 c0 A1 c1 A2 c2 A3 c3 lo hi Ar cr lor hir h0 h1 h2 h3 hhi hr hhr => mendedAt_any A0 22 c0 _ A1 0 c1 [] A2 22 c2 _ A3 0 c3 [] lo hi W h0 h1 h2 h3 hhi 0 Ar 13 cr lor hir zrow hr hhr hzo (by omega) (by decide) (by omega) (by omega) twoOk_new)
  have HZB := Lib.hid (Box4.new w (.slice none 0 0) (.slice none 0 0) (.slice none 0 0) (.slice none 0 0) 69)
  have hsz : (w.alloc (.cells #[.slice none 0 0, .slice none 0 0, .slice none 0 0, .slice none 0 0] 69)).heap.size = w.heap.size + 1 := World.heap_size_alloc _ _
  have hb0 : Below w.heap.size w (w.alloc (.cells #[.slice none 0 0, .slice none 0 0, .slice none 0 0, .slice none 0 0] 69)) := (Below.refl _ _).alloc (Nat.le_refl _) _
  go_enter Try.func43, Try.ntmps43
  go_wp2_with fail
  generalize hW0 : w.alloc (.cells #[.slice none 0 0, .slice none 0 0, .slice none 0 0, .slice none 0 0] 69) = W0 at *
  have hs1 := Nat.le_of_eq hsz
  have hs2 := Nat.le_of_eq hsz.symm
  clear hW0 hsz
  (with_reducible refine (CN.out _).mono ?_); rintro _ w1 ⟨A0, c0, A1, c1, A2, c2, A3, c3, rfl, s0, s1, s2, s3, b1⟩
  have y1 := b1.size
  go_wp2_with fail
  (with_reducible refine (CH.out _).mono ?_); rintro _ w2 ⟨Ar, cr, rfl, sr, b2⟩
  have y2 := b2.size
  have CM2 := Lib.hid (CM.out w2 A0 c0 A1 c1 A2 c2 A3 c3 W0.heap.size w1.heap.size Ar cr w1.heap.size w2.heap.size (s0.below b2 (Nat.le_refl _)) (s1.below b2 (Nat.le_refl _)) (s2.below b2 (Nat.le_refl _)) (s3.below b2 (Nat.le_refl _)) y2 sr (Nat.le_refl _))
  have P2 := Lib.hid (b1.trans (b2.mono y1))
  clear s0 s1 s2 s3 b1 sr b2 CM
  go_wp2_with fail
  (with_reducible refine (CM2.out).mono ?_); rintro _ w3 ⟨X0, d0, X1, d1, X2, d2, X3, d3, rfl, t0, t1, t2, t3, b3⟩
  have y3 := b3.size
  have P3 : Below W0.heap.size W0 w3 := P2.out.trans (b3.mono (by omega))
  obtain ⟨p0, p1, p2, p3, g0, g1, g2, g3⟩ := HZB.out.below P3 (by omega)
  have HBZ := Lib.hid (hb0.trans (P3.mono (by omega)))
  have SS0 := Lib.hid t0
  have SS1 := Lib.hid t1
  have SS2 := Lib.hid t2
  have SS3 := Lib.hid t3
  clear t0 t1 t2 t3 b3 P3
  go_wp2_with fail
  refine bodyPost_ret (v := .agg #[.slice X0 22 d0, .slice X1 0 d1, .slice X2 22 d2, .slice X3 0 d3]) (by simp [results, Try.results43, go_sem, p0, p1, p2, p3, g0, g1, g2, g3]) rfl ⟨X0, d0, X1, d1, X2, d2, X3, d3, rfl, SS0.out.at4 (b := w.heap.size) (x := (.slice X0 22 d0)) (y := (.slice X1 0 d1)) (z := (.slice X2 22 d2)) (u := (.slice X3 0 d3)) (by omega) (by omega) (Nat.le_refl _), SS1.out.at4 (b := w.heap.size) (x := (.slice X0 22 d0)) (y := (.slice X1 0 d1)) (z := (.slice X2 22 d2)) (u := (.slice X3 0 d3)) (by omega) (by omega) (Nat.le_refl _), SS2.out.at4 (b := w.heap.size) (x := (.slice X0 22 d0)) (y := (.slice X1 0 d1)) (z := (.slice X2 22 d2)) (u := (.slice X3 0 d3)) (by omega) (by omega) (Nat.le_refl _), SS3.out.at4 (b := w.heap.size) (x := (.slice X0 22 d0)) (y := (.slice X1 0 d1)) (z := (.slice X2 22 d2)) (u := (.slice X3 0 d3)) (by omega) (by omega) (Nat.le_refl _), HBZ.out.trans (below4 (by omega))⟩
end Go.Proofs.Ytgnilmdaegnaaaa
