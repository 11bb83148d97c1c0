/- Pairs of disks: new kept disks, a head kept. No conditions. -/
import Derived.Test.YtgnilmdaegnaaaaTw4
set_option linter.unusedSimpArgs false
set_option linter.unusedVariables false
namespace Go.Proofs.Ytgnilmdaegnaaaa
open Go.RowKit
open Go.ChangeShapes Go.WideShapes Go.ChangeAt

theorem headOk_zero : headOk 0 0 0 [] = true := by decide
def zrow : List Int := headRow 0 0 0 []
def newK : List (List Int) := syncM (List.replicate 22 []) [⟨0, zrow ++ [sumM zrow]⟩]
theorem twoOk_new : twoOk (List.replicate 22 []) [] (List.replicate 22 []) [] = true := by decide
set_option maxRecDepth 100000 in
set_option maxHeartbeats 4000000 in
theorem newKept_any (w : World) : Calls Try.prog 43 #[] w (TwRes w 22 newK 0 [] 22 newK 0 []) := by
  have CN : Hid (∀ W, Calls Try.prog 103 #[.int .i64 22] W (TwRes W 22 (List.replicate 22 []) 0 [] 22 (List.replicate 22 []) 0 [])) := Lib.hid (fun W => newTwo_any 22 W (by omega) (by omega))
  have CH : Hid (∀ W, Calls Try.prog 36 #[.agg #[.int .i64 0, .int .i64 0, .int .i64 0, .slice none 0 0]] W (SlRes W 1 13 zrow)) := Lib.hid (fun W => by
    have h7 := headRow_any 0 0 0 none 0 0 0 0 [] W (Sl.nil _ _ _ _ _ _ (by omega))
    rw [(headRow_ok headOk_zero).1] at h7
    exact h7)
  have hzo : rowOk zrow = true := (headRow_ok headOk_zero).2.1
  have CM : Hid (∀ (W : World) (A0 : Option Addr) (c0 : Nat) (A1 : Option Addr) (c1 : Nat) (A2 : Option Addr) (c2 : Nat) (A3 : Option Addr) (c3 : Nat) (lo hi : Nat) (Ar : Option Addr) (cr lor hir : Nat), SlR W lo hi A0 22 c0 (List.replicate 22 []) → SlW W lo hi A1 0 c1 [] → SlR W lo hi A2 22 c2 (List.replicate 22 []) → SlW W lo hi A3 0 c3 [] → hi ≤ W.heap.size → Sl W lor hir 1 Ar 13 cr zrow → hir ≤ W.heap.size → Calls Try.prog 102 #[.agg #[.slice A0 22 c0, .slice A1 0 c1, .slice A2 22 c2, .slice A3 0 c3], .int .i64 0, .slice Ar 13 cr] W (TwRes W 22 newK 0 [] 22 newK 0 [])) := Lib.hid (fun W A0 c0 A1 c1 A2 c2 A3 c3 lo hi Ar cr lor hir h0 h1 h2 h3 hhi hr hhr => mendedAt_any A0 22 c0 _ A1 0 c1 [] A2 22 c2 _ A3 0 c3 [] lo hi W h0 h1 h2 h3 hhi 0 Ar 13 cr lor hir zrow hr hhr hzo (by omega) (by decide) (by omega) (by omega) twoOk_new)
  have HZB := Lib.hid (Box4.new w (.slice none 0 0) (.slice none 0 0) (.slice none 0 0) (.slice none 0 0) 69)
  have hsz : (w.alloc (.cells #[.slice none 0 0, .slice none 0 0, .slice none 0 0, .slice none 0 0] 69)).heap.size = w.heap.size + 1 := World.heap_size_alloc _ _
  have hb0 : Below w.heap.size w (w.alloc (.cells #[.slice none 0 0, .slice none 0 0, .slice none 0 0, .slice none 0 0] 69)) := (Below.refl _ _).alloc (Nat.le_refl _) _
  go_enter Try.func43, Try.ntmps43
  go_wp2_with fail
  generalize hW0 : w.alloc (.cells #[.slice none 0 0, .slice none 0 0, .slice none 0 0, .slice none 0 0] 69) = W0 at *
  have hs1 := Nat.le_of_eq hsz
  have hs2 := Nat.le_of_eq hsz.symm
  clear hW0 hsz
  (with_reducible refine (CN.out _).mono ?_); rintro _ w1 ⟨A0, c0, A1, c1, A2, c2, A3, c3, rfl, s0, s1, s2, s3, b1⟩
  have y1 := b1.size
  go_wp2_with fail
  (with_reducible refine (CH.out _).mono ?_); rintro _ w2 ⟨Ar, cr, rfl, sr, b2⟩
  have y2 := b2.size
  have CM2 := Lib.hid (CM.out w2 A0 c0 A1 c1 A2 c2 A3 c3 W0.heap.size w1.heap.size Ar cr w1.heap.size w2.heap.size (s0.below b2 (Nat.le_refl _)) (s1.below b2 (Nat.le_refl _)) (s2.below b2 (Nat.le_refl _)) (s3.below b2 (Nat.le_refl _)) y2 sr (Nat.le_refl _))
  have P2 := Lib.hid (b1.trans (b2.mono y1))
  clear s0 s1 s2 s3 b1 sr b2 CM
  go_wp2_with fail
  (with_reducible refine (CM2.out).mono ?_); rintro _ w3 ⟨X0, d0, X1, d1, X2, d2, X3, d3, rfl, t0, t1, t2, t3, b3⟩
  have y3 := b3.size
  have P3 : Below W0.heap.size W0 w3 := P2.out.trans (b3.mono (by omega))
  obtain ⟨p0, p1, p2, p3, g0, g1, g2, g3⟩ := HZB.out.below P3 (by omega)
  have HBZ := Lib.hid (hb0.trans (P3.mono (by omega)))
  have SS0 := Lib.hid t0
  have SS1 := Lib.hid t1
  have SS2 := Lib.hid t2
  have SS3 := Lib.hid t3
  clear t0 t1 t2 t3 b3 P3
  go_wp2_with fail
  refine bodyPost_ret (v := .agg #[.slice X0 22 d0, .slice X1 0 d1, .slice X2 22 d2, .slice X3 0 d3]) (by simp [results, Try.results43, go_sem, p0, p1, p2, p3, g0, g1, g2, g3]) rfl ⟨X0, d0, X1, d1, X2, d2, X3, d3, rfl, SS0.out.at4 (b := w.heap.size) (x := (.slice X0 22 d0)) (y := (.slice X1 0 d1)) (z := (.slice X2 22 d2)) (u := (.slice X3 0 d3)) (by omega) (by omega) (Nat.le_refl _), SS1.out.at4 (b := w.heap.size) (x := (.slice X0 22 d0)) (y := (.slice X1 0 d1)) (z := (.slice X2 22 d2)) (u := (.slice X3 0 d3)) (by omega) (by omega) (Nat.le_refl _), SS2.out.at4 (b := w.heap.size) (x := (.slice X0 22 d0)) (y := (.slice X1 0 d1)) (z := (.slice X2 22 d2)) (u := (.slice X3 0 d3)) (by omega) (by omega) (Nat.le_refl _), SS3.out.at4 (b := w.heap.size) (x := (.slice X0 22 d0)) (y := (.slice X1 0 d1)) (z := (.slice X2 22 d2)) (u := (.slice X3 0 d3)) (by omega) (by omega) (Nat.le_refl _), HBZ.out.trans (below4 (by omega))⟩
set_option maxRecDepth 100000 in
set_option maxHeartbeats 4000000 in
theorem keptHead_any (A0 : Option Addr) (n0 c0 : Nat) (k0 : List (List Int)) (A1 : Option Addr) (n1 c1 : Nat) (v0 : List WriteD) (A2 : Option Addr) (n2 c2 : Nat) (k2 : List (List Int)) (A3 : Option Addr) (n3 c3 : Nat) (v2 : List WriteD) (lo hi : Nat) (w : World) (h0 : SlR w lo hi A0 n0 c0 k0) (h1 : SlW w lo hi A1 n1 c1 v0) (h2 : SlR w lo hi A2 n2 c2 k2) (h3 : SlW w lo hi A3 n3 c3 v2) (hhi : hi ≤ w.heap.size) (u b t : Int) (A : Option Addr) (n c los his : Nat) (l : List MarkD) (hs : Sl w los his 3 A n c (l.flatMap MarkD.ints)) (hhs : his ≤ w.heap.size) (hh : headOk u b t l = true) (hu0 : 0 ≤ u) (hu1 : u ≤ 1000000000) (hd : twoOk k0 v0 k2 v2 = true) (h22 : n0 = 22) (hn1 : n1 < 60) (hn3 : n3 < 60) :
    Calls Try.prog 59 #[.agg #[.slice A0 n0 c0, .slice A1 n1 c1, .slice A2 n2 c2, .slice A3 n3 c3], .agg #[.int .i64 u, .int .i64 b, .int .i64 t, .slice A n c]] w (TwBRes w n0 k0 (n1 + 1) (v0 ++ [⟨u % 2, headRow u b t l ++ [sumM (headRow u b t l)]⟩]) n2 k2 (n3 + 1) (v2 ++ [⟨u % 2, headRow u b t l ++ [sumM (headRow u b t l)]⟩]) true) := by
  have hq : btw (u % 2) 0 ((n0 : Int) - 1) = true := btw_iff.2 ⟨by omega, by omega⟩
  obtain ⟨hr13, hro, -, -, -⟩ := headRow_ok hh
  have H0 := Lib.hid h0
  have H1 := Lib.hid h1
  have H2 := Lib.hid h2
  have H3 := Lib.hid h3
  have CH : Hid (∀ W, Below w.heap.size w W → Calls Try.prog 36 #[.agg #[.int .i64 u, .int .i64 b, .int .i64 t, .slice A n c]] W (SlRes W 1 13 (headRow u b t l))) := Lib.hid (fun W hW => by
    have h7 := headRow_any u b t A n c los his l W (hs.below hW hhs)
    rw [hr13] at h7
    exact h7)
  generalize headRow u b t l = zr at *
  have CK : Hid (∀ (W : World) (AR : Option Addr) (cr lor hir : Nat), Below w.heap.size w W → Sl W lor hir 1 AR 13 cr zr → hir ≤ W.heap.size → Calls Try.prog 115 #[.agg #[.slice A0 n0 c0, .slice A1 n1 c1, .slice A2 n2 c2, .slice A3 n3 c3], .int .i64 (u.tmod 2), .slice AR 13 cr] W (TwBRes W n0 k0 (n1 + 1) (v0 ++ [⟨u % 2, zr ++ [sumM zr]⟩]) n2 k2 (n3 + 1) (v2 ++ [⟨u % 2, zr ++ [sumM zr]⟩]) true)) := Lib.hid (fun W AR cr lor hir hW hr hhr => by
    rw [Int.tmod_eq_emod_of_nonneg hu0]
    exact keptRow_any A0 n0 c0 k0 A1 n1 c1 v0 A2 n2 c2 k2 A3 n3 c3 v2 lo hi W (H0.out.below hW hhi) (H1.out.below hW hhi) (H2.out.below hW hhi) (H3.out.below hW hhi) (Nat.le_trans hhi hW.size) (u % 2) AR 13 cr lor hir zr hr hhr hro (by omega) hq hn1 hn3 hd h22 (by omega))
  have T1 : Hid (∀ W, Below (w.heap.size + 3) (((w.alloc (.cells #[.slice A0 n0 c0, .slice A1 n1 c1, .slice A2 n2 c2, .slice A3 n3 c3] 69)).alloc (.cells #[.int .i64 u, .int .i64 b, .int .i64 t, .slice A n c] 49)).alloc (.cells #[.slice none 0 0, .slice none 0 0, .slice none 0 0, .slice none 0 0] 69)) W → (Box4 W w.heap.size (.slice A0 n0 c0) (.slice A1 n1 c1) (.slice A2 n2 c2) (.slice A3 n3 c3) ∧ Box4 W (w.heap.size + 1) (.int .i64 u) (.int .i64 b) (.int .i64 t) (.slice A n c) ∧ Box4 W (w.heap.size + 2) (.slice none 0 0) (.slice none 0 0) (.slice none 0 0) (.slice none 0 0))) := Lib.hid (fun W hW => by
    have e1 : (w.alloc (.cells #[.slice A0 n0 c0, .slice A1 n1 c1, .slice A2 n2 c2, .slice A3 n3 c3] 69)).heap.size = w.heap.size + 1 := World.heap_size_alloc _ _
    have e2 : ((w.alloc (.cells #[.slice A0 n0 c0, .slice A1 n1 c1, .slice A2 n2 c2, .slice A3 n3 c3] 69)).alloc (.cells #[.int .i64 u, .int .i64 b, .int .i64 t, .slice A n c] 49)).heap.size = w.heap.size + 2 := by simp only [World.heap_size_alloc]
    have z0 := ((Box4.new w (.slice A0 n0 c0) (.slice A1 n1 c1) (.slice A2 n2 c2) (.slice A3 n3 c3) 69).below ((Below.refl _ _).alloc (Nat.le_refl _) (.cells #[.int .i64 u, .int .i64 b, .int .i64 t, .slice A n c] 49)) (by omega)).below ((Below.refl _ _).alloc (Nat.le_refl _) (.cells #[.slice none 0 0, .slice none 0 0, .slice none 0 0, .slice none 0 0] 69)) (by omega)
    have z1 := (Box4.new (w.alloc (.cells #[.slice A0 n0 c0, .slice A1 n1 c1, .slice A2 n2 c2, .slice A3 n3 c3] 69)) (.int .i64 u) (.int .i64 b) (.int .i64 t) (.slice A n c) 49).below ((Below.refl _ _).alloc (Nat.le_refl _) (.cells #[.slice none 0 0, .slice none 0 0, .slice none 0 0, .slice none 0 0] 69)) (by omega)
    have z2 := Box4.new ((w.alloc (.cells #[.slice A0 n0 c0, .slice A1 n1 c1, .slice A2 n2 c2, .slice A3 n3 c3] 69)).alloc (.cells #[.int .i64 u, .int .i64 b, .int .i64 t, .slice A n c] 49)) (.slice none 0 0) (.slice none 0 0) (.slice none 0 0) (.slice none 0 0) 69
    rw [e1] at z1
    rw [e2] at z2
    exact ⟨z0.below hW (by omega), z1.below hW (by omega), z2.below hW (by omega)⟩)
  have hs9 : (((w.alloc (.cells #[.slice A0 n0 c0, .slice A1 n1 c1, .slice A2 n2 c2, .slice A3 n3 c3] 69)).alloc (.cells #[.int .i64 u, .int .i64 b, .int .i64 t, .slice A n c] 49)).alloc (.cells #[.slice none 0 0, .slice none 0 0, .slice none 0 0, .slice none 0 0] 69)).heap.size = w.heap.size + 3 := by simp only [World.heap_size_alloc]
  have hb9 : Below w.heap.size w (((w.alloc (.cells #[.slice A0 n0 c0, .slice A1 n1 c1, .slice A2 n2 c2, .slice A3 n3 c3] 69)).alloc (.cells #[.int .i64 u, .int .i64 b, .int .i64 t, .slice A n c] 49)).alloc (.cells #[.slice none 0 0, .slice none 0 0, .slice none 0 0, .slice none 0 0] 69)) := by (repeat' (first | with_reducible exact Below.refl _ _ | with_reducible assumption | with_reducible refine Below.drew ?_ | with_reducible refine Below.alloc ?_ ?_ _ | with_reducible refine Below.setCell ?_ ?_ _ | with_reducible refine Below.trans ?_ (Below.mono (by assumption) ?_) | ((try simp only [World.heap_size_alloc, World.heap_size_drew, World.heap_size_setCell]); omega)))
  clear h0 h1 h2 h3 hs hh h22 hq
  go_enter Try.func59, Try.ntmps59
  go_upto_region 1 with fail
  generalize hW0 : (((w.alloc (.cells #[.slice A0 n0 c0, .slice A1 n1 c1, .slice A2 n2 c2, .slice A3 n3 c3] 69)).alloc (.cells #[.int .i64 u, .int .i64 b, .int .i64 t, .slice A n c] 49)).alloc (.cells #[.slice none 0 0, .slice none 0 0, .slice none 0 0, .slice none 0 0] 69)) = W0 at *
  have hs9a := Nat.le_of_eq hs9
  have hs9b := Nat.le_of_eq hs9.symm
  clear hW0 hs9
  have HB9 := Lib.hid hb9
  obtain ⟨⟨a0, a1, a2, a3, -, -, -, -⟩, ⟨q0, q1, q2, q3, -, -, -, -⟩, p0, p1, p2, p3, g0, g1, g2, g3⟩ := T1.out _ (Below.refl _ _)
  clear hb9
  go_region_law (first | (go_simp; go_at_call 36; (with_reducible refine (CH.out _ (HB9.out.trans (Below.mono (B := W0.heap.size) (by (repeat' (first | with_reducible exact Below.refl _ _ | with_reducible assumption | with_reducible refine Below.drew ?_ | with_reducible refine Below.alloc ?_ ?_ _ | with_reducible refine Below.setCell ?_ ?_ _ | with_reducible refine Below.trans ?_ (Below.mono (by assumption) ?_) | ((try simp only [World.heap_size_alloc, World.heap_size_drew, World.heap_size_setCell]); omega)))) (by omega)))).mono ?_); rintro _ w1 ⟨AR, cr, rfl, sr, b1⟩; have hb1 : Below W0.heap.size W0 w1 := (by (repeat' (first | with_reducible exact Below.refl _ _ | with_reducible assumption | with_reducible refine Below.drew ?_ | with_reducible refine Below.alloc ?_ ?_ _ | with_reducible refine Below.setCell ?_ ?_ _ | with_reducible refine Below.trans ?_ (Below.mono (by assumption) ?_) | ((try simp only [World.heap_size_alloc, World.heap_size_drew, World.heap_size_setCell]); omega)))); have y1 := hb1.size; have SR := Lib.hid sr; clear a0 a1 a2 a3 q0 q1 q2 q3 p0 p1 p2 p3 g0 g1 g2 g3; obtain ⟨⟨a0, a1, a2, a3, -, -, -, -⟩, ⟨q0, q1, q2, q3, -, -, -, -⟩, p0, p1, p2, p3, g0, g1, g2, g3⟩ := T1.out _ (hb1.mono (by omega)); have HB1 := Lib.hid hb1; clear sr b1 hb1) | (go_simp; go_at_call 115; (with_reducible refine (CK.out _ _ _ _ _ (HB9.out.trans (HB1.out.mono (by omega))) SR.out (Nat.le_refl _)).mono ?_); rintro _ w4 ⟨X0, d0, X1, d1, X2, d2, X3, d3, rfl, t0, t1, t2, t3, b4⟩; have y4 := b4.size; have P4 : Below W0.heap.size W0 w4 := HB1.out.trans (b4.mono y1); clear a0 a1 a2 a3 q0 q1 q2 q3 p0 p1 p2 p3 g0 g1 g2 g3; obtain ⟨p0, p1, p2, p3, g0, g1, g2, g3⟩ := (T1.out _ (P4.mono (by omega))).2.2; have HBZ := Lib.hid (HB9.out.trans (P4.mono (by omega))); have SS0 := Lib.hid t0; have SS1 := Lib.hid t1; have SS2 := Lib.hid t2; have SS3 := Lib.hid t3; clear t0 t1 t2 t3 b4 P4))
  all_goals
    go_wp2_with fail
    refine bodyPost_ret (v := .tuple #[.agg #[.slice X0 n0 d0, .slice X1 (n1 + 1) d1, .slice X2 n2 d2, .slice X3 (n3 + 1) d3], .bool true]) (by simp [results, Try.results59, go_sem, p0, p1, p2, p3, g0, g1, g2, g3]) rfl ⟨X0, d0, X1, d1, X2, d2, X3, d3, rfl, SS0.out.at4 (b := w.heap.size + 2) (x := (.slice X0 n0 d0)) (y := (.slice X1 (n1 + 1) d1)) (z := (.slice X2 n2 d2)) (u := (.slice X3 (n3 + 1) d3)) (by omega) (by omega) (Nat.le_refl _), SS1.out.at4 (b := w.heap.size + 2) (x := (.slice X0 n0 d0)) (y := (.slice X1 (n1 + 1) d1)) (z := (.slice X2 n2 d2)) (u := (.slice X3 (n3 + 1) d3)) (by omega) (by omega) (Nat.le_refl _), SS2.out.at4 (b := w.heap.size + 2) (x := (.slice X0 n0 d0)) (y := (.slice X1 (n1 + 1) d1)) (z := (.slice X2 n2 d2)) (u := (.slice X3 (n3 + 1) d3)) (by omega) (by omega) (Nat.le_refl _), SS3.out.at4 (b := w.heap.size + 2) (x := (.slice X0 n0 d0)) (y := (.slice X1 (n1 + 1) d1)) (z := (.slice X2 n2 d2)) (u := (.slice X3 (n3 + 1) d3)) (by omega) (by omega) (Nat.le_refl _), HBZ.out.trans (below4 (by omega))⟩
end Go.Proofs.Ytgnilmdaegnaaaa
