/- The law FnOldLife returns true for every input. No conditions. -/
import Derived.Test.YtgnilmdaegnaaaaZOB
import Derived.Test.YtgnilmdaegnaaaaZCode
import Derived.Deep.RegionHeld3
import Derived.Deep.RegionLaw
import Derived.Deep.DeepCutAuto
set_option linter.unusedSimpArgs false
set_option linter.unusedVariables false
namespace Go.Proofs.Ytgnilmdaegnaaaa
open Go.ChangeShapes Go.WideShapes Go.ChangeAt Go.RowKit
/-- A box of two disks whose slices lie elsewhere. -/
structure TdAt (v : World) (lo hi b n1 : Nat) (k0 k2 : List (List Int)) (vs : List WriteD) (X0 : Option Addr) (d0 : Nat) (X1 : Option Addr) (d1 : Nat) (X2 : Option Addr) (d2 : Nat) (X3 : Option Addr) (d3 : Nat) : Prop where
  box : Box4 v b (.slice X0 22 d0) (.slice X1 n1 d1) (.slice X2 22 d2) (.slice X3 n1 d3)
  s0 : SlR v lo hi X0 22 d0 k0
  s1 : SlW v lo hi X1 n1 d1 vs
  s2 : SlR v lo hi X2 22 d2 k2
  s3 : SlW v lo hi X3 n1 d3 vs
  h3 : hi ≤ v.heap.size
section
variable {v v' : World} {lo hi b n1 : Nat} {k0 k2 : List (List Int)} {vs : List WriteD} {X0 : Option Addr} {d0 : Nat} {X1 : Option Addr} {d1 : Nat} {X2 : Option Addr} {d2 : Nat} {X3 : Option Addr} {d3 : Nat}
theorem TdAt.below {B : Nat} (h : TdAt v lo hi b n1 k0 k2 vs X0 d0 X1 d1 X2 d2 X3 d3) (hb : Below B v v') (hB : hi ≤ B) (hbB : b < B) : TdAt v' lo hi b n1 k0 k2 vs X0 d0 X1 d1 X2 d2 X3 d3 :=
  ⟨h.box.below hb hbB, h.s0.below hb hB, h.s1.below hb hB, h.s2.below hb hB, h.s3.below hb hB, Nat.le_trans h.h3 hb.size⟩
theorem TdAt.upd {p q : Nat} (h : TdAt v lo hi b n1 k0 k2 vs X0 d0 X1 d1 X2 d2 X3 d3) (hu : Upd p q v v') (ho : hi ≤ p ∨ q ≤ lo) (hob : b < p ∨ q ≤ b) : TdAt v' lo hi b n1 k0 k2 vs X0 d0 X1 d1 X2 d2 X3 d3 :=
  ⟨h.box.upd hu hob, h.s0.upd hu ho, h.s1.upd hu ho, h.s2.upd hu ho, h.s3.upd hu ho, Nat.le_trans h.h3 hu.size⟩
theorem TdAt.put {z0 z1 z2 z3 : Value} (q : Box4 v b z0 z1 z2 z3) (s0 : SlR v lo hi X0 22 d0 k0) (s1 : SlW v lo hi X1 n1 d1 vs) (s2 : SlR v lo hi X2 22 d2 k2) (s3 : SlW v lo hi X3 n1 d3 vs) (hh : hi ≤ v.heap.size) (ho : hi ≤ b ∨ b + 1 ≤ lo) : TdAt ((((v.setCell ⟨b, 0, none⟩ (.slice X0 22 d0)).setCell ⟨b, 1, none⟩ (.slice X1 n1 d1)).setCell ⟨b, 2, none⟩ (.slice X2 22 d2)).setCell ⟨b, 3, none⟩ (.slice X3 n1 d3)) lo hi b n1 k0 k2 vs X0 d0 X1 d1 X2 d2 X3 d3 :=
  ⟨q.set _ _ _ _, s0.upd up4 ho, s1.upd up4 ho, s2.upd up4 ho, s3.upd up4 ho, by rw [size4]; exact hh⟩
theorem Box3.set {w : World} {v0 v1 v2 : Value} (h : Box3 w b v0 v1 v2) (x y z : Value) : Box3 (((w.setCell ⟨b, 0, none⟩ x).setCell ⟨b, 1, none⟩ y).setCell ⟨b, 2, none⟩ z) b x y z := by
  refine ⟨(World.cell?_setCell_other _ _ _ _ (by simp)).trans ((World.cell?_setCell_other _ _ _ _ (by simp)).trans (World.cell?_setCell_same _ _ _ h.c0)), (World.cell?_setCell_other _ _ _ _ (by simp)).trans (World.cell?_setCell_same _ _ _ ((World.cell?_setCell_other _ _ _ _ (by simp)).trans h.c1)), World.cell?_setCell_same _ _ _ ((World.cell?_setCell_other _ _ _ _ (by simp)).trans ((World.cell?_setCell_other _ _ _ _ (by simp)).trans h.c2)), ?_, ?_, ?_⟩
  · simp only [World.frozen?_setCell]; exact h.f0
  · simp only [World.frozen?_setCell]; exact h.f1
  · simp only [World.frozen?_setCell]; exact h.f2
end
namespace OldLife
set_option maxRecDepth 100000 in
set_option maxHeartbeats 64000000 in
theorem law_any (A : Option Addr) (n c : Nat) (w : World) (h : ArgB w A n c) : Calls Try.prog 13 #[.slice A n c] w fun e w' => e = .returned (.bool true) ∧ Below w.heap.size w w' := by
  rcases Nat.lt_or_ge 4096 n with hn0 | hn0
  · have hbg : decide (4096 < n) = true := by simpa using hn0
    clear h
    go_enter Try.func13, Try.ntmps13
    go_wp2_with fail
    (with_reducible refine (big_any _ _ _ _).mono ?_); rintro _ _ ⟨rfl, rfl⟩
    rw [hbg]
    go_wp2_with fail
    go_ret
    exact ⟨rfl, Below.refl _ _⟩
  have hc := h.code hn0
  have hbg : decide (4096 < n) = false := by simp; omega
  clear h
  go_enter Try.func13, Try.ntmps13
  go_wp2_with fail
  (with_reducible refine (big_any _ _ _ _).mono ?_); rintro _ _ ⟨rfl, rfl⟩
  rw [hbg]
  go_wp2_with fail
  (with_reducible refine (roll_any _ _ _ _ 915 _ hc (Nat.le_refl _) (by omega) (by omega)).mono ?_); rintro _ w1 ⟨rfl, z1, d1, b1'⟩
  have d1' : DiceAt (w1.alloc (.cells #[] 32)) w.heap.size w.heap.size A n c := d1.below (B := w1.heap.size) (by (repeat' (first | with_reducible exact Below.refl _ _ | with_reducible assumption | with_reducible refine Below.drew ?_ | with_reducible refine Below.alloc ?_ ?_ _ | with_reducible refine Below.setCell ?_ ?_ _ | with_reducible refine Below.trans ?_ (Below.mono (by assumption) ?_) | ((try simp only [World.heap_size_alloc, World.heap_size_drew, World.heap_size_setCell]); omega)))) z1
  have D1 := Lib.hid d1'
  have z2 : (w1.alloc (.cells #[] 32)).heap.size = w1.heap.size + 1 := World.heap_size_alloc _ _
  have HB1 : Hid (Below w.heap.size w (w1.alloc (.cells #[] 32))) := Lib.hid (by (repeat' (first | with_reducible exact Below.refl _ _ | with_reducible assumption | with_reducible refine Below.drew ?_ | with_reducible refine Below.alloc ?_ ?_ _ | with_reducible refine Below.setCell ?_ ?_ _ | with_reducible refine Below.trans ?_ (Below.mono (by assumption) ?_) | ((try simp only [World.heap_size_alloc, World.heap_size_drew, World.heap_size_setCell]); omega))))
  have CW : Hid (∀ (W : World) (nl : Nat), DiceAt W w.heap.size w.heap.size A n c → nl ≤ 8 → Calls Try.prog 48 #[.pointer (some ⟨w.heap.size, 0, none⟩), .slice (some ⟨w1.heap.size, 0, none⟩) 0 0, .int .i64 (nl : Int)] W (W9Res W w.heap.size w.heap.size A n c st0 nl)) := Lib.hid (fun W nl hW hnl => w9List_any A n c _ _ _ 0 0 0 0 [] nl W hW (Sl.nil _ _ _ _ _ _ (by omega)) (fun e he => absurd he (by simp)) (by omega))
  clear d1 d1' b1' hc
  go_wp2_with fail
  (with_reducible refine (below_any _ _ _ _ _ 8 _ (by omega) (by omega) D1.out).mono ?_); rintro _ w2 ⟨x, rfl, x0, x1, d2, u2⟩
  obtain ⟨m0, rfl⟩ := Int.eq_ofNat_of_zero_le x0
  have hm0 : m0 < 8 := by omega
  obtain ⟨nl, hnl⟩ : ∃ x, x = m0 + 1 := ⟨_, rfl⟩
  have knl : IntKind.i64.wrap (1 + (m0 : Int)) = (nl : Int) := by
    rw [show 1 + (m0 : Int) = (nl : Int) by omega]
    exact IntWalk.i64_in _ (by omega)
  have hnl1 : 1 ≤ nl := by omega
  have hnl8 : nl ≤ 8 := by omega
  have y2 := u2.size
  rw [z2] at y2
  have D2 := Lib.hid d2
  have HB2 := Lib.hid (HB1.out.trans (u2.below (Nat.le_refl _) (by omega)))
  clear hnl d2 u2 x0 x1 D1 HB1
  go_wp2_with fail
  (with_reducible refine (CW.out _ _ D2.out hnl8).mono ?_); rintro _ w3 ⟨ds, B, q, hds, hdr, rfl, s3, d3, u3⟩
  have y3 := u3.size
  have hll := genE_len ds st0
  rw [hds] at hll
  have HEO := Lib.hid (gen0_es hdr (by omega))
  have HMO : Hid (∀ (dm : List DrawE) (n1 : Nat), (∀ d ∈ dm, drawOk d) → dm.length ≤ 8 → n1 ≤ nl → EsOk ((genE st0 ds).take n1 ++ genE (stA ((genE st0 ds).take n1)) dm) ∧ (∀ e ∈ (genE st0 ds).take n1, aheadOk e)) := Lib.hid (fun dm n1 h1 h2 h3 => ⟨more_es hdr (by omega) h1 h2 (by omega), more_ahead hdr (by omega) n1⟩)
  generalize genE st0 ds = l at *
  have HLL := Lib.hid hll
  have S3 := Lib.hid s3
  have D3 := Lib.hid d3
  have HB3 := Lib.hid (HB2.out.trans (u3.below (Nat.le_refl _) (by omega)))
  clear hds hdr s3 d3 u3 D2 HB2 CW hll
  go_wp2_with fail
  (with_reducible refine (newKept_any _).mono ?_); rintro _ w4 ⟨A0, c0, A1, c1, A2, c2, A3, c3, rfl, s0, s1, s2, s3, b4⟩
  have y4 := b4.size
  have D4 := Lib.hid (D3.out.below b4 (by omega))
  have S4 := Lib.hid (S3.out.below b4 (Nat.le_refl _))
  have HB4 := Lib.hid (HB3.out.trans (b4.mono (by omega)))
  have T0 := Lib.hid s0
  have T1 := Lib.hid s1
  have T2 := Lib.hid s2
  have T3 := Lib.hid s3
  clear D3 S3 HB3 s0 s1 s2 s3 b4
  go_wp2_with fail
  (with_reducible refine (below_any _ _ _ _ _ 2 _ (by omega) (by omega) D4.out).mono ?_); rintro _ w5 ⟨x, rfl, x0, x1, d5, u5⟩
  obtain ⟨s, rfl⟩ := Int.eq_ofNat_of_zero_le x0
  have hs1 : s ≤ nl := by omega
  have y5 := u5.size
  have D5 := Lib.hid d5
  have S5 := Lib.hid (S4.out.upd u5 (.inr (by omega)))
  have HB5 := Lib.hid (HB4.out.trans (u5.below (Nat.le_refl _) (by omega)))
  have CK5 : Hid _ := Lib.hid (w9Kept_any A0 c0 newK A1 c1 A2 c2 A3 c3 w3.heap.size w4.heap.size w5 (T0.out.upd u5 (.inr (by omega))) (T1.out.upd u5 (.inr (by omega))) (T2.out.upd u5 (.inr (by omega))) (T3.out.upd u5 (.inr (by omega))) y5 diskOk_newK B nl q _ _ s l S5.out (by omega) (by omega) hs1 HEO.out.ok)
  obtain ⟨hD1, hv1⟩ := first_disks HEO.out s
  have hvl : ((l.map wrE).drop s).length = nl - s := by rw [List.length_drop, List.length_map, HLL.out]
  generalize syncM newK ((l.map wrE).take s) = k1 at *
  generalize (l.map wrE).drop s = v1 at *
  have LIFE := Lib.hid (life HEO.out hD1 hv1)
  have CBF : Hid (∀ (W : World) (X0 : Option Addr) (d0 : Nat) (X1 : Option Addr) (d1 : Nat) (X2 : Option Addr) (d2 : Nat) (X3 : Option Addr) (d3 : Nat) (m lo hi : Nat) (Af : Option Addr) (nf cf lof hif : Nat) (fs : List Int), SlR W lo hi X0 22 d0 k1 → SlW W lo hi X1 m d1 v1 → SlR W lo hi X2 22 d2 k1 → SlW W lo hi X3 m d3 v1 → hi ≤ W.heap.size → Sl W lof hif 1 Af nf cf fs → hif ≤ W.heap.size → nf ≤ 1000 → Calls Try.prog 62 #[.agg #[.slice X0 22 d0, .slice X1 m d1, .slice X2 22 d2, .slice X3 m d3], .slice Af nf cf] W (TwRes W 22 (fallM k1 v1 (evs fs)) 0 [] 22 (fallM k1 v1 (ods fs)) 0 [])) := Lib.hid (fun W X0 d0 X1 d1 X2 d2 X3 d3 m lo hi Af nf cf lof hif fs h0 h1 h2 h3 hhi hf hhf hnf => bothFallenN_any X0 22 d0 k1 X1 m d1 v1 X2 22 d2 k1 X3 m d3 v1 lo hi W h0 h1 h2 h3 hhi Af nf cf lof hif fs hf hhf hnf (life_waits HEO.out hD1 hv1 (by omega)))
  clear hD1 hv1 hvl d5 u5 x0 x1 D4 S4 HB4 T0 T1 T2 T3
  go_wp2_with fail
  (with_reducible refine (CK5.out).mono ?_); rintro _ w6 ⟨X0, d0, X1, d1, X2, d2, X3, d3, rfl, s0, s1, s2, s3, b6⟩
  have y6 := b6.size
  obtain ⟨m1, hm1⟩ : ∃ x, x = nl - s := ⟨_, rfl⟩
  rw [← hm1] at s1 s3 ⊢
  clear hm1
  go_upto_region 6 with fail
  have hszA : (w6.alloc (.cells #[.slice X0 22 d0, .slice X1 m1 d1, .slice X2 22 d2, .slice X3 m1 d3] 69)).heap.size = w6.heap.size + 1 := World.heap_size_alloc _ _
  have hal : Below w6.heap.size w6 (w6.alloc (.cells #[.slice X0 22 d0, .slice X1 m1 d1, .slice X2 22 d2, .slice X3 m1 d3] 69)) := (Below.refl _ _).alloc (Nat.le_refl _) _
  have T6 := Lib.hid (show TdAt (w6.alloc (.cells #[.slice X0 22 d0, .slice X1 m1 d1, .slice X2 22 d2, .slice X3 m1 d3] 69)) w5.heap.size w6.heap.size w6.heap.size m1 k1 k1 v1 X0 d0 X1 d1 X2 d2 X3 d3 from ⟨Box4.new w6 (.slice X0 22 d0) (.slice X1 m1 d1) (.slice X2 22 d2) (.slice X3 m1 d3) 69, s0.below hal (Nat.le_refl _), s1.below hal (Nat.le_refl _), s2.below hal (Nat.le_refl _), s3.below hal (Nat.le_refl _), by omega⟩)
  have D6 := Lib.hid (D5.out.below (b6.trans (hal.mono y6)) (by omega))
  have S6 := Lib.hid (S5.out.below (b6.trans (hal.mono y6)) (by omega))
  have HB6 := Lib.hid (HB5.out.trans ((b6.trans (hal.mono y6)).mono (by omega)))
  generalize hW6 : w6.alloc (.cells #[.slice X0 22 d0, .slice X1 m1 d1, .slice X2 22 d2, .slice X3 m1 d3] 69) = wr at *
  have hsza := Nat.le_of_eq hszA
  have hszb := Nat.le_of_eq hszA.symm
  clear hW6 hszA hal s0 s1 s2 s3 b6 D5 S5 HB5 CK5
  obtain ⟨g5, hg5⟩ : ∃ x, x = w6.heap.size := ⟨_, rfl⟩
  rw [← hg5] at T6 hsza hszb
  generalize w6.heap.size = z6 at *
  subst hg5
  have hx1 : w.heap.size + 1 ≤ w2.heap.size := by omega
  have hx2 : w2.heap.size ≤ w3.heap.size := by omega
  have hx3 : w3.heap.size ≤ w5.heap.size := by omega
  have hx4 : w5.heap.size ≤ g5 := by omega
  generalize w5.heap.size = z5 at *
  generalize w4.heap.size = z4 at *
  generalize w3.heap.size = z3 at *
  generalize w2.heap.size = z2' at *
  clear y2 y3 y4 y5 y6 z1 z2
  obtain ⟨nf, hnf⟩ : ∃ x, x = 2 * nl := ⟨_, rfl⟩
  have knf : IntKind.i64.wrap (2 * (nl : Int)) = (nf : Int) := by
    rw [show 2 * (nl : Int) = (nf : Int) by omega]
    exact IntWalk.i64_in _ (by omega)
  have hnf16 : nf ≤ 16 := by omega
  clear hnf
  obtain ⟨p0, p1, p2, p3, pf0, pf1, pf2, pf3⟩ := T6.out.box
  go_cut [33] (fun s33 wx => ∃ (fs : List Int) (Y0 : Option Addr) (f0 : Nat) (Y1 : Option Addr) (f1 : Nat) (Y2 : Option Addr) (f2 : Nat) (Y3 : Option Addr) (f3 : Nat) (lo' hi' : Nat) (wy : World), s33 = .int .i64 (nf : Int) ∧ TdAt wx lo' hi' g5 0 (fallM k1 v1 (evs fs)) (fallM k1 v1 (ods fs)) [] Y0 f0 Y1 f1 Y2 f2 Y3 f3 ∧ wr.heap.size ≤ lo' ∧ DiceAt wx w.heap.size w.heap.size A n c ∧ Upd w.heap.size (w.heap.size + 1) wr wy ∧ Upd g5 (g5 + 1) wy wx)
  case first =>
    go_region_law (first | (go_simp; go_at_call 63; (with_reducible refine (w9FatesN_any _ _ _ _ _ nf _ (D6.out.below (B := wr.heap.size) (by (repeat' (first | with_reducible exact Below.refl _ _ | with_reducible assumption | with_reducible refine Below.drew ?_ | with_reducible refine Below.alloc ?_ ?_ _ | with_reducible refine Below.setCell ?_ ?_ _ | ((try simp only [World.heap_size_alloc, World.heap_size_drew, World.heap_size_setCell]); omega)))) (by omega)) (by omega)).mono ?_); rintro _ wa ⟨Bf, qf, fs, rfl, hfl, hf3, sf, da, ua⟩; have va : Upd w.heap.size (w.heap.size + 1) wr wa := Upd.trans (Upd.of_below (by (repeat' (first | with_reducible exact Below.refl _ _ | with_reducible assumption | with_reducible refine Below.drew ?_ | with_reducible refine Below.alloc ?_ ?_ _ | with_reducible refine Below.setCell ?_ ?_ _ | ((try simp only [World.heap_size_alloc, World.heap_size_drew, World.heap_size_setCell]); omega))))) ua; have za := va.size; have DA := Lib.hid da; have SF := Lib.hid (sf.mono (lo' := wr.heap.size) (by (try simp only [World.heap_size_alloc, World.heap_size_drew, World.heap_size_setCell]); omega) (Nat.le_refl _)); have TA := Lib.hid (T6.out.upd va (.inr (by omega)) (.inr (by omega))); clear p0 p1 p2 p3 pf0 pf1 pf2 pf3; obtain ⟨p0, p1, p2, p3, pf0, pf1, pf2, pf3⟩ := TA.out.box; clear da ua sf hfl hf3) | (go_simp; go_at_call 62; (with_reducible refine (CBF.out _ _ _ _ _ _ _ _ _ _ _ _ _ _ _ _ _ fs (TA.out.s0.below (B := wa.heap.size) (by (repeat' (first | with_reducible exact Below.refl _ _ | with_reducible assumption | with_reducible refine Below.drew ?_ | with_reducible refine Below.alloc ?_ ?_ _ | with_reducible refine Below.setCell ?_ ?_ _ | ((try simp only [World.heap_size_alloc, World.heap_size_drew, World.heap_size_setCell]); omega)))) TA.out.h3) (TA.out.s1.below (B := wa.heap.size) (by (repeat' (first | with_reducible exact Below.refl _ _ | with_reducible assumption | with_reducible refine Below.drew ?_ | with_reducible refine Below.alloc ?_ ?_ _ | with_reducible refine Below.setCell ?_ ?_ _ | ((try simp only [World.heap_size_alloc, World.heap_size_drew, World.heap_size_setCell]); omega)))) TA.out.h3) (TA.out.s2.below (B := wa.heap.size) (by (repeat' (first | with_reducible exact Below.refl _ _ | with_reducible assumption | with_reducible refine Below.drew ?_ | with_reducible refine Below.alloc ?_ ?_ _ | with_reducible refine Below.setCell ?_ ?_ _ | ((try simp only [World.heap_size_alloc, World.heap_size_drew, World.heap_size_setCell]); omega)))) TA.out.h3) (TA.out.s3.below (B := wa.heap.size) (by (repeat' (first | with_reducible exact Below.refl _ _ | with_reducible assumption | with_reducible refine Below.drew ?_ | with_reducible refine Below.alloc ?_ ?_ _ | with_reducible refine Below.setCell ?_ ?_ _ | ((try simp only [World.heap_size_alloc, World.heap_size_drew, World.heap_size_setCell]); omega)))) TA.out.h3) (Nat.le_trans TA.out.h3 (by (try simp only [World.heap_size_alloc, World.heap_size_drew, World.heap_size_setCell]); omega)) (SF.out.below (B := wa.heap.size) (by (repeat' (first | with_reducible exact Below.refl _ _ | with_reducible assumption | with_reducible refine Below.drew ?_ | with_reducible refine Below.alloc ?_ ?_ _ | with_reducible refine Below.setCell ?_ ?_ _ | ((try simp only [World.heap_size_alloc, World.heap_size_drew, World.heap_size_setCell]); omega)))) (Nat.le_refl _)) (by (try simp only [World.heap_size_alloc, World.heap_size_drew, World.heap_size_setCell]); omega) (by omega)).mono ?_); rintro _ wb ⟨Y0, f0, Y1, f1, Y2, f2, Y3, f3, rfl, s0, s1, s2, s3, bb⟩; have cb : Below wa.heap.size wa wb := Below.trans (by (repeat' (first | with_reducible exact Below.refl _ _ | with_reducible assumption | with_reducible refine Below.drew ?_ | with_reducible refine Below.alloc ?_ ?_ _ | with_reducible refine Below.setCell ?_ ?_ _ | ((try simp only [World.heap_size_alloc, World.heap_size_drew, World.heap_size_setCell]); omega)))) (bb.mono (by (try simp only [World.heap_size_alloc, World.heap_size_drew, World.heap_size_setCell]); omega)); have vb : Upd w.heap.size (w.heap.size + 1) wr wb := va.trans (Upd.of_below cb); have zb := cb.size; have DB := Lib.hid (DA.out.below cb (by omega)); have KB := Lib.hid (TA.out.box.below cb (by omega)); have Q0 := Lib.hid (s0.mono (lo' := wa.heap.size) (by (try simp only [World.heap_size_alloc, World.heap_size_drew, World.heap_size_setCell]); omega) (Nat.le_refl _)); have Q1 := Lib.hid (s1.mono (lo' := wa.heap.size) (by (try simp only [World.heap_size_alloc, World.heap_size_drew, World.heap_size_setCell]); omega) (Nat.le_refl _)); have Q2 := Lib.hid (s2.mono (lo' := wa.heap.size) (by (try simp only [World.heap_size_alloc, World.heap_size_drew, World.heap_size_setCell]); omega) (Nat.le_refl _)); have Q3 := Lib.hid (s3.mono (lo' := wa.heap.size) (by (try simp only [World.heap_size_alloc, World.heap_size_drew, World.heap_size_setCell]); omega) (Nat.le_refl _)); clear p0 p1 p2 p3 pf0 pf1 pf2 pf3; obtain ⟨p0, p1, p2, p3, pf0, pf1, pf2, pf3⟩ := id KB.out; clear s0 s1 s2 s3 bb))
    all_goals
      go_wp2_with fail
      go_meet
      exact ⟨fs, Y0, f0, Y1, f1, Y2, f2, Y3, f3, wa.heap.size, wb.heap.size, wb, rfl, TdAt.put KB.out Q0.out Q1.out Q2.out Q3.out (Nat.le_refl _) (.inr (by omega)), by omega, DB.out.upd up4 (.inl (by omega)), vb, up4⟩
  case rest =>
    obtain ⟨wq, rfl⟩ : ∃ x, x = wc := ⟨wc, rfl⟩
    obtain ⟨fs, X0, d0, X1, d1, X2, d2, X3, d3, lo7, hi7, wy, rfl, t7, hlo7, d7, ua7, ub7⟩ := hcut
    have ya := ua7.size
    have yb := ub7.size
    have S7 := Lib.hid ((S6.out.upd ua7 (.inr (by omega))).upd ub7 (.inl (by omega)))
    have HB7 := Lib.hid ((HB6.out.trans (ua7.below (Nat.le_refl _) (by omega))).trans (ub7.below (by omega) (by omega)))
    have T7 := Lib.hid t7
    have D7 := Lib.hid d7
    clear t7 d7 ua7 ub7 S6 HB6 T6 D6 p0 p1 p2 p3 pf0 pf1 pf2 pf3 CBF
    obtain ⟨n1, a1, b1, hn1, hrd, hst, htw, q0, q1, q2, q3, hM⟩ := LIFE.out (evs fs) (ods fs)
    rw [HLL.out] at hn1
    have HG : Hid (∀ (i : Nat) e, (l.take n1)[i]? = some e → fitsM 0 0 ((l.take n1).take i) e = true ∧ (marked (snE (l.take n1) i) e).2 = true) := Lib.hid (fun i e he => by
      have hi := (List.getElem?_eq_some_iff.1 he).1
      rw [List.length_take] at hi
      rw [List.getElem?_take_of_lt (by omega)] at he
      rw [List.take_take, Nat.min_eq_left (by omega), snE_take (by omega)]
      exact hrd.good i e (by omega) he)
    have CR : Hid (∀ (W : World) (X0 : Option Addr) (d0 : Nat) (X1 : Option Addr) (d1 : Nat) (X2 : Option Addr) (d2 : Nat) (X3 : Option Addr) (d3 : Nat) (lo hi : Nat), SlR W lo hi X0 22 d0 (fallM k1 v1 (evs fs)) → SlR W lo hi X2 22 d2 (fallM k1 v1 (ods fs)) → hi ≤ W.heap.size → d1 ≤ 9223372036854775807 → d3 ≤ 9223372036854775807 → Calls Try.prog 66 #[.agg #[.slice X0 22 d0, .slice X1 0 d1, .slice X2 22 d2, .slice X3 0 d3]] W (RecRes W (l.take n1))) := Lib.hid (fun W X0 d0 X1 d1 X2 d2 X3 d3 lo hi h0 h2 hhi hc1 hc3 => recovered_life X0 d0 _ X1 d1 X2 d2 _ X3 d3 lo hi W h0 h2 hhi hc1 hc3 htw a1 b1 q0 q1 q2 q3 hM HEO.out (by rw [HLL.out]; omega) hrd)
    have HM1 := Lib.hid (fun dm h1 h2 => HMO.out dm n1 h1 h2 hn1)
    have CWB : Hid (∀ (W : World) (B' : Option Addr) (q' la ha lb hb : Nat), Sl W la ha 9 B nl q (l.flatMap EntryD.ints) → Sl W lb hb 9 B' n1 q' ((l.take n1).flatMap EntryD.ints) → Calls Try.prog 67 #[.slice B nl q, .slice B' n1 q'] W fun e w' => e = .returned (.bool true) ∧ Below W.heap.size W w') := Lib.hid (fun W B' q' la ha lb hb h1 h2 => w9Begins_any B B' nl q n1 q' la ha lb hb l W h1 hn1 h2)
    have hFl : (l.take n1).length = n1 := by rw [List.length_take, HLL.out]; omega
    have HFK : EsOk (l.take n1) := HEO.out.take n1
    have HFO := Lib.hid HFK
    clear hrd hst htw q0 q1 q2 q3 hM LIFE HMO HFK
    generalize fallM k1 v1 (evs fs) = K0 at *
    generalize fallM k1 v1 (ods fs) = K2 at *
    generalize l.take n1 = F at *
    obtain ⟨p0, p1, p2, p3, -, -, -, -⟩ := T7.out.box
    go_wp2_with fail
    (with_reducible refine (CR.out _ _ _ _ _ _ _ _ _ _ _ T7.out.s0 T7.out.s2 T7.out.h3 T7.out.s1.big T7.out.s3.big).mono ?_); rintro _ w8 ⟨Y0, f0, Y1, f1, Y2, f2, Y3, f3, Sh, sc, B2, q2, rfl, r0, r2, hf1, hf3, rb, b8⟩
    have y8 := b8.size
    rw [hFl] at rb ⊢
    clear p0 p1 p2 p3
    have hbA : Below w8.heap.size w8 ((w8.alloc (.cells #[.int .i64 0, .int .i64 0, .int .i64 0, .slice none 0 0] 49)).alloc (.cells #[.int .i64 0, .int .i64 0, .slice none 0 0] 102)) := ((Below.refl _ _).alloc (Nat.le_refl _) _).alloc (by (try simp only [World.heap_size_alloc, World.heap_size_drew, World.heap_size_setCell]); omega) _
    have hzA : ((w8.alloc (.cells #[.int .i64 0, .int .i64 0, .int .i64 0, .slice none 0 0] 49)).alloc (.cells #[.int .i64 0, .int .i64 0, .slice none 0 0] 102)).heap.size = w8.heap.size + 1 + 1 := by simp only [World.heap_size_alloc]
    have K8 := Lib.hid (T7.out.box.below (b8.trans (hbA.mono y8)) (by omega))
    have Z6 : Box4 ((w8.alloc (.cells #[.int .i64 0, .int .i64 0, .int .i64 0, .slice none 0 0] 49)).alloc (.cells #[.int .i64 0, .int .i64 0, .slice none 0 0] 102)) w8.heap.size (.int .i64 0) (.int .i64 0) (.int .i64 0) (.slice none 0 0) := (Box4.new w8 (.int .i64 0) (.int .i64 0) (.int .i64 0) (.slice none 0 0) 49).below (B := w8.heap.size + 1) ((Below.refl _ _).alloc (by (try simp only [World.heap_size_alloc, World.heap_size_drew, World.heap_size_setCell]); omega) _) (by omega)
    have Z7 : Box3 ((w8.alloc (.cells #[.int .i64 0, .int .i64 0, .int .i64 0, .slice none 0 0] 49)).alloc (.cells #[.int .i64 0, .int .i64 0, .slice none 0 0] 102)) (w8.heap.size + 1) (.int .i64 0) (.int .i64 0) (.slice none 0 0) := by
      have h9 := Box3.new (w8.alloc (.cells #[.int .i64 0, .int .i64 0, .int .i64 0, .slice none 0 0] 49)) (.int .i64 0) (.int .i64 0) (.slice none 0 0) 102
      rw [World.heap_size_alloc] at h9
      exact h9
    have HZ6 := Lib.hid Z6
    have HZ7 := Lib.hid Z7
    obtain ⟨p0, p1, p2, p3, pf0, pf1, pf2, pf3⟩ := id K8.out
    obtain ⟨o0, o1, o2, o3, of0, of1, of2, of3⟩ := Z6
    obtain ⟨r6, r7, r8, rf6, rf7, rf8⟩ := Z7
    have hn1 : ¬ g5 = w8.heap.size := by omega
    have hn2 : ¬ w8.heap.size = g5 := by omega
    have hn3 : ¬ g5 = w8.heap.size + 1 := by omega
    have hn4 : ¬ w8.heap.size + 1 = g5 := by omega
    go_upto_region 8 with fail
    have uA : Upd g5 (g5 + 1) ((w8.alloc (.cells #[.int .i64 0, .int .i64 0, .int .i64 0, .slice none 0 0] 49)).alloc (.cells #[.int .i64 0, .int .i64 0, .slice none 0 0] 102)) ((((((w8.alloc (.cells #[.int .i64 0, .int .i64 0, .int .i64 0, .slice none 0 0] 49)).alloc (.cells #[.int .i64 0, .int .i64 0, .slice none 0 0] 102)).setCell ⟨g5, 0, none⟩ (.slice Y0 22 f0)).setCell ⟨g5, 1, none⟩ (.slice Y1 0 f1)).setCell ⟨g5, 2, none⟩ (.slice Y2 22 f2)).setCell ⟨g5, 3, none⟩ (.slice Y3 0 f3)) := up4
    have uB : Upd w8.heap.size (w8.heap.size + 1) ((((((w8.alloc (.cells #[.int .i64 0, .int .i64 0, .int .i64 0, .slice none 0 0] 49)).alloc (.cells #[.int .i64 0, .int .i64 0, .slice none 0 0] 102)).setCell ⟨g5, 0, none⟩ (.slice Y0 22 f0)).setCell ⟨g5, 1, none⟩ (.slice Y1 0 f1)).setCell ⟨g5, 2, none⟩ (.slice Y2 22 f2)).setCell ⟨g5, 3, none⟩ (.slice Y3 0 f3)) ((((((((((w8.alloc (.cells #[.int .i64 0, .int .i64 0, .int .i64 0, .slice none 0 0] 49)).alloc (.cells #[.int .i64 0, .int .i64 0, .slice none 0 0] 102)).setCell ⟨g5, 0, none⟩ (.slice Y0 22 f0)).setCell ⟨g5, 1, none⟩ (.slice Y1 0 f1)).setCell ⟨g5, 2, none⟩ (.slice Y2 22 f2)).setCell ⟨g5, 3, none⟩ (.slice Y3 0 f3)).setCell ⟨w8.heap.size, 0, none⟩ (.int .i64 0)).setCell ⟨w8.heap.size, 1, none⟩ (.int .i64 0)).setCell ⟨w8.heap.size, 2, none⟩ (.int .i64 0)).setCell ⟨w8.heap.size, 3, none⟩ (.slice Sh 0 sc)) := up4
    have uC : Upd (w8.heap.size + 1) (w8.heap.size + 1 + 1) ((((((((((w8.alloc (.cells #[.int .i64 0, .int .i64 0, .int .i64 0, .slice none 0 0] 49)).alloc (.cells #[.int .i64 0, .int .i64 0, .slice none 0 0] 102)).setCell ⟨g5, 0, none⟩ (.slice Y0 22 f0)).setCell ⟨g5, 1, none⟩ (.slice Y1 0 f1)).setCell ⟨g5, 2, none⟩ (.slice Y2 22 f2)).setCell ⟨g5, 3, none⟩ (.slice Y3 0 f3)).setCell ⟨w8.heap.size, 0, none⟩ (.int .i64 0)).setCell ⟨w8.heap.size, 1, none⟩ (.int .i64 0)).setCell ⟨w8.heap.size, 2, none⟩ (.int .i64 0)).setCell ⟨w8.heap.size, 3, none⟩ (.slice Sh 0 sc)) (((((((((((((w8.alloc (.cells #[.int .i64 0, .int .i64 0, .int .i64 0, .slice none 0 0] 49)).alloc (.cells #[.int .i64 0, .int .i64 0, .slice none 0 0] 102)).setCell ⟨g5, 0, none⟩ (.slice Y0 22 f0)).setCell ⟨g5, 1, none⟩ (.slice Y1 0 f1)).setCell ⟨g5, 2, none⟩ (.slice Y2 22 f2)).setCell ⟨g5, 3, none⟩ (.slice Y3 0 f3)).setCell ⟨w8.heap.size, 0, none⟩ (.int .i64 0)).setCell ⟨w8.heap.size, 1, none⟩ (.int .i64 0)).setCell ⟨w8.heap.size, 2, none⟩ (.int .i64 0)).setCell ⟨w8.heap.size, 3, none⟩ (.slice Sh 0 sc)).setCell ⟨w8.heap.size + 1, 0, none⟩ (.int .i64 0)).setCell ⟨w8.heap.size + 1, 1, none⟩ (.int .i64 0)).setCell ⟨w8.heap.size + 1, 2, none⟩ (.slice B2 n1 q2)) := (((Upd.refl _ _ _).setCell (p := ⟨w8.heap.size + 1, 0, none⟩) (Nat.le_refl _) (Nat.lt_succ_self _) _).setCell (p := ⟨w8.heap.size + 1, 1, none⟩) (Nat.le_refl _) (Nat.lt_succ_self _) _).setCell (p := ⟨w8.heap.size + 1, 2, none⟩) (Nat.le_refl _) (Nat.lt_succ_self _) _
    have hzC : (((((((((((((w8.alloc (.cells #[.int .i64 0, .int .i64 0, .int .i64 0, .slice none 0 0] 49)).alloc (.cells #[.int .i64 0, .int .i64 0, .slice none 0 0] 102)).setCell ⟨g5, 0, none⟩ (.slice Y0 22 f0)).setCell ⟨g5, 1, none⟩ (.slice Y1 0 f1)).setCell ⟨g5, 2, none⟩ (.slice Y2 22 f2)).setCell ⟨g5, 3, none⟩ (.slice Y3 0 f3)).setCell ⟨w8.heap.size, 0, none⟩ (.int .i64 0)).setCell ⟨w8.heap.size, 1, none⟩ (.int .i64 0)).setCell ⟨w8.heap.size, 2, none⟩ (.int .i64 0)).setCell ⟨w8.heap.size, 3, none⟩ (.slice Sh 0 sc)).setCell ⟨w8.heap.size + 1, 0, none⟩ (.int .i64 0)).setCell ⟨w8.heap.size + 1, 1, none⟩ (.int .i64 0)).setCell ⟨w8.heap.size + 1, 2, none⟩ (.slice B2 n1 q2)).heap.size = w8.heap.size + 1 + 1 := by simp only [World.heap_size_setCell, World.heap_size_alloc]
    have hbq : Below wq.heap.size wq ((w8.alloc (.cells #[.int .i64 0, .int .i64 0, .int .i64 0, .slice none 0 0] 49)).alloc (.cells #[.int .i64 0, .int .i64 0, .slice none 0 0] 102)) := b8.trans (hbA.mono y8)
    have T8 := Lib.hid (((TdAt.put (vs := []) K8.out (r0.below hbA (Nat.le_refl _)) (SlW.nil _ _ _ _ _ hf1) (r2.below hbA (Nat.le_refl _)) (SlW.nil _ _ _ _ _ hf3) (by omega) (.inr (by omega))).upd uB (.inl (Nat.le_refl _)) (.inl (by omega))).upd uC (.inl (by omega)) (.inl (by omega)))
    have K7 : Hid (Box3 (((((((((((((w8.alloc (.cells #[.int .i64 0, .int .i64 0, .int .i64 0, .slice none 0 0] 49)).alloc (.cells #[.int .i64 0, .int .i64 0, .slice none 0 0] 102)).setCell ⟨g5, 0, none⟩ (.slice Y0 22 f0)).setCell ⟨g5, 1, none⟩ (.slice Y1 0 f1)).setCell ⟨g5, 2, none⟩ (.slice Y2 22 f2)).setCell ⟨g5, 3, none⟩ (.slice Y3 0 f3)).setCell ⟨w8.heap.size, 0, none⟩ (.int .i64 0)).setCell ⟨w8.heap.size, 1, none⟩ (.int .i64 0)).setCell ⟨w8.heap.size, 2, none⟩ (.int .i64 0)).setCell ⟨w8.heap.size, 3, none⟩ (.slice Sh 0 sc)).setCell ⟨w8.heap.size + 1, 0, none⟩ (.int .i64 0)).setCell ⟨w8.heap.size + 1, 1, none⟩ (.int .i64 0)).setCell ⟨w8.heap.size + 1, 2, none⟩ (.slice B2 n1 q2)) (w8.heap.size + 1) (.int .i64 0) (.int .i64 0) (.slice B2 n1 q2)) := Lib.hid (((HZ7.out.upd uA (.inr (by omega))).upd uB (.inr (Nat.le_refl _))).set _ _ _)
    have SB8 := Lib.hid ((((rb.below hbA (Nat.le_refl _)).upd uA (.inr (by omega))).upd uB (.inl (Nat.le_refl _))).upd uC (.inl (by omega)))
    have S8 := Lib.hid ((((S7.out.below hbq (by omega)).upd uA (.inl (by omega))).upd uB (.inl (by omega))).upd uC (.inl (by omega)))
    have D8 := Lib.hid ((((D7.out.below hbq (by omega)).upd uA (.inl (by omega))).upd uB (.inl (by omega))).upd uC (.inl (by omega)))
    have HB8 := Lib.hid ((((HB7.out.trans (hbq.mono (by omega))).trans (uA.below (by omega) (by omega))).trans (uB.below (by omega) (by rw [size4]; omega))).trans (uC.below (by omega) (by rw [size4, size4]; omega)))
    generalize hWZ : (((((((((((((w8.alloc (.cells #[.int .i64 0, .int .i64 0, .int .i64 0, .slice none 0 0] 49)).alloc (.cells #[.int .i64 0, .int .i64 0, .slice none 0 0] 102)).setCell ⟨g5, 0, none⟩ (.slice Y0 22 f0)).setCell ⟨g5, 1, none⟩ (.slice Y1 0 f1)).setCell ⟨g5, 2, none⟩ (.slice Y2 22 f2)).setCell ⟨g5, 3, none⟩ (.slice Y3 0 f3)).setCell ⟨w8.heap.size, 0, none⟩ (.int .i64 0)).setCell ⟨w8.heap.size, 1, none⟩ (.int .i64 0)).setCell ⟨w8.heap.size, 2, none⟩ (.int .i64 0)).setCell ⟨w8.heap.size, 3, none⟩ (.slice Sh 0 sc)).setCell ⟨w8.heap.size + 1, 0, none⟩ (.int .i64 0)).setCell ⟨w8.heap.size + 1, 1, none⟩ (.int .i64 0)).setCell ⟨w8.heap.size + 1, 2, none⟩ (.slice B2 n1 q2)) = wr at *
    have hzC1 := Nat.le_of_eq hzC
    have hzC2 := Nat.le_of_eq hzC.symm
    have hx5 : w8.heap.size < w8.heap.size + 1 := Nat.lt_succ_self _
    clear hWZ hzC uA uB uC hbq hbA hzA K8 HZ6 HZ7 p0 p1 p2 p3 pf0 pf1 pf2 pf3 o0 o1 o2 o3 of0 of1 of2 of3 r6 r7 r8 rf6 rf7 rf8 hn1 hn2 hn3 hn4 T7 S7 D7 HB7 r0 r2 rb b8 CR
    obtain ⟨g7, hg7⟩ : ∃ x, x = w8.heap.size + 1 := ⟨_, rfl⟩
    rw [← hg7] at K7
    generalize w8.heap.size + 1 = z9 at *
    subst hg7
    have hx6 : g5 < wq.heap.size := by omega
    have hx7 : z3 ≤ wq.heap.size := by omega
    generalize wq.heap.size = zq at *
    generalize w8.heap.size = z8 at *
    obtain ⟨kb0, kb1, kb2, -, -, -⟩ := K7.out
    go_wp2_with fail
    (with_reducible refine (CWB.out wr B2 q2 _ _ _ _ S8.out SB8.out).mono ?_); rintro _ w9 ⟨rfl, b9⟩
    have y9 := b9.size
    have T9 := Lib.hid (T8.out.below b9 (by omega) (by omega))
    have K9 := Lib.hid (K7.out.below b9 (by omega))
    have SB9 := Lib.hid (SB8.out.below b9 (by omega))
    have D9 := Lib.hid (D8.out.below b9 (by omega))
    have HB9 := Lib.hid (HB8.out.trans (b9.mono (by omega)))
    clear b9 T8 K7 SB8 S8 D8 HB8 CWB kb0 kb1 kb2
    go_upto_region 10 with fail
    have CL : Hid (∀ (W : World) (m la ha : Nat), DiceAt W w.heap.size w.heap.size A n c → Sl W la ha 9 B2 n1 q2 (F.flatMap EntryD.ints) → m ≤ 8 → Calls Try.prog 48 #[.pointer (some ⟨w.heap.size, 0, none⟩), .slice B2 n1 q2, .int .i64 (m : Int)] W (W9Res W w.heap.size w.heap.size A n c (stA F) m)) := Lib.hid (fun W m la ha hW hs hm => w9List_any A n c _ _ B2 n1 q2 la ha F m W hW hs (HM1.out [] (by simp) (by simp)).2 (by omega))
    obtain ⟨kb0, kb1, kb2, -, -, -⟩ := K9.out
    have hg7w : g7 < w9.heap.size := by omega
    have hgw : w.heap.size < w9.heap.size := by omega
    have hz8 : z8 ≤ w9.heap.size := by omega
    go_cut [9] (fun s9 wx => ∃ (m1 : Nat) (dm : List DrawE) (B9 : Option Addr) (q9 lo9 hi9 : Nat), s9 = .slice B9 m1 q9 ∧ 1 ≤ m1 ∧ m1 ≤ 8 ∧ dm.length = m1 ∧ (∀ d ∈ dm, drawOk d) ∧ Sl wx lo9 hi9 9 B9 m1 q9 ((genE (stA F) dm).flatMap EntryD.ints) ∧ w9.heap.size ≤ lo9 ∧ hi9 ≤ wx.heap.size ∧ DiceAt wx w.heap.size w.heap.size A n c ∧ Upd w.heap.size (w.heap.size + 1) w9 wx)
    case first =>
      go_region_law (first | (go_simp; go_at_call 49; (with_reducible refine (below_any _ _ _ _ _ 8 _ (by omega) (by omega) (D9.out.below (B := w9.heap.size) (by (repeat' (first | with_reducible exact Below.refl _ _ | with_reducible assumption | with_reducible refine Below.drew ?_ | with_reducible refine Below.alloc ?_ ?_ _ | with_reducible refine Below.setCell ?_ ?_ _ | ((try simp only [World.heap_size_alloc, World.heap_size_drew, World.heap_size_setCell]); omega)))) hgw)).mono ?_); rintro _ wa ⟨x, rfl, x0, x1, da, ua⟩; have va : Upd w.heap.size (w.heap.size + 1) w9 wa := Upd.trans (Upd.of_below (by (repeat' (first | with_reducible exact Below.refl _ _ | with_reducible assumption | with_reducible refine Below.drew ?_ | with_reducible refine Below.alloc ?_ ?_ _ | with_reducible refine Below.setCell ?_ ?_ _ | ((try simp only [World.heap_size_alloc, World.heap_size_drew, World.heap_size_setCell]); omega))))) ua; have za := va.size; obtain ⟨mm, rfl⟩ := Int.eq_ofNat_of_zero_le x0; obtain ⟨m1, hm1⟩ : ∃ x, x = mm + 1 := ⟨_, rfl⟩; have km1 : IntKind.i64.wrap (1 + (mm : Int)) = (m1 : Int) := (by rw [show 1 + (mm : Int) = (m1 : Int) by omega]; exact IntWalk.i64_in _ (by omega)); have hm11 : 1 ≤ m1 := (by omega); have hm18 : m1 ≤ 8 := (by omega); have DA := Lib.hid da; have SA := Lib.hid (SB9.out.upd va (.inr (by omega))); clear kb0 kb1 kb2 x0 x1 hm1 da ua; obtain ⟨kb0, kb1, kb2, -, -, -⟩ := K9.out.upd va (.inr (by omega))) | (go_simp; go_at_call 48; (with_reducible refine (CL.out _ m1 _ _ (DA.out.below (B := wa.heap.size) (by (repeat' (first | with_reducible exact Below.refl _ _ | with_reducible assumption | with_reducible refine Below.drew ?_ | with_reducible refine Below.alloc ?_ ?_ _ | with_reducible refine Below.setCell ?_ ?_ _ | ((try simp only [World.heap_size_alloc, World.heap_size_drew, World.heap_size_setCell]); omega)))) (by omega)) (SA.out.below (B := wa.heap.size) (by (repeat' (first | with_reducible exact Below.refl _ _ | with_reducible assumption | with_reducible refine Below.drew ?_ | with_reducible refine Below.alloc ?_ ?_ _ | with_reducible refine Below.setCell ?_ ?_ _ | ((try simp only [World.heap_size_alloc, World.heap_size_drew, World.heap_size_setCell]); omega)))) (by omega)) hm18).mono ?_); rintro _ wb ⟨dm, B9, q9, hdl, hdr, rfl, s9, d9, u9⟩; have vb : Upd w.heap.size (w.heap.size + 1) w9 wb := va.trans (Upd.trans (Upd.of_below (by (repeat' (first | with_reducible exact Below.refl _ _ | with_reducible assumption | with_reducible refine Below.drew ?_ | with_reducible refine Below.alloc ?_ ?_ _ | with_reducible refine Below.setCell ?_ ?_ _ | ((try simp only [World.heap_size_alloc, World.heap_size_drew, World.heap_size_setCell]); omega))))) u9); have zb := u9.size; have zbb := vb.size; have DB := Lib.hid d9; have SB := Lib.hid (s9.mono (lo' := wa.heap.size) (by (try simp only [World.heap_size_alloc, World.heap_size_drew, World.heap_size_setCell]); omega) (Nat.le_refl _)); replace hdl := Lib.hid hdl; replace hdr := Lib.hid hdr; clear s9 d9 u9 kb0 kb1 kb2; obtain ⟨kb0, kb1, kb2, -, -, -⟩ := K9.out.upd vb (.inr (by omega))))
      all_goals
        go_wp2_with fail
        go_meet
        exact ⟨m1, dm, B9, q9, _, _, rfl, hm11, hm18, hdl.out, hdr.out, SB.out, by omega, Nat.le_refl _, DB.out, vb⟩
    case rest =>
      obtain ⟨wl, rfl⟩ : ∃ x, x = wc := ⟨wc, rfl⟩
      obtain ⟨m1, dm, B9, q9, lo9, hi9, rfl, hm11, hm18, hdl, hdr, s9, hlo9, hhi9, d9, u9⟩ := hcut
      have yl := u9.size
      have T10 := Lib.hid (T9.out.upd u9 (.inr (by omega)) (.inr (by omega)))
      have K10 := Lib.hid (K9.out.upd u9 (.inr (by omega)))
      have SB10 := Lib.hid (SB9.out.upd u9 (.inr (by omega)))
      have D10 := Lib.hid d9
      have SM10 := Lib.hid s9
      have HB10 := Lib.hid (HB9.out.trans (u9.below (Nat.le_refl _) (by omega)))
      have HFM := Lib.hid (HM1.out dm hdr (by omega)).1
      have hml := genE_len dm (stA F)
      rw [hdl] at hml
      clear CL HM1 T9 K9 SB9 D9 HB9 s9 d9 u9 hdr hdl kb0 kb1 kb2
      generalize genE (stA F) dm = M at *
      have HML := Lib.hid hml
      clear hml
      have CK : Hid (Calls Try.prog 65 #[.agg #[.slice Y0 22 f0, .slice Y1 0 f1, .slice Y2 22 f2, .slice Y3 0 f3], .slice B9 m1 q9, .int .i64 0] wl (TwRes wl 22 (recK F) m1 (M.map wrE) 22 (recK F) m1 (M.map wrE))) := Lib.hid (by
        have hrk := (recK_disk HFO.out (by rw [hFl]; omega)).ok
        have h7 := w9Kept_any Y0 f0 (recK F) Y1 f1 Y2 f2 Y3 f3 zq z8 wl T10.out.s0 T10.out.s1 T10.out.s2 T10.out.s3 T10.out.h3 hrk B9 m1 q9 lo9 hi9 0 M SM10.out hhi9 (by omega) (Nat.zero_le _) (fun e he => HFM.out.ok e (List.mem_append_right _ he))
        rw [List.take_zero, List.drop_zero, Nat.sub_zero] at h7
        exact h7)
      obtain ⟨p0, p1, p2, p3, -, -, -, -⟩ := T10.out.box
      go_wp2_with fail
      (with_reducible refine (CK.out).mono ?_); rintro _ w11 ⟨X0, d0, X1, d1, X2, d2, X3, d3, rfl, s0, s1, s2, s3, b11⟩
      have y11 := b11.size
      clear p0 p1 p2 p3
      have K11 := Lib.hid (T10.out.box.below b11 (by omega))
      obtain ⟨p0, p1, p2, p3, pf0, pf1, pf2, pf3⟩ := id K11.out
      go_upto_region 12 with fail
      have uA : Upd g5 (g5 + 1) w11 ((((w11.setCell ⟨g5, 0, none⟩ (.slice X0 22 d0)).setCell ⟨g5, 1, none⟩ (.slice X1 m1 d1)).setCell ⟨g5, 2, none⟩ (.slice X2 22 d2)).setCell ⟨g5, 3, none⟩ (.slice X3 m1 d3)) := up4
      have hzA : ((((w11.setCell ⟨g5, 0, none⟩ (.slice X0 22 d0)).setCell ⟨g5, 1, none⟩ (.slice X1 m1 d1)).setCell ⟨g5, 2, none⟩ (.slice X2 22 d2)).setCell ⟨g5, 3, none⟩ (.slice X3 m1 d3)).heap.size = w11.heap.size := size4
      have T11 := Lib.hid (TdAt.put K11.out s0 s1 s2 s3 (Nat.le_refl _) (.inr (by omega)))
      have K12 := Lib.hid ((K10.out.below b11 (by omega)).upd uA (.inr (by omega)))
      have SB11 := Lib.hid ((SB10.out.below b11 (by omega)).upd uA (.inr (by omega)))
      have SM11 := Lib.hid ((SM10.out.below b11 hhi9).upd uA (.inr (by omega)))
      have D11 := Lib.hid ((D10.out.below b11 (by omega)).upd uA (.inl (by omega)))
      have HB11 := Lib.hid ((HB10.out.trans (b11.mono (by omega))).trans (uA.below (by omega) (by omega)))
      have hx8 : wl.heap.size ≤ w11.heap.size := y11
      have hx9 : g7 < wl.heap.size := by omega
      generalize hWA : ((((w11.setCell ⟨g5, 0, none⟩ (.slice X0 22 d0)).setCell ⟨g5, 1, none⟩ (.slice X1 m1 d1)).setCell ⟨g5, 2, none⟩ (.slice X2 22 d2)).setCell ⟨g5, 3, none⟩ (.slice X3 m1 d3)) = wr at *
      have hzA1 := Nat.le_of_eq hzA
      have hzA2 := Nat.le_of_eq hzA.symm
      clear hWA hzA uA K11 p0 p1 p2 p3 pf0 pf1 pf2 pf3 T10 K10 SB10 SM10 D10 HB10 s0 s1 s2 s3 b11 CK
      have hD2 : Disk2 (F ++ M) (recK F) := (recK_disk HFO.out (by rw [hFl]; omega)).mono (fun e he => List.mem_append_left _ he)
      have hvM : ∀ x ∈ M.map wrE, ∃ e ∈ M, x = wrE e := fun x hx => by
        obtain ⟨e, he, rfl⟩ := List.mem_map.1 hx
        exact ⟨e, he, rfl⟩
      have hv2 : ∀ x ∈ M.map wrE, ∃ e ∈ F ++ M, x = wrE e := fun x hx => by
        obtain ⟨e, he, h⟩ := hvM x hx
        exact ⟨e, List.mem_append_right _ he, h⟩
      have hvl : (M.map wrE).length = m1 := by rw [List.length_map, HML.out]
      have hfm : (F ++ M).length ≤ 19 := by rw [List.length_append, hFl, HML.out]; omega
      have LIFE2 := Lib.hid (life HFM.out hD2 hv2)
      have HSR := Lib.hid (fun fa fb n2 hn => second_reads (fa := fa) (fb := fb) (n := n2) HFM.out hfm HG.out hvM hn)
      have CBG : Hid (∀ (W : World) (X0 : Option Addr) (d0 : Nat) (X1 : Option Addr) (d1 : Nat) (X2 : Option Addr) (d2 : Nat) (X3 : Option Addr) (d3 : Nat) (m lo hi : Nat) (Af : Option Addr) (nf cf lof hif : Nat) (fs : List Int), SlR W lo hi X0 22 d0 (recK F) → SlW W lo hi X1 m d1 (M.map wrE) → SlR W lo hi X2 22 d2 (recK F) → SlW W lo hi X3 m d3 (M.map wrE) → hi ≤ W.heap.size → Sl W lof hif 1 Af nf cf fs → hif ≤ W.heap.size → nf ≤ 1000 → Calls Try.prog 62 #[.agg #[.slice X0 22 d0, .slice X1 m d1, .slice X2 22 d2, .slice X3 m d3], .slice Af nf cf] W (TwRes W 22 (fallM (recK F) (M.map wrE) (evs fs)) 0 [] 22 (fallM (recK F) (M.map wrE) (ods fs)) 0 [])) := Lib.hid (fun W X0 d0 X1 d1 X2 d2 X3 d3 m lo hi Af nf cf lof hif fs h0 h1 h2 h3 hhi hf hhf hnf => bothFallenN_any X0 22 d0 (recK F) X1 m d1 (M.map wrE) X2 22 d2 (recK F) X3 m d3 (M.map wrE) lo hi W h0 h1 h2 h3 hhi Af nf cf lof hif fs hf hhf hnf (life_waits HFM.out hD2 hv2 (by omega)))
      have HFMl := Lib.hid hfm
      clear hD2 hvM hv2 hvl hfm HG knf hnf16
      generalize recK F = k9 at *
      generalize M.map wrE = v9 at *
      obtain ⟨nf, hnf⟩ : ∃ x, x = 2 * m1 := ⟨_, rfl⟩
      have knf : IntKind.i64.wrap (2 * (m1 : Int)) = (nf : Int) := by
        rw [show 2 * (m1 : Int) = (nf : Int) by omega]
        exact IntWalk.i64_in _ (by omega)
      have hnf16 : nf ≤ 16 := by omega
      clear hnf
      obtain ⟨p0, p1, p2, p3, pf0, pf1, pf2, pf3⟩ := T11.out.box
      go_cut [66] (fun s66 wx => ∃ (fs : List Int) (Y0 : Option Addr) (f0 : Nat) (Y1 : Option Addr) (f1 : Nat) (Y2 : Option Addr) (f2 : Nat) (Y3 : Option Addr) (f3 : Nat) (lo' hi' : Nat) (wy : World), s66 = .int .i64 (nf : Int) ∧ TdAt wx lo' hi' g5 0 (fallM k9 v9 (evs fs)) (fallM k9 v9 (ods fs)) [] Y0 f0 Y1 f1 Y2 f2 Y3 f3 ∧ wr.heap.size ≤ lo' ∧ DiceAt wx w.heap.size w.heap.size A n c ∧ Upd w.heap.size (w.heap.size + 1) wr wy ∧ Upd g5 (g5 + 1) wy wx)
      case first =>
        go_region_law (first | (go_simp; go_at_call 63; (with_reducible refine (w9FatesN_any _ _ _ _ _ nf _ (D11.out.below (B := wr.heap.size) (by (repeat' (first | with_reducible exact Below.refl _ _ | with_reducible assumption | with_reducible refine Below.drew ?_ | with_reducible refine Below.alloc ?_ ?_ _ | with_reducible refine Below.setCell ?_ ?_ _ | ((try simp only [World.heap_size_alloc, World.heap_size_drew, World.heap_size_setCell]); omega)))) (by omega)) (by omega)).mono ?_); rintro _ wa ⟨Bf, qf, fs, rfl, hfl, hf3, sf, da, ua⟩; have va : Upd w.heap.size (w.heap.size + 1) wr wa := Upd.trans (Upd.of_below (by (repeat' (first | with_reducible exact Below.refl _ _ | with_reducible assumption | with_reducible refine Below.drew ?_ | with_reducible refine Below.alloc ?_ ?_ _ | with_reducible refine Below.setCell ?_ ?_ _ | ((try simp only [World.heap_size_alloc, World.heap_size_drew, World.heap_size_setCell]); omega))))) ua; have za := va.size; have DA := Lib.hid da; have SF := Lib.hid (sf.mono (lo' := wr.heap.size) (by (try simp only [World.heap_size_alloc, World.heap_size_drew, World.heap_size_setCell]); omega) (Nat.le_refl _)); have TA := Lib.hid (T11.out.upd va (.inr (by omega)) (.inr (by omega))); clear p0 p1 p2 p3 pf0 pf1 pf2 pf3; obtain ⟨p0, p1, p2, p3, pf0, pf1, pf2, pf3⟩ := TA.out.box; clear da ua sf hfl hf3) | (go_simp; go_at_call 62; (with_reducible refine (CBG.out _ _ _ _ _ _ _ _ _ _ _ _ _ _ _ _ _ fs (TA.out.s0.below (B := wa.heap.size) (by (repeat' (first | with_reducible exact Below.refl _ _ | with_reducible assumption | with_reducible refine Below.drew ?_ | with_reducible refine Below.alloc ?_ ?_ _ | with_reducible refine Below.setCell ?_ ?_ _ | ((try simp only [World.heap_size_alloc, World.heap_size_drew, World.heap_size_setCell]); omega)))) TA.out.h3) (TA.out.s1.below (B := wa.heap.size) (by (repeat' (first | with_reducible exact Below.refl _ _ | with_reducible assumption | with_reducible refine Below.drew ?_ | with_reducible refine Below.alloc ?_ ?_ _ | with_reducible refine Below.setCell ?_ ?_ _ | ((try simp only [World.heap_size_alloc, World.heap_size_drew, World.heap_size_setCell]); omega)))) TA.out.h3) (TA.out.s2.below (B := wa.heap.size) (by (repeat' (first | with_reducible exact Below.refl _ _ | with_reducible assumption | with_reducible refine Below.drew ?_ | with_reducible refine Below.alloc ?_ ?_ _ | with_reducible refine Below.setCell ?_ ?_ _ | ((try simp only [World.heap_size_alloc, World.heap_size_drew, World.heap_size_setCell]); omega)))) TA.out.h3) (TA.out.s3.below (B := wa.heap.size) (by (repeat' (first | with_reducible exact Below.refl _ _ | with_reducible assumption | with_reducible refine Below.drew ?_ | with_reducible refine Below.alloc ?_ ?_ _ | with_reducible refine Below.setCell ?_ ?_ _ | ((try simp only [World.heap_size_alloc, World.heap_size_drew, World.heap_size_setCell]); omega)))) TA.out.h3) (Nat.le_trans TA.out.h3 (by (try simp only [World.heap_size_alloc, World.heap_size_drew, World.heap_size_setCell]); omega)) (SF.out.below (B := wa.heap.size) (by (repeat' (first | with_reducible exact Below.refl _ _ | with_reducible assumption | with_reducible refine Below.drew ?_ | with_reducible refine Below.alloc ?_ ?_ _ | with_reducible refine Below.setCell ?_ ?_ _ | ((try simp only [World.heap_size_alloc, World.heap_size_drew, World.heap_size_setCell]); omega)))) (Nat.le_refl _)) (by (try simp only [World.heap_size_alloc, World.heap_size_drew, World.heap_size_setCell]); omega) (by omega)).mono ?_); rintro _ wb ⟨Y0, f0, Y1, f1, Y2, f2, Y3, f3, rfl, s0, s1, s2, s3, bb⟩; have cb : Below wa.heap.size wa wb := Below.trans (by (repeat' (first | with_reducible exact Below.refl _ _ | with_reducible assumption | with_reducible refine Below.drew ?_ | with_reducible refine Below.alloc ?_ ?_ _ | with_reducible refine Below.setCell ?_ ?_ _ | ((try simp only [World.heap_size_alloc, World.heap_size_drew, World.heap_size_setCell]); omega)))) (bb.mono (by (try simp only [World.heap_size_alloc, World.heap_size_drew, World.heap_size_setCell]); omega)); have vb : Upd w.heap.size (w.heap.size + 1) wr wb := va.trans (Upd.of_below cb); have zb := cb.size; have DB := Lib.hid (DA.out.below cb (by omega)); have KB := Lib.hid (TA.out.box.below cb (by omega)); have Q0 := Lib.hid (s0.mono (lo' := wa.heap.size) (by (try simp only [World.heap_size_alloc, World.heap_size_drew, World.heap_size_setCell]); omega) (Nat.le_refl _)); have Q1 := Lib.hid (s1.mono (lo' := wa.heap.size) (by (try simp only [World.heap_size_alloc, World.heap_size_drew, World.heap_size_setCell]); omega) (Nat.le_refl _)); have Q2 := Lib.hid (s2.mono (lo' := wa.heap.size) (by (try simp only [World.heap_size_alloc, World.heap_size_drew, World.heap_size_setCell]); omega) (Nat.le_refl _)); have Q3 := Lib.hid (s3.mono (lo' := wa.heap.size) (by (try simp only [World.heap_size_alloc, World.heap_size_drew, World.heap_size_setCell]); omega) (Nat.le_refl _)); clear p0 p1 p2 p3 pf0 pf1 pf2 pf3; obtain ⟨p0, p1, p2, p3, pf0, pf1, pf2, pf3⟩ := id KB.out; clear s0 s1 s2 s3 bb))
        all_goals
          go_wp2_with fail
          go_meet
          exact ⟨fs, Y0, f0, Y1, f1, Y2, f2, Y3, f3, wa.heap.size, wb.heap.size, wb, rfl, TdAt.put KB.out Q0.out Q1.out Q2.out Q3.out (Nat.le_refl _) (.inr (by omega)), by omega, DB.out.upd up4 (.inl (by omega)), vb, up4⟩
      case rest =>
        obtain ⟨wq, rfl⟩ : ∃ x, x = wc := ⟨wc, rfl⟩
        obtain ⟨fs, X0, d0, X1, d1, X2, d2, X3, d3, lo7, hi7, wy, rfl, t7, hlo7, d7, ua7, ub7⟩ := hcut
        have ya := ua7.size
        have yb := ub7.size
        have K13 := Lib.hid ((K12.out.upd ua7 (.inr (by omega))).upd ub7 (.inr (by omega)))
        have SB13 := Lib.hid ((SB11.out.upd ua7 (.inr (by omega))).upd ub7 (.inr (by omega)))
        have SM13 := Lib.hid ((SM11.out.upd ua7 (.inr (by omega))).upd ub7 (.inr (by omega)))
        have HB13 := Lib.hid ((HB11.out.trans (ua7.below (Nat.le_refl _) (by omega))).trans (ub7.below (by omega) (by omega)))
        have T13 := Lib.hid t7
        have hhM : hi9 ≤ wq.heap.size := by omega
        have hhB : z8 ≤ wq.heap.size := by omega
        have hg7q : g7 < wq.heap.size := by omega
        have hwq : w.heap.size < wq.heap.size := by omega
        clear t7 d7 ua7 ub7 K12 SB11 SM11 D11 HB11 T11 p0 p1 p2 p3 pf0 pf1 pf2 pf3 CBG
        obtain ⟨n2, a1, b1, hn2, hrd, hst, htw, j0, j1, j2, j3, hM⟩ := LIFE2.out (evs fs) (ods fs)
        have hge := HSR.out _ _ n2 hst
        rw [hFl] at hge
        have hXl : ((F ++ M).take n2).length = n2 := by rw [List.length_take]; omega
        rw [List.length_append, hFl, HML.out] at hn2
        have CR : Hid (∀ (W : World) (X0 : Option Addr) (d0 : Nat) (X1 : Option Addr) (d1 : Nat) (X2 : Option Addr) (d2 : Nat) (X3 : Option Addr) (d3 : Nat) (lo hi : Nat), SlR W lo hi X0 22 d0 (fallM k9 v9 (evs fs)) → SlR W lo hi X2 22 d2 (fallM k9 v9 (ods fs)) → hi ≤ W.heap.size → d1 ≤ 9223372036854775807 → d3 ≤ 9223372036854775807 → Calls Try.prog 66 #[.agg #[.slice X0 22 d0, .slice X1 0 d1, .slice X2 22 d2, .slice X3 0 d3]] W (RecRes W ((F ++ M).take n2))) := Lib.hid (fun W X0 d0 X1 d1 X2 d2 X3 d3 lo hi h0 h2 hhi hc1 hc3 => recovered_life X0 d0 _ X1 d1 X2 d2 _ X3 d3 lo hi W h0 h2 hhi hc1 hc3 htw a1 b1 j0 j1 j2 j3 hM HFM.out HFMl.out hrd)
        have CWB : Hid (∀ (W : World) (C' : Option Addr) (qc : Nat) (X' : Option Addr) (qx la ha lb hb : Nat), Sl W la ha 9 C' (n1 + m1) qc ((F ++ M).flatMap EntryD.ints) → Sl W lb hb 9 X' n2 qx (((F ++ M).take n2).flatMap EntryD.ints) → Calls Try.prog 67 #[.slice C' (n1 + m1) qc, .slice X' n2 qx] W fun e w' => e = .returned (.bool true) ∧ Below W.heap.size W w') := Lib.hid (fun W C' qc X' qx la ha lb hb h1 h2 => w9Begins_any C' X' (n1 + m1) qc n2 qx la ha lb hb (F ++ M) W h1 hn2 h2)
        have CBO : Hid (∀ (W : World) (la ha lb hb : Nat), Sl W la ha 9 B2 n1 q2 (F.flatMap EntryD.ints) → ha ≤ W.heap.size → Sl W lb hb 9 B9 m1 q9 (M.flatMap EntryD.ints) → hb ≤ W.heap.size → Calls Try.prog 68 #[.slice B2 n1 q2, .slice B9 m1 q9] W (SlRes W 9 (n1 + m1) ((F ++ M).flatMap EntryD.ints))) := Lib.hid (fun W la ha lb hb h1 hh1 h2 hh2 => w9Both_any B2 B9 n1 q2 m1 q9 la ha lb hb F M W h1 hh1 h2 hh2 (by omega) (by omega))
        clear hrd hst htw j0 j1 j2 j3 hM LIFE2 HSR
        generalize fallM k9 v9 (evs fs) = K0 at *
        generalize fallM k9 v9 (ods fs) = K2 at *
        generalize (F ++ M).take n2 = XF at *
        generalize F ++ M = FM at *
        have hgeI : (n2 : Int) ≥ (n1 : Int) := by omega
        have hgeB : decide ((n2 : Int) ≥ (n1 : Int)) = true := decide_eq_true hgeI
        obtain ⟨p0, p1, p2, p3, -, -, -, -⟩ := T13.out.box
        go_wp2_with fail
        (with_reducible refine (CR.out _ _ _ _ _ _ _ _ _ _ _ T13.out.s0 T13.out.s2 T13.out.h3 T13.out.s1.big T13.out.s3.big).mono ?_); rintro _ w14 ⟨Y0, f0, Y1, f1, Y2, f2, Y3, f3, Sh, sc, B4, q4, rfl, r0, r2, hf1, hf3, rb, b14⟩
        have y14 := b14.size
        rw [hXl] at rb ⊢
        clear p0 p1 p2 p3 r0 r2 hf1 hf3
        go_upto_region 14 with fail
        have hbX : Below w14.heap.size w14 (((w14.alloc (.cells #[.slice Y0 22 f0, .slice Y1 0 f1, .slice Y2 22 f2, .slice Y3 0 f3] 69)).alloc (.cells #[.int .i64 0, .int .i64 0, .int .i64 0, .slice Sh 0 sc] 49)).alloc (.cells #[.int .i64 0, .int .i64 0, .slice B4 n2 q4] 102)) := (((Below.refl _ _).alloc (Nat.le_refl _) _).alloc (by (try simp only [World.heap_size_alloc, World.heap_size_drew, World.heap_size_setCell]); omega) _).alloc (by (try simp only [World.heap_size_alloc, World.heap_size_drew, World.heap_size_setCell]); omega) _
        have hzX : (((w14.alloc (.cells #[.slice Y0 22 f0, .slice Y1 0 f1, .slice Y2 22 f2, .slice Y3 0 f3] 69)).alloc (.cells #[.int .i64 0, .int .i64 0, .int .i64 0, .slice Sh 0 sc] 49)).alloc (.cells #[.int .i64 0, .int .i64 0, .slice B4 n2 q4] 102)).heap.size = w14.heap.size + 1 + 1 + 1 := by simp only [World.heap_size_alloc]
        have hbq : Below wq.heap.size wq (((w14.alloc (.cells #[.slice Y0 22 f0, .slice Y1 0 f1, .slice Y2 22 f2, .slice Y3 0 f3] 69)).alloc (.cells #[.int .i64 0, .int .i64 0, .int .i64 0, .slice Sh 0 sc] 49)).alloc (.cells #[.int .i64 0, .int .i64 0, .slice B4 n2 q4] 102)) := b14.trans (hbX.mono y14)
        have K14 := Lib.hid (K13.out.below hbq hg7q)
        have K15 : Hid (Box3 (((w14.alloc (.cells #[.slice Y0 22 f0, .slice Y1 0 f1, .slice Y2 22 f2, .slice Y3 0 f3] 69)).alloc (.cells #[.int .i64 0, .int .i64 0, .int .i64 0, .slice Sh 0 sc] 49)).alloc (.cells #[.int .i64 0, .int .i64 0, .slice B4 n2 q4] 102)) (w14.heap.size + 1 + 1) (.int .i64 0) (.int .i64 0) (.slice B4 n2 q4)) := Lib.hid (by
          have h9 := Box3.new ((w14.alloc (.cells #[.slice Y0 22 f0, .slice Y1 0 f1, .slice Y2 22 f2, .slice Y3 0 f3] 69)).alloc (.cells #[.int .i64 0, .int .i64 0, .int .i64 0, .slice Sh 0 sc] 49)) (.int .i64 0) (.int .i64 0) (.slice B4 n2 q4) 102
          simp only [World.heap_size_alloc] at h9
          exact h9)
        have SB14 := Lib.hid (SB13.out.below hbq hhB)
        have SM14 := Lib.hid (SM13.out.below hbq hhM)
        have SX14 := Lib.hid (rb.below hbX (Nat.le_refl _))
        have HB14 := Lib.hid (HB13.out.trans (hbq.mono (by omega)))
        generalize hWX : (((w14.alloc (.cells #[.slice Y0 22 f0, .slice Y1 0 f1, .slice Y2 22 f2, .slice Y3 0 f3] 69)).alloc (.cells #[.int .i64 0, .int .i64 0, .int .i64 0, .slice Sh 0 sc] 49)).alloc (.cells #[.int .i64 0, .int .i64 0, .slice B4 n2 q4] 102)) = wz at *
        have hzX1 := Nat.le_of_eq hzX
        have hzX2 := Nat.le_of_eq hzX.symm
        clear hWX hzX hbX hbq rb b14 K13 SB13 SM13 HB13 T13 CR
        obtain ⟨g12, hg12⟩ : ∃ x, x = w14.heap.size + 1 + 1 := ⟨_, rfl⟩
        rw [← hg12] at K15
        have hg12w : w14.heap.size + 1 + 1 < wz.heap.size := by omega
        have hx10 : w14.heap.size ≤ w14.heap.size + 1 + 1 := by omega
        generalize w14.heap.size + 1 + 1 = z12 at *
        subst hg12
        have hg7z : g7 < wz.heap.size := by omega
        have hz8z : z8 ≤ wz.heap.size := by omega
        have hi9z : hi9 ≤ wz.heap.size := by omega
        have hXz : w14.heap.size ≤ wz.heap.size := by omega
        have hwz : w.heap.size ≤ wz.heap.size := by omega
        obtain ⟨-, -, kb2, -, -, -⟩ := K14.out
        obtain ⟨-, -, kx2, -, -, -⟩ := K15.out
        go_region_law (first | (go_simp; go_at_call 68; (with_reducible refine (CBO.out _ _ _ _ _ (SB14.out.below (B := wz.heap.size) (by (repeat' (first | with_reducible exact Below.refl _ _ | with_reducible assumption | with_reducible refine Below.drew ?_ | with_reducible refine Below.alloc ?_ ?_ _ | with_reducible refine Below.setCell ?_ ?_ _ | ((try simp only [World.heap_size_alloc, World.heap_size_drew, World.heap_size_setCell]); omega)))) hz8z) (by (try simp only [World.heap_size_alloc, World.heap_size_drew, World.heap_size_setCell]); omega) (SM14.out.below (B := wz.heap.size) (by (repeat' (first | with_reducible exact Below.refl _ _ | with_reducible assumption | with_reducible refine Below.drew ?_ | with_reducible refine Below.alloc ?_ ?_ _ | with_reducible refine Below.setCell ?_ ?_ _ | ((try simp only [World.heap_size_alloc, World.heap_size_drew, World.heap_size_setCell]); omega)))) hi9z) (by (try simp only [World.heap_size_alloc, World.heap_size_drew, World.heap_size_setCell]); omega)).mono ?_); rintro _ wa ⟨C, qc, rfl, sc9, ba⟩; have va : Below wz.heap.size wz wa := Below.trans (by (repeat' (first | with_reducible exact Below.refl _ _ | with_reducible assumption | with_reducible refine Below.drew ?_ | with_reducible refine Below.alloc ?_ ?_ _ | with_reducible refine Below.setCell ?_ ?_ _ | ((try simp only [World.heap_size_alloc, World.heap_size_drew, World.heap_size_setCell]); omega)))) (ba.mono (by (try simp only [World.heap_size_alloc, World.heap_size_drew, World.heap_size_setCell]); omega)); have za := va.size; have SCC := Lib.hid (sc9.mono (lo' := wz.heap.size) (by (try simp only [World.heap_size_alloc, World.heap_size_drew, World.heap_size_setCell]); omega) (Nat.le_refl _)); clear kb2 kx2 sc9 ba; obtain ⟨-, -, kb2, -, -, -⟩ := K14.out.below va hg7z; obtain ⟨-, -, kx2, -, -, -⟩ := K15.out.below va hg12w) | (go_simp; go_at_call 67; (with_reducible refine (CWB.out _ C qc B4 q4 _ _ _ _ (SCC.out.below (B := wa.heap.size) (by (repeat' (first | with_reducible exact Below.refl _ _ | with_reducible assumption | with_reducible refine Below.drew ?_ | with_reducible refine Below.alloc ?_ ?_ _ | with_reducible refine Below.setCell ?_ ?_ _ | ((try simp only [World.heap_size_alloc, World.heap_size_drew, World.heap_size_setCell]); omega)))) (Nat.le_refl _)) ((SX14.out.below va hXz).below (B := wa.heap.size) (by (repeat' (first | with_reducible exact Below.refl _ _ | with_reducible assumption | with_reducible refine Below.drew ?_ | with_reducible refine Below.alloc ?_ ?_ _ | with_reducible refine Below.setCell ?_ ?_ _ | ((try simp only [World.heap_size_alloc, World.heap_size_drew, World.heap_size_setCell]); omega)))) (Nat.le_trans hXz za))).mono ?_); rintro _ wb ⟨rfl, bb⟩; have vb : Below wz.heap.size wz wb := va.trans ((Below.trans (by (repeat' (first | with_reducible exact Below.refl _ _ | with_reducible assumption | with_reducible refine Below.drew ?_ | with_reducible refine Below.alloc ?_ ?_ _ | with_reducible refine Below.setCell ?_ ?_ _ | ((try simp only [World.heap_size_alloc, World.heap_size_drew, World.heap_size_setCell]); omega)))) (bb.mono (by (try simp only [World.heap_size_alloc, World.heap_size_drew, World.heap_size_setCell]); omega)) : Below wa.heap.size wa wb).mono za); clear bb))
        all_goals
          go_wp2_with fail
          go_ret
          exact ⟨rfl, HB14.out.trans (vb.mono hwz)⟩
theorem own : ownKnob Try.prog.godebug = none := by kernel_rfl
theorem laidOut : laidOutB Try.prog = true := by kernel_rfl
set_option maxRecDepth 100000 in
theorem lifted (os : Os) (started : os.Started) (H : Type) (enc : TypeId × Value → H) :
    ReturnsInHanded {} Try.checked os 13 .any (Rows.fnOldLifeSpec.pre6 enc Try.prog Try.f13 Rows.fnOldLifeRow.domain false) (Rows.fnOldLifeSpec.post enc Try.prog Try.f13 false true false false) := by
  refine returnsInHanded_of_change (C := Try.checked) own started (by kernel_rfl) Try.func13
    (ChangeSpec.witness6 (enc := enc) (C := Try.checked) false ⟨#[], #[.slice none 0 0], []⟩ 8 (by kernel_rfl) (by kernel_rfl) (by kernel_rfl) (by kernel_rfl)) ?_
  intro W base args ds gs before hval0 hW hcnd _
  have hval : ∀ (j : Nat) t v, Try.f13.params[j]? = some t → args[j]? = some v → Value.okWide Try.prog W .any base t v := hval0
  have hW' := hW
  obtain ⟨p, q, hA0, hV, rfl, hfz, hnd⟩ := hW
  have hA : DataW.TrodAll enc Try.prog W 0 (fun _ => true) true Try.f13.params.toList args.toList ds p := hA0
  rw [Try.params13] at hA hval
  obtain ⟨v0, d0, rfl, rfl, h0⟩ := trodAll_one hA
  obtain ⟨rfl, rfl⟩ := trodVars_none hV
  obtain ⟨A0, n0, c0, rfl, hz0⟩ := open_bytes Try.underlying76 Try.underlying5 (by kernel_rfl) (hval 0 76 v0 rfl rfl) h0
  clear hA0 hval0
  refine (law_any A0 n0 c0 W hz0).mono fun e W' ⟨he, hb⟩ => ?_
  subst he
  exact ⟨_, rfl, law_post laidOut (by kernel_rfl) rfl Try.underlying4 rfl hW' hb rfl rfl rfl⟩
theorem holds : Rows.FnOldLifeSaid :=
  OpenClaim.holds_of_wide 13 Try.f13 rfl rfl rfl rfl rfl rfl rfl ⟨rfl, rfl, rfl, rfl, rfl⟩ rfl rfl rfl rfl rfl (by kernel_rfl) Try.func13 (by kernel_rfl)
    (of_decide_eq_true (by kernel_rfl)) (by unfold Func.isWrapper; first | (rw [if_pos (by decide +kernel)]; kernel_rfl) | (rw [if_neg (by decide +kernel)]; exact ⟨rfl, rfl⟩))
    (fun os started H enc _ => lifted os started H enc)
#print axioms holds
end OldLife
end Go.Proofs.Ytgnilmdaegnaaaa
