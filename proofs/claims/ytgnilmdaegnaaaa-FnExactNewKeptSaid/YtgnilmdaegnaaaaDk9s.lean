/- Disks: what the reference syncs, at one waiting write. No conditions. -/
import Derived.Test.YtgnilmdaegnaaaaDk8s
import Derived.Test.YtgnilmdaegnaaaaTn1
import Derived.Test.YtgnilmdaegnaaaaW9b
set_option linter.unusedSimpArgs false
set_option linter.unusedVariables false
namespace Go.Proofs.Ytgnilmdaegnaaaa
open Go.RowKit
theorem run_field0 (A0 : Option Addr) (n0 c0 : Nat) (A1 : Option Addr) (n1 c1 : Nat) : ∀ W, (Instr.field 67 (.agg #[.slice A0 n0 c0, .slice A1 n1 c1]) 0).run Try.prog W = .ok (.slice A0 n0 c0) W := fun _ => by kernel_rfl
set_option maxRecDepth 100000 in
set_option maxHeartbeats 4000000 in
theorem l3Fall1_any (A0 : Option Addr) (n0 c0 : Nat) (k0 : List (List Int)) (A1 : Option Addr) (c1 : Nat) (q : Nat) (zr : List Int) (lo hi : Nat) (w : World) (h0 : SlR w lo hi A0 n0 c0 k0) (h1 : SlW w lo hi A1 1 c1 [⟨(q : Int), zr⟩]) (hhi : hi ≤ w.heap.size) (hd : diskOk k0 [⟨(q : Int), zr⟩] = true) (hq : q < n0) (Af : Option Addr) (cf : Nat) :
    Calls Try.prog 184 #[.agg #[.slice A0 n0 c0, .slice A1 1 c1], .slice Af 0 cf, .bool true] w (DkRes w n0 (k0.set q zr) 0 []) := by
  obtain ⟨z3, z4, z5, hk0, hv0⟩ := diskOk_sizes hd
  have hn0 : n0 ≤ 40 := by rw [← h0.len]; exact z4
  have hzr : zr.length ≤ 48 := rowOk_len (wrOk_row (hv0 0 _ rfl))
  have HN0 := Lib.hid h0.len
  have CC : Hid (∀ W, Below w.heap.size w W → Calls Try.prog 183 #[.agg #[.slice A0 n0 c0, .slice A1 1 c1]] W (DkRes3 W 135 n0 k0 1 [⟨(q : Int), zr⟩])) := Lib.hid (fun W hW => l3Copy_any A0 n0 c0 k0 A1 1 c1 _ lo hi W (h0.below hW hhi) (h1.below hW hhi) (Nat.le_trans hhi hW.size) (by omega) (by omega) (fun j r h => by have := rowOk_len (hk0 j r h); omega) (fun j r h => by have := rowOk_len (wrOk_row (hv0 j r h)); omega))
  have H1 := Lib.hid h1
  have HQ := Lib.hid hq
  have T1 : Hid (∀ W, Below (w.heap.size + 2) ((w.alloc (.cells #[.slice A0 n0 c0, .slice A1 1 c1] 67)).alloc (.cells #[.slice none 0 0, .slice none 0 0] 67)) W → (Box2 W w.heap.size (.slice A0 n0 c0) (.slice A1 1 c1) ∧ Box2 W (w.heap.size + 1) (.slice none 0 0) (.slice none 0 0))) := Lib.hid (fun W hW => ⟨((Box2.new w (.slice A0 n0 c0) (.slice A1 1 c1) 67).below (B := w.heap.size + 1) ((Below.refl _ _).alloc (by simp) (.cells #[.slice none 0 0, .slice none 0 0] 67)) (by omega)).below hW (by omega), by
    have h9 := Box2.new (w.alloc (.cells #[.slice A0 n0 c0, .slice A1 1 c1] 67)) (.slice none 0 0) (.slice none 0 0) 67
    rw [World.heap_size_alloc] at h9
    exact h9.below hW (by omega)⟩)
  have hs9 : ((w.alloc (.cells #[.slice A0 n0 c0, .slice A1 1 c1] 67)).alloc (.cells #[.slice none 0 0, .slice none 0 0] 67)).heap.size = w.heap.size + 2 := by simp only [World.heap_size_alloc]
  have hb9 : Below w.heap.size w ((w.alloc (.cells #[.slice A0 n0 c0, .slice A1 1 c1] 67)).alloc (.cells #[.slice none 0 0, .slice none 0 0] 67)) := by (repeat' (first | with_reducible exact Below.refl _ _ | with_reducible assumption | with_reducible refine Below.drew ?_ | with_reducible refine Below.alloc ?_ ?_ _ | with_reducible refine Below.setCell ?_ ?_ _ | with_reducible refine Below.trans ?_ (Below.mono (by assumption) ?_) | ((try simp only [World.heap_size_alloc, World.heap_size_drew, World.heap_size_setCell]); omega)))
  clear h0 h1 hd z3 z4 z5 hk0 hv0
  go_enter Try.func184, Try.ntmps184
  go_wp2_with fail
  generalize hW0 : ((w.alloc (.cells #[.slice A0 n0 c0, .slice A1 1 c1] 67)).alloc (.cells #[.slice none 0 0, .slice none 0 0] 67)) = W0 at *
  have hs9a := Nat.le_of_eq hs9
  have hs9b := Nat.le_of_eq hs9.symm
  clear hW0 hs9
  have HB9 := Lib.hid hb9
  (with_reducible refine (CC.out _ hb9).mono ?_); rintro _ w2 ⟨X0, d0, X1, d1, vs, mid, rfl, s2, o2, v2, m1, m2, kf2, b2⟩
  have y2 := b2.size
  have hf0 := run_field0 X0 n0 d0 X1 1 d1
  have P2 := Lib.hid (b2.mono (by omega) : Below (w.heap.size + 2) W0 w2)
  have hst : Below w2.heap.size w2 (w2.alloc (.cells #[.slice X0 n0 d0, .slice none 0 0] 67)) := (Below.refl _ _).alloc (Nat.le_refl _) _
  have hss : (w2.alloc (.cells #[.slice X0 n0 d0, .slice none 0 0] 67)).heap.size = w2.heap.size + 1 := World.heap_size_alloc _ _
  have S2 := Lib.hid (s2.below hst m2)
  have KF2 := Lib.hid (kf2.below hst m2)
  have K2 := Lib.hid (Box2.new w2 (.slice X0 n0 d0) (.slice none 0 0) 67)
  have P3 := Lib.hid (P2.out.trans (hst.mono (by omega)))
  clear s2 o2 v2 b2 kf2 hst hb9
  go_wp2_with fail
  generalize hW2 : (w2.alloc (.cells #[.slice X0 n0 d0, .slice none 0 0] 67)) = W2 at *
  have hssa := Nat.le_of_eq hss
  have hssb := Nat.le_of_eq hss.symm
  clear hW2 hss
  go_loopw [8, 9, 10, 35] (fun i _ _ _ wr => (i = .int .i64 0 ∧ wr = W2) ∨ (i = .int .i64 1 ∧ Box2 wr w2.heap.size (.slice X0 n0 d0) (.slice none 0 0) ∧ Hid (SlR wr (w.heap.size + 2) wr.heap.size X0 n0 d0 (k0.set q zr)) ∧ Hid (Below (w.heap.size + 2) W0 wr) ∧ w2.heap.size + 1 ≤ wr.heap.size)) (fun i _ _ _ _ => 1 - (intOf i).toNat)
  case atStart => exact .inl ⟨rfl, rfl⟩
  case round =>
    rcases hrel with ⟨rfl, rfl⟩ | ⟨rfl, bx, S, hb, hlt⟩
    · have HW := Lib.hid (HB9.out.trans (P3.out.mono (by omega)))
      obtain ⟨g, off, Aj, nj, cj, rfl, _, hg, p0, p1, hs⟩ := (H1.out.below HW.out hhi).lie 0 _ rfl
      simp only [Nat.zero_mul, Nat.add_zero, Nat.zero_add] at p0 p1
      obtain ⟨r1, hr1⟩ : ∃ r1, k0[q]? = some r1 := ⟨k0[q]'(by rw [HN0.out]; exact HQ.out), List.getElem?_eq_getElem _⟩
      obtain ⟨gk, offk, Bj, bj, dj, rfl, hgk0, hgk, pk, hsk⟩ := S2.out.lie q r1 hr1
      obtain ⟨hk1, hk2, hk3⟩ := KF2.out gk offk rfl
      have hnj : nj ≤ 1000000 := by have := hs.len; simp only at this; omega
      have HS := Lib.hid hs
      have hgkw : gk < wr.heap.size := by omega
      have hal : Below wr.heap.size wr (wr.alloc (.cells #[.int .i64 (q : Int), .slice Aj nj cj] 135)) := (Below.refl _ _).alloc (Nat.le_refl _) _
      have hzl : (wr.alloc (.cells #[.int .i64 (q : Int), .slice Aj nj cj] 135)).heap.size = wr.heap.size + 1 := World.heap_size_alloc _ _
      have HAL := Lib.hid hal
      have HF : Hid (∀ W, Below (wr.alloc (.cells #[.int .i64 (q : Int), .slice Aj nj cj] 135)).heap.size (wr.alloc (.cells #[.int .i64 (q : Int), .slice Aj nj cj] 135)) W → (Box2 W w2.heap.size (.slice (some ⟨gk, offk, none⟩) n0 d0) (.slice none 0 0) ∧ Box2 W wr.heap.size (.int .i64 (q : Int)) (.slice Aj nj cj) ∧ W.cell? ⟨gk, offk + q, none⟩ = some (.slice Bj bj dj) ∧ W.frozen? ⟨gk, offk + q, none⟩ = false)) := Lib.hid (fun W hW => ⟨(K2.out.below HAL.out (by omega)).below hW (by rw [hzl]; omega), (Box2.new wr (.int .i64 (q : Int)) (.slice Aj nj cj) 135).below hW (by rw [hzl]; omega), (hW.cell (p := ⟨gk, offk + q, none⟩) (show gk < _ by rw [hzl]; omega)).trans ((HAL.out.cell (p := ⟨gk, offk + q, none⟩) hgkw).trans pk), (hW.frozen (p := ⟨gk, offk + q, none⟩) (show gk < _ by rw [hzl]; omega)).trans ((HAL.out.frozen (p := ⟨gk, offk + q, none⟩) hgkw).trans (hk3 _))⟩)
      obtain ⟨t0, t1, -, -⟩ := (T1.out _ P3.out).1
      clear hs hr1 pk hsk hk3 hal
      go_upto_region 10 with fail
      clear t0 t1 p0 p1
      have HS3 := Lib.hid (HS.out.below HAL.out (by omega))
      have S3 := Lib.hid (S2.out.below HAL.out (by omega))
      have P4 := Lib.hid (P3.out.trans (HAL.out.mono (by omega)))
      generalize hW3 : (wr.alloc (.cells #[.int .i64 (q : Int), .slice Aj nj cj] 135)) = W3 at *
      have hzla := Nat.le_of_eq hzl
      have hzlb := Nat.le_of_eq hzl.symm
      clear hW3 hzl
      obtain ⟨⟨x0, x1, -, -⟩, ⟨b0, b1, -, -⟩, e0, e1⟩ := HF.out _ (Below.refl _ _)
      have hq0 : (0 : Int) ≤ (q : Int) := by omega
      have hq1 : (q : Int) < (n0 : Int) := by have := HQ.out; omega
      go_region_law (first | (go_simp; go_at_call 181; (with_reducible refine (l1Copy_any _ _ _ _ _ zr _ (HS3.out.below (B := W3.heap.size) (by (repeat' (first | with_reducible exact Below.refl _ _ | with_reducible assumption | with_reducible refine Below.drew ?_ | with_reducible refine Below.alloc ?_ ?_ _ | with_reducible refine Below.setCell ?_ ?_ _ | with_reducible refine Below.trans ?_ (Below.mono (by assumption) ?_) | ((try simp only [World.heap_size_alloc, World.heap_size_drew, World.heap_size_setCell]); omega)))) (by omega)) hnj).mono ?_); rintro _ w4 ⟨A4, c4, rfl, s4, b4⟩; have hb4 : Below W3.heap.size W3 w4 := (by (repeat' (first | with_reducible exact Below.refl _ _ | with_reducible assumption | with_reducible refine Below.drew ?_ | with_reducible refine Below.alloc ?_ ?_ _ | with_reducible refine Below.setCell ?_ ?_ _ | with_reducible refine Below.trans ?_ (Below.mono (by assumption) ?_) | ((try simp only [World.heap_size_alloc, World.heap_size_drew, World.heap_size_setCell]); omega)))); have y4 := hb4.size; clear x0 x1 b0 b1 e0 e1; obtain ⟨⟨x0, x1, -, -⟩, ⟨b0, b1, -, -⟩, e0, e1⟩ := HF.out _ hb4; have S4 := Lib.hid (s4.mono (lo' := w.heap.size + 2) (by (try simp only [World.heap_size_alloc, World.heap_size_drew, World.heap_size_setCell]); omega) (Nat.le_refl _)); have HB4 := Lib.hid hb4; clear s4 b4 hb4))
      all_goals
        have R4 := Lib.hid (((S3.out.below HB4.out (by omega)).mono (lo' := w.heap.size + 2) (hi' := w4.heap.size) (by omega) (by omega)).put (j := q) HQ.out S4.out)
        have hz9 : (w4.setCell ⟨gk, offk + q, none⟩ (.slice A4 nj c4)).heap.size = w4.heap.size := World.heap_size_setCell _ _ _
        have BX9 := Lib.hid ((HF.out _ HB4.out).1.upd (Box2.upd1 (b := gk) (q := offk + q) (v := .slice A4 nj c4)) (.inr (by omega)))
        have P9 := Lib.hid ((P4.out.trans (HB4.out.mono (by omega))).setCell (p := ⟨gk, offk + q, none⟩) (show w.heap.size + 2 ≤ gk by omega) (.slice A4 nj c4))
        clear x0 x1 b0 b1 e0 e1
        go_wp2_with fail
        go_roundw
        case rel => exact .inr ⟨by go_num, BX9.out, Lib.hid (by rw [hz9]; exact R4.out), P9, by omega⟩
        case measure => simp [intOf]
    · obtain ⟨⟨t0, t1, -, -⟩, k1, k2, kf1, kf2'⟩ := T1.out _ hb.out
      obtain ⟨x0, x1, -, -⟩ := bx
      have HB := Lib.hid (HB9.out.trans (hb.out.mono (by omega)))
      have hyw := HB.out.size
      clear hb
      go_wp2_with fail
      refine bodyPost_ret (v := .agg #[.slice X0 n0 d0, .slice none 0 0]) (by simp [results, Try.results184, go_sem, k1, k2, kf1, kf2']) rfl ⟨X0, d0, none, 0, rfl, ?_, SlW.nil _ _ _ _ _ (by omega), ?_⟩
      · have u9 : Upd (w.heap.size + 1) (w.heap.size + 2) wr ((wr.setCell ⟨w.heap.size + 1, 0, none⟩ (.slice X0 n0 d0)).setCell ⟨w.heap.size + 1, 1, none⟩ (.slice none 0 0)) := ((Upd.refl _ _ _).setCell (p := ⟨w.heap.size + 1, 0, none⟩) (Nat.le_refl _) (by simp) _).setCell (p := ⟨w.heap.size + 1, 1, none⟩) (Nat.le_refl _) (by simp) _
        exact (S.out.upd u9 (.inr (Nat.le_refl _))).mono (by omega) (by simp only [World.heap_size_setCell]; omega)
      · exact (HB.out.setCell (p := ⟨w.heap.size + 1, 0, none⟩) (by simp only; omega) _).setCell (p := ⟨w.heap.size + 1, 1, none⟩) (by simp only; omega) _
set_option maxRecDepth 100000 in
set_option maxHeartbeats 4000000 in
theorem sSynced1_any (A0 : Option Addr) (n0 c0 : Nat) (k0 : List (List Int)) (A1 : Option Addr) (c1 : Nat) (q : Nat) (zr : List Int) (lo hi : Nat) (w : World) (h0 : SlR w lo hi A0 n0 c0 k0) (h1 : SlW w lo hi A1 1 c1 [⟨(q : Int), zr⟩]) (hhi : hi ≤ w.heap.size) (hd : diskOk k0 [⟨(q : Int), zr⟩] = true) (hq : q < n0) :
    Calls Try.prog 176 #[.agg #[.slice A0 n0 c0, .slice A1 1 c1]] w (DkRes w n0 (k0.set q zr) 0 []) := by
  have CD : Hid (∀ W, Below w.heap.size w W → Calls Try.prog 138 #[.agg #[.slice A0 n0 c0, .slice A1 1 c1]] W fun e w' => e = .returned (.bool true) ∧ Below W.heap.size W w') := Lib.hid (fun W hW => by
    have h7 := sDiskOk_any A0 n0 c0 k0 A1 1 c1 _ lo hi W (h0.below hW hhi) (h1.below hW hhi) (Nat.le_trans hhi hW.size)
    rw [hd] at h7
    exact h7)
  have CF : Hid (∀ (W : World) (Af : Option Addr), Below w.heap.size w W → Calls Try.prog 184 #[.agg #[.slice A0 n0 c0, .slice A1 1 c1], .slice Af 0 0, .bool true] W (DkRes W n0 (k0.set q zr) 0 [])) := Lib.hid (fun W Af hW => l3Fall1_any A0 n0 c0 k0 A1 c1 q zr lo hi W (h0.below hW hhi) (h1.below hW hhi) (Nat.le_trans hhi hW.size) hd hq Af 0)
  have T1 : Hid (∀ W, Below (w.heap.size + 2) ((w.alloc (.cells #[.slice A0 n0 c0, .slice A1 1 c1] 67)).alloc (.cells #[.slice none 0 0, .slice none 0 0] 67)) W → (Box2 W w.heap.size (.slice A0 n0 c0) (.slice A1 1 c1) ∧ Box2 W (w.heap.size + 1) (.slice none 0 0) (.slice none 0 0))) := Lib.hid (fun W hW => ⟨((Box2.new w (.slice A0 n0 c0) (.slice A1 1 c1) 67).below (B := w.heap.size + 1) ((Below.refl _ _).alloc (by simp) (.cells #[.slice none 0 0, .slice none 0 0] 67)) (by omega)).below hW (by omega), by
    have h9 := Box2.new (w.alloc (.cells #[.slice A0 n0 c0, .slice A1 1 c1] 67)) (.slice none 0 0) (.slice none 0 0) 67
    rw [World.heap_size_alloc] at h9
    exact h9.below hW (by omega)⟩)
  have hs9 : ((w.alloc (.cells #[.slice A0 n0 c0, .slice A1 1 c1] 67)).alloc (.cells #[.slice none 0 0, .slice none 0 0] 67)).heap.size = w.heap.size + 2 := by simp only [World.heap_size_alloc]
  have hb9 : Below w.heap.size w ((w.alloc (.cells #[.slice A0 n0 c0, .slice A1 1 c1] 67)).alloc (.cells #[.slice none 0 0, .slice none 0 0] 67)) := by (repeat' (first | with_reducible exact Below.refl _ _ | with_reducible assumption | with_reducible refine Below.drew ?_ | with_reducible refine Below.alloc ?_ ?_ _ | with_reducible refine Below.setCell ?_ ?_ _ | with_reducible refine Below.trans ?_ (Below.mono (by assumption) ?_) | ((try simp only [World.heap_size_alloc, World.heap_size_drew, World.heap_size_setCell]); omega)))
  clear h0 h1 hd hq
  go_enter Try.func176, Try.ntmps176
  go_wp2_with fail
  generalize hW0 : ((w.alloc (.cells #[.slice A0 n0 c0, .slice A1 1 c1] 67)).alloc (.cells #[.slice none 0 0, .slice none 0 0] 67)) = W0 at *
  have hs9a := Nat.le_of_eq hs9
  have hs9b := Nat.le_of_eq hs9.symm
  clear hW0 hs9
  have HB9 := Lib.hid hb9
  (with_reducible refine (CD.out _ hb9).mono ?_); rintro _ w1 ⟨rfl, b1⟩
  have y1 := b1.size
  have hal : Below w1.heap.size w1 (w1.alloc (.cells #[] 2)) := (Below.refl _ _).alloc (Nat.le_refl _) _
  have P1 := Lib.hid (b1.trans (hal.mono y1))
  obtain ⟨⟨q0, q1, -, -⟩, -⟩ := T1.out _ (P1.out.mono (by omega))
  obtain ⟨⟨t0, t1, -, -⟩, -⟩ := T1.out _ (b1.mono (by omega))
  clear b1 hb9 hal
  go_wp2_with fail
  (with_reducible refine (CF.out _ _ (HB9.out.trans (P1.out.mono (by omega)))).mono ?_); rintro _ w2 ⟨X0, d0, X1, d1, rfl, s0, s1, b2⟩
  have y2 := b2.size
  simp only [World.heap_size_alloc] at y2
  have P2 : Below (w.heap.size + 2) W0 w2 := (P1.out.mono (by omega)).trans (b2.mono (by (try simp only [World.heap_size_alloc, World.heap_size_drew, World.heap_size_setCell]); omega))
  obtain ⟨-, k1, k2, kf1, kf2'⟩ := T1.out _ P2
  have HB := Lib.hid (HB9.out.trans (P2.mono (by omega)))
  have R0 := Lib.hid (s0.mono (lo' := w.heap.size + 2) (by (try simp only [World.heap_size_alloc, World.heap_size_drew, World.heap_size_setCell]); omega) (Nat.le_refl _))
  have R1 := Lib.hid (s1.mono (lo' := w.heap.size + 2) (by (try simp only [World.heap_size_alloc, World.heap_size_drew, World.heap_size_setCell]); omega) (Nat.le_refl _))
  clear s0 s1 b2 P2 q0 q1 t0 t1
  go_wp2_with fail
  have u9 : Upd (w.heap.size + 1) (w.heap.size + 2) w2 ((w2.setCell ⟨w.heap.size + 1, 0, none⟩ (.slice X0 n0 d0)).setCell ⟨w.heap.size + 1, 1, none⟩ (.slice X1 0 d1)) := ((Upd.refl _ _ _).setCell (p := ⟨w.heap.size + 1, 0, none⟩) (Nat.le_refl _) (by simp) _).setCell (p := ⟨w.heap.size + 1, 1, none⟩) (Nat.le_refl _) (by simp) _
  refine bodyPost_ret (v := .agg #[.slice X0 n0 d0, .slice X1 0 d1]) (by simp [results, Try.results176, go_sem, k1, k2, kf1, kf2']) rfl ⟨X0, d0, X1, d1, rfl, ?_, ?_, ?_⟩
  · exact (R0.out.upd u9 (.inr (Nat.le_refl _))).mono (by omega) (by simp only [World.heap_size_setCell]; omega)
  · exact (R1.out.upd u9 (.inr (Nat.le_refl _))).mono (by omega) (by simp only [World.heap_size_setCell]; omega)
  · exact (HB.out.setCell (p := ⟨w.heap.size + 1, 0, none⟩) (by simp only; omega) _).setCell (p := ⟨w.heap.size + 1, 1, none⟩) (by simp only; omega) _
end Go.Proofs.Ytgnilmdaegnaaaa
