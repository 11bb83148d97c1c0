/- Disks: what is synced, what falls. No conditions. -/
import Derived.Test.YtgnilmdaegnaaaaZDk8
set_option linter.unusedSimpArgs false
set_option linter.unusedVariables false
namespace Go.Proofs.Ytgnilmdaegnaaaa
open Go.RowKit
/-- One row of a slice of rows is laid anew. -/
theorem SlR.put {w : World} {lo hi g off n c j m d : Nat} {rows : List (List Int)} {B : Option Addr} {r : List Int} (h : SlR w lo hi (some ⟨g, off, none⟩) n c rows) (hj : j < n) (hs : Sl w lo hi 1 B m d r) : SlR (w.setCell ⟨g, off + j, none⟩ (.slice B m d)) lo hi (some ⟨g, off, none⟩) n c (rows.set j r) := by
  obtain ⟨r0, hr0⟩ : ∃ r0, rows[j]? = some r0 := ⟨rows[j]'(by rw [h.len]; exact hj), List.getElem?_eq_getElem _⟩
  obtain ⟨g', off', A0, n0, c0, e, q1, q2, q3, -⟩ := h.lie j r0 hr0
  injection e with e
  injection e with e1 e2
  subst e1 e2
  refine ⟨by rw [List.length_set]; exact h.len, h.cap, h.big, fun i x hx => ?_⟩
  by_cases hij : j = i
  · subst hij
    rw [List.getElem?_set_self (by rw [h.len]; exact hj)] at hx
    injection hx with hx
    subst hx
    exact ⟨g, off, B, m, d, rfl, q1, q2, World.cell?_setCell_same _ _ _ q3, hs.setOther q3 slice_noint _⟩
  · rw [List.getElem?_set_ne hij] at hx
    obtain ⟨g', off', A1, n1, c1, e, p1, p2, p3, p4⟩ := h.lie i x hx
    injection e with e
    injection e with e1 e2
    subst e1 e2
    exact ⟨g, off, A1, n1, c1, rfl, p1, p2, (World.cell?_setCell_other _ _ _ _ (by simp <;> omega)).trans p3, p4.setOther q3 slice_noint _⟩
def syncM (k0 : List (List Int)) (v0 : List WriteD) : List (List Int) := v0.foldl (fun ks x => ks.set x.at_.toNat x.row) k0
theorem syncM_take {k0 : List (List Int)} {v0 : List WriteD} {q : Nat} {r : WriteD} (h : v0[q]? = some r) : syncM k0 (v0.take (q + 1)) = (syncM k0 (v0.take q)).set r.at_.toNat r.row := by
  rw [List.take_add_one, h]
  simp [syncM]
theorem syncM_len (k0 : List (List Int)) : ∀ (v0 : List WriteD), (syncM k0 v0).length = k0.length := by
  intro v0
  induction v0 generalizing k0 with
  | nil => rfl
  | cons x l ih =>
    have := ih (k0.set x.at_.toNat x.row)
    rw [List.length_set] at this
    exact this
set_option maxRecDepth 100000 in
set_option maxHeartbeats 8000000 in
theorem synced_any (A0 : Option Addr) (n0 c0 : Nat) (k0 : List (List Int)) (A1 : Option Addr) (n1 c1 : Nat) (v0 : List WriteD) (lo hi : Nat) (w : World) (h0 : SlR w lo hi A0 n0 c0 k0) (h1 : SlW w lo hi A1 n1 c1 v0) (hhi : hi ≤ w.heap.size) (hd : diskOk k0 v0 = true) :
    Calls Try.prog 55 #[.agg #[.slice A0 n0 c0, .slice A1 n1 c1]] w (DkRes w n0 (syncM k0 v0) 0 []) := by
  obtain ⟨z3, z4, z5, hk0, hv0⟩ := diskOk_sizes hd
  have L0 := Lib.hid h0.len
  have L1 := Lib.hid h1.len
  rw [L0.out] at z3 z4 hv0
  rw [L1.out] at z5
  have C1 : Hid (∀ W, Below w.heap.size w W → Calls Try.prog 108 #[.agg #[.slice A0 n0 c0, .slice A1 n1 c1]] W fun e w' => e = .returned (.bool true) ∧ Below W.heap.size W w') := Lib.hid (fun W hW => by
    have h7 := diskOk_any A0 n0 c0 k0 A1 n1 c1 v0 lo hi W (h0.below hW hhi) (h1.below hW hhi) (Nat.le_trans hhi hW.size)
    rw [hd] at h7
    exact h7)
  have C2 : Hid (∀ W, Below w.heap.size w W → Calls Try.prog 109 #[.agg #[.slice A0 n0 c0, .slice A1 n1 c1]] W (DkRes3 W 135 n0 k0 n1 v0)) := Lib.hid (fun W hW => copyDisk_any A0 n0 c0 k0 A1 n1 c1 v0 lo hi W (h0.below hW hhi) (h1.below hW hhi) (Nat.le_trans hhi hW.size) (by omega) (by omega) (fun j r h => by have := rowOk_len (hk0 j r h); omega) (fun j r h => by have := rowOk_len (wrOk_row (hv0 j r h)); omega))
  have T1 : Hid (∀ W, Below (w.heap.size + 2) ((w.alloc (.cells #[.slice A0 n0 c0, .slice A1 n1 c1] 67)).alloc (.cells #[.slice none 0 0, .slice none 0 0] 67)) W → (Box2 W w.heap.size (.slice A0 n0 c0) (.slice A1 n1 c1) ∧ Box2 W (w.heap.size + 1) (.slice none 0 0) (.slice none 0 0))) := Lib.hid (fun W hW => ⟨((Box2.new w (.slice A0 n0 c0) (.slice A1 n1 c1) 67).below (B := w.heap.size + 1) ((Below.refl _ _).alloc (by simp) (.cells #[.slice none 0 0, .slice none 0 0] 67)) (by omega)).below hW (by omega), by
    have h9 := Box2.new (w.alloc (.cells #[.slice A0 n0 c0, .slice A1 n1 c1] 67)) (.slice none 0 0) (.slice none 0 0) 67
    rw [World.heap_size_alloc] at h9
    exact h9.below hW (by omega)⟩)
  have hs9 : ((w.alloc (.cells #[.slice A0 n0 c0, .slice A1 n1 c1] 67)).alloc (.cells #[.slice none 0 0, .slice none 0 0] 67)).heap.size = w.heap.size + 2 := by simp only [World.heap_size_alloc]
  have hb9 : Below w.heap.size w ((w.alloc (.cells #[.slice A0 n0 c0, .slice A1 n1 c1] 67)).alloc (.cells #[.slice none 0 0, .slice none 0 0] 67)) := by (repeat' (first | with_reducible exact Below.refl _ _ | with_reducible assumption | with_reducible refine Below.drew ?_ | with_reducible refine Below.alloc ?_ ?_ _ | with_reducible refine Below.setCell ?_ ?_ _ | with_reducible refine Below.trans ?_ (Below.mono (by assumption) ?_) | ((try simp only [World.heap_size_alloc, World.heap_size_drew, World.heap_size_setCell]); omega)))
  have HK0 := Lib.hid hk0
  have HV0 := Lib.hid hv0
  clear h0 h1 hk0 hv0 hd
  go_enter Try.func55, Try.ntmps55
  go_wp2_with fail
  generalize hW0 : (w.alloc (.cells #[.slice A0 n0 c0, .slice A1 n1 c1] 67)).alloc (.cells #[.slice none 0 0, .slice none 0 0] 67) = W0 at *
  clear hW0
  (with_reducible refine (C1.out _ hb9).mono ?_); rintro _ w1 ⟨rfl, b1⟩
  have y1 := b1.size
  have p1 : Below (w.heap.size + 2) W0 w1 := b1.mono (by omega)
  obtain ⟨⟨q0, q1, qf0, qf1⟩, -⟩ := T1.out _ p1
  have P1 := Lib.hid p1
  clear b1 p1
  go_wp2_with fail
  (with_reducible refine (C2.out _ (hb9.trans (P1.out.mono (by omega)))).mono ?_); rintro _ w2 ⟨X0, d0, X1, d1, vs, mid, rfl, s2, o2, v2, m1, m2, kf2, b2⟩
  have y2 := b2.size
  have hw2 : w.heap.size < w2.heap.size := by omega
  have p2 : Below (w.heap.size + 2) W0 w2 := P1.out.trans (b2.mono (by omega))
  clear q0 q1 qf0 qf1
  obtain ⟨A9, c9, e9, sw⟩ := SlW.of_own o2 v2 (Nat.le_refl _) (Nat.le_refl _)
  injection e9 with e91 e92 e93
  subst e91 e93
  have hst : Below w2.heap.size w2 (w2.alloc (.cells #[.slice X0 n0 d0, .slice X1 n1 d1] 67)) := (Below.refl _ _).alloc (Nat.le_refl _) _
  have hss : (w2.alloc (.cells #[.slice X0 n0 d0, .slice X1 n1 d1] 67)).heap.size = w2.heap.size + 1 := World.heap_size_alloc _ _
  have SW := Lib.hid (sw.below hst (Nat.le_refl _))
  have S2 := Lib.hid ((s2.below hst m2).mono (Nat.le_refl _) m2)
  have KF2 := Lib.hid (kf2.below hst m2)
  have K2 := Lib.hid (Box2.new w2 (.slice X0 n0 d0) (.slice X1 n1 d1) 67)
  have P2 := Lib.hid (p2.trans (hst.mono (by omega)))
  obtain ⟨k20, k21, kf20, kf21⟩ := K2.out
  clear s2 o2 v2 b2 p2 kf2 sw hst vs
  go_wp2_with fail
  generalize hWs : (w2.alloc (.cells #[.slice X0 n0 d0, .slice X1 n1 d1] 67)) = Ws at *
  clear hWs k20 k21 kf20 kf21
  go_loopw [5, 15] (fun _ i wr => ∃ q : Nat, q ≤ n1 ∧ i = .int .i64 q ∧ Box2 wr w2.heap.size (.slice X0 n0 d0) (.slice X1 n1 d1) ∧ Hid (SlR wr w1.heap.size w2.heap.size X0 n0 d0 (syncM k0 (v0.take q))) ∧ Hid (KF wr w1.heap.size mid X0) ∧ Upd w1.heap.size mid Ws wr) (fun _ i _ => n1 - (intOf i).toNat)
  case atStart => exact ⟨0, Nat.zero_le _, rfl, K2.out, S2, KF2, Upd.refl _ _ _⟩
  case round =>
    obtain ⟨q, hq, rfl, hbx, S, K, hu⟩ := hrel
    by_cases hlt : q < n1
    · skip
      obtain ⟨r, hr⟩ : ∃ r, v0[q]? = some r := ⟨v0[q]'(by rw [L1.out]; exact hlt), List.getElem?_eq_getElem _⟩
      obtain ⟨g, off, Aj, nj, cj, rfl, _, hg, p0, p1, hs⟩ := (SW.out.upd hu (.inr (Nat.le_refl _))).lie q r hr
      have hwr := HV0.out q r hr
      simp only [wrOk, Bool.and_eq_true] at hwr
      obtain ⟨ha0, ha1⟩ := btw_iff.1 hwr.1
      obtain ⟨a, ha⟩ : ∃ a : Nat, r.at_ = (a : Int) := ⟨r.at_.toNat, by omega⟩
      rw [ha] at p0 ha0 ha1
      have han : a < n0 := by omega
      obtain ⟨r1, hr1⟩ : ∃ r1, (syncM k0 (v0.take q))[a]? = some r1 := ⟨(syncM k0 (v0.take q))[a]'(by rw [S.out.len]; exact han), List.getElem?_eq_getElem _⟩
      obtain ⟨gk, offk, Bj, bj, dj, rfl, hgk0, hgk, pk, hsk⟩ := S.out.lie a r1 hr1
      obtain ⟨hk1, hk2, hk3⟩ := K.out gk offk rfl
      have hzr := hu.size
      have HX := Lib.hid hr
      have HA : Hid (r.at_.toNat = a) := Lib.hid (by omega)
      have HS := Lib.hid hs
      have HU := Lib.hid hu
      have HBX := Lib.hid hbx
      have hwr2 : w2.heap.size < wr.heap.size := by omega
      have hgw : g < wr.heap.size := by omega
      have hkw : gk < wr.heap.size := by omega
      obtain ⟨x0, x1, xf0, xf1⟩ := hbx.below (B := wr.heap.size) (w' := wr.alloc (.cells #[.int .i64 (a : Int), .slice Aj nj cj] 135)) ((Below.refl _ _).alloc (Nat.le_refl _) _) hwr2
      obtain ⟨b0, b1, -, -⟩ := Box2.new wr (.int .i64 (a : Int)) (.slice Aj nj cj) 135
      have e0 : (wr.alloc (.cells #[.int .i64 (a : Int), .slice Aj nj cj] 135)).cell? ⟨gk, offk + a, none⟩ = some (.slice Bj bj dj) := (World.cell?_alloc_lt _ _ _ hkw).trans pk
      have e1 : (wr.alloc (.cells #[.int .i64 (a : Int), .slice Aj nj cj] 135)).frozen? ⟨gk, offk + a, none⟩ = false := (((Below.refl wr.heap.size wr).alloc (Nat.le_refl _) _).frozen (p := ⟨gk, offk + a, none⟩) hkw).trans (hk3 _)
      have hba : Below wr.heap.size (wr.setCell ⟨gk, offk + a, none⟩ (.slice Aj nj cj)) ((wr.setCell ⟨gk, offk + a, none⟩ (.slice Aj nj cj)).alloc (.cells #[.int .i64 (a : Int), .slice Aj nj cj] 135)) := (Below.refl _ _).alloc (by rw [World.heap_size_setCell]; exact Nat.le_refl _) _
      have s9 := (S.out.put (j := a) han (HS.out.mono (by omega) (Nat.le_refl _))).below hba (by omega)
      have S9 := Lib.hid s9
      have K9 := Lib.hid ((K.out.setCell ⟨gk, offk + a, none⟩ (.slice Aj nj cj)).below hba (by omega))
      have U9 := Lib.hid ((HU.out.setCell (p := ⟨gk, offk + a, none⟩) hk1 hk2 (.slice Aj nj cj)).alloc (.cells #[.int .i64 (a : Int), .slice Aj nj cj] 135))
      have BX9 := Lib.hid ((hbx.upd (Box2.upd1 (b := gk) (q := offk + a) (v := .slice Aj nj cj)) (.inr (by omega))).below hba hwr2)
      clear hr hr1 hs hu hbx s9 hba hwr S K pk hsk hk3
      go_wp2_with fail
      go_roundw
      case rel => exact ⟨q + 1, hlt, by go_num, BX9.out, Lib.hid (by rw [syncM_take HX.out, HA.out]; exact S9.out), K9, U9.out⟩
      case measure => simp [intOf]; omega
    · have hqn : q = n1 := by omega
      rw [hqn, ← L1.out, List.take_length] at S
      clear hqn
      have hw : Below w.heap.size w wr := hb9.trans ((P2.out.mono (by omega)).trans (hu.below (by omega) (by omega)))
      have HW := Lib.hid hw
      obtain ⟨x0, x1, xf0, xf1⟩ := hbx
      have hbx1 : Box2 (wr.setCell ⟨w2.heap.size, 1, none⟩ (.slice none 0 0)) w2.heap.size (.slice X0 n0 d0) (.slice none 0 0) := Box2.set1 ⟨x0, x1, xf0, xf1⟩ _
      obtain ⟨t0, t1, tf0, tf1⟩ := (((T1.out _ P2.out).2.upd hu (.inl (by omega))).upd (Box2.upd1 (b := w2.heap.size) (q := 1) (v := .slice none 0 0)) (.inl (by omega)))
      have R9 := Lib.hid ((S.out).upd (Box2.upd1 (b := w2.heap.size) (q := 1) (v := .slice none 0 0)) (.inl (Nat.le_refl _)))
      have W9 := Lib.hid (HW.out.setCell (p := ⟨w2.heap.size, 1, none⟩) (by simp only; omega) (.slice none 0 0))
      obtain ⟨n0', n1', nf0, nf1⟩ := hbx1
      have hz9 : (wr.setCell ⟨w2.heap.size, 1, none⟩ (.slice none 0 0)).heap.size = wr.heap.size := World.heap_size_setCell _ _ _
      have hu9 := hu.size
      clear hw S K hu
      go_wp2_with fail
      generalize wr.setCell ⟨w2.heap.size, 1, none⟩ (.slice none 0 0) = W at *
      refine bodyPost_ret (v := .agg #[.slice X0 n0 d0, .slice none 0 0]) (by simp [results, Try.results55, go_sem, t0, t1, tf0, tf1]) rfl ⟨X0, d0, none, 0, rfl, ?_, SlW.nil _ _ _ _ _ (by omega), ?_⟩
      · have u9 : Upd (w.heap.size + 1) (w.heap.size + 2) W ((W.setCell ⟨w.heap.size + 1, 0, none⟩ (.slice X0 n0 d0)).setCell ⟨w.heap.size + 1, 1, none⟩ (.slice none 0 0)) := ((Upd.refl _ _ _).setCell (p := ⟨w.heap.size + 1, 0, none⟩) (Nat.le_refl _) (by simp) _).setCell (p := ⟨w.heap.size + 1, 1, none⟩) (Nat.le_refl _) (by simp) _
        refine (id (R9.out.upd u9 (.inr (by omega)))).mono (by omega) (by simp only [World.heap_size_setCell]; omega)
      · exact (W9.out.setCell (p := ⟨w.heap.size + 1, 0, none⟩) (by simp only; omega) _).setCell (p := ⟨w.heap.size + 1, 1, none⟩) (by simp only; omega) _
end Go.Proofs.Ytgnilmdaegnaaaa
