/- Disks: what rots, what is read. No conditions. -/
import Derived.Test.YtgnilmdaegnaaaaZDk10
set_option linter.unusedSimpArgs false
set_option linter.unusedVariables false
namespace Go.Proofs.Ytgnilmdaegnaaaa
open Go.RowKit
/-- A fresh row and a truth. -/
def RowBRes (w : World) (zs : List Int) (b : Bool) (e : Ending) (w' : World) : Prop :=
  ∃ A c, e = .returned (.tuple #[.slice A zs.length c, .bool b]) ∧ Sl w' w.heap.size w'.heap.size 1 A zs.length c zs ∧ Below w.heap.size w w'
def unsOk (zs : List Int) : Bool := decide (0 < zs.length) && decide (sumM (zs.take (zs.length - 1)) = zs.getD (zs.length - 1) 0)
def unsM (zs : List Int) : List Int := if unsOk zs then zs.take (zs.length - 1) else []
set_option maxRecDepth 100000 in
set_option maxHeartbeats 2000000 in
theorem unsummed_any (A : Option Addr) (n c lo hi : Nat) (zs : List Int) (w : World) (h : Sl w lo hi 1 A n c zs) (hhi : hi ≤ w.heap.size) (hz : rowOk zs = true) :
    Calls Try.prog 58 #[.slice A n c] w (RowBRes w (unsM zs) (unsOk zs)) := by
  have hl : zs.length = n := by have := h.len; omega
  have hn48 : n ≤ 48 := by have := rowOk_len hz; omega
  have CK : Hid (Calls Try.prog 111 #[.slice A n c] w fun e w' => e = .returned (.bool true) ∧ w = w') := Lib.hid (by
    have h7 := rowOk_any A n c lo hi zs w h
    rw [hz] at h7
    exact h7)
  by_cases hn0 : n = 0
  · subst hn0
    have e1 : unsOk zs = false := by simp [unsOk, hl]
    have e2 : unsM zs = [] := by simp [unsM, e1]
    rw [e1, e2]
    clear e1 e2 h hl hz
    go_enter Try.func58, Try.ntmps58
    go_wp2_with fail
    go_ret2
    exact ⟨none, 0, rfl, Sl.nil _ _ _ _ _ _ (by omega), Below.refl _ _⟩
  · have hn1 : ((n : Int) == 0) = false := by simp; omega
    have hcap := h.cap
    have hw : IntKind.i64.wrap ((n : Int) - 1) = (n : Int) - 1 := IntWalk.i64_in _ (by omega)
    have hfr : ∀ W, (Instr.sliceAt 28 (.slice A n c) none (some (.int .i64 ((n : Int) - 1))) none).run Try.prog W = .ok (.slice A (n - 1) c) W := fun W => by
      rw [show (n : Int) - 1 = ((n - 1 : Nat) : Int) by omega]
      exact run_frontI A n c (n - 1) (by omega) W
    have HCS : Hid (∀ W, Below w.heap.size w W → Calls Try.prog 113 #[.slice A (n - 1) c] W fun e w' => e = .returned (.int .i64 (sumM (zs.take (n - 1)))) ∧ Below W.heap.size W w') := Lib.hid (fun W hW => (checksum_any A (n - 1) c lo hi (zs.take (n - 1)) W ((h.frontI (j := n - 1) (by omega)).below hW hhi) (fun j x hx => by
      rw [List.getElem?_take] at hx
      split at hx
      · exact rowOk_get hz hx
      · cases hx)).mono fun e w' h8 => ⟨h8.1, by rw [← h8.2]; exact Below.refl _ _⟩)
    obtain ⟨m, rfl⟩ : ∃ m, n = m + 1 := ⟨n - 1, by omega⟩
    obtain ⟨g, off, x, rfl, _, hgw, hx, p0⟩ := h.int (show m < m + 1 by omega)
    have hc1 : (((m + 1 : Nat) : Int) - 1) = (m : Int) := by omega
    have e3 : zs.getD (zs.length - 1) 0 = x := by rw [hl]; simp [List.getD, hx]
    have H := Lib.hid (h.frontI (j := m) (by omega))
    have HL := Lib.hid hl
    have hc2 : IntKind.i64.wrap (((m + 1 : Nat) : Int) - 1) = (m : Int) := by rw [hc1]; exact IntWalk.i64_in _ (by omega)
    rw [hc1] at hfr
    simp only [Nat.add_sub_cancel] at hfr HCS
    have f0 := fun d os => cell_regrown p0 d os
    clear hw h hx
    by_cases hsum : sumM (zs.take m) = x
    · have e1 : unsOk zs = true := by
        unfold unsOk
        rw [e3, HL.out]
        simp [hsum]
      have e2 : unsM zs = zs.take m := by
        unfold unsM
        rw [e1, HL.out]
        rfl
      rw [e1, e2]
      clear e1 e2 e3 hz hl
      have HSM := Lib.hid hsum
      have hb : (x != x) = false := by simp
      generalize hgs : sumM (zs.take m) = s at *
      subst hsum
      clear hgs
      go_enter Try.func58, Try.ntmps58
      go_wp2_with fail
      (with_reducible refine (CK.out).mono ?_); rintro _ _ ⟨rfl, rfl⟩
      go_wp2_with fail
      refine wp_region_quiet_below (by kernel_rfl) (by kernel_rfl) ?_; (repeat (first | go_big_quiet_step ((go_at_call 113; with_reducible exact Calls.regrown_of (HCS.out _ (below_regrown _ _ _)))) | quiet_step ((go_at_call 113; with_reducible exact Calls.regrown_of (HCS.out _ (below_regrown _ _ _)))))); refine wpQuiet_nil ?_; intro _ hw'; obtain ⟨⟨nq, osq⟩, hw''⟩ := hw'; subst hw''; have hq := below_regrown w nq osq; generalize Sort.grow (redrawn w nq) osq = w1 at *
      have HB1 := Lib.hid hq
      have y1 := hq.size
      clear hq
      go_wp2_with fail
      (with_reducible refine (copyRow_any _ m _ _ _ (zs.take m) _ (H.out.below HB1.out hhi) (by omega)).mono ?_); rintro _ w2 ⟨A2, c2, rfl, s2, b2⟩
      have S2 := Lib.hid s2
      have B2 := Lib.hid (HB1.out.trans (b2.mono HB1.out.size))
      clear s2 b2
      go_wp2_with fail
      go_ret2
      have hlm : (zs.take m).length = m := by rw [List.length_take, HL.out]; omega
      unfold RowBRes
      rw [hlm]
      exact ⟨A2, c2, rfl, S2.out.mono y1 (Nat.le_refl _), B2.out⟩
    · have e1 : unsOk zs = false := by
        unfold unsOk
        rw [e3, HL.out]
        simp [hsum]
      have e2 : unsM zs = [] := by simp [unsM, e1]
      rw [e1, e2]
      clear e1 e2 e3 hz hl
      generalize hgs : sumM (zs.take m) = s at *
      have hb : (s != x) = true := by simp [hsum]
      clear hgs
      go_enter Try.func58, Try.ntmps58
      go_wp2_with fail
      (with_reducible refine (CK.out).mono ?_); rintro _ _ ⟨rfl, rfl⟩
      go_wp2_with fail
      refine wp_region_quiet_below (by kernel_rfl) (by kernel_rfl) ?_; (repeat (first | go_big_quiet_step ((go_at_call 113; with_reducible exact Calls.regrown_of (HCS.out _ (below_regrown _ _ _)))) | quiet_step ((go_at_call 113; with_reducible exact Calls.regrown_of (HCS.out _ (below_regrown _ _ _)))))); refine wpQuiet_nil ?_; intro _ hw'; obtain ⟨⟨nq, osq⟩, hw''⟩ := hw'; subst hw''; have hq := below_regrown w nq osq; generalize Sort.grow (redrawn w nq) osq = w1 at *
      have HB1 := Lib.hid hq
      clear hq
      go_wp2_with fail
      go_ret2
      exact ⟨none, 0, rfl, Sl.nil _ _ _ _ _ _ (by omega), HB1.out⟩
set_option maxRecDepth 100000 in
set_option maxHeartbeats 2000000 in
theorem readAt_any (A0 : Option Addr) (n0 c0 : Nat) (k0 : List (List Int)) (A1 : Option Addr) (c1 lo hi : Nat) (w : World) (h0 : SlR w lo hi A0 n0 c0 k0) (hc1 : c1 ≤ 9223372036854775807) (hhi : hi ≤ w.heap.size) (hd : diskOk k0 [] = true) (q : Nat) (row : List Int) (hr : k0[q]? = some row) :
    Calls Try.prog 57 #[.agg #[.slice A0 n0 c0, .slice A1 0 c1], .int .i64 (q : Int)] w (RowBRes w row true) := by
  obtain ⟨z3, z4, z5, hk0, -⟩ := diskOk_sizes hd
  have hl0 := h0.len
  rw [hl0] at z3 z4
  have hq : q < n0 := by rw [← hl0]; exact (List.getElem?_eq_some_iff.1 hr).1
  have C1 : Hid (∀ W, Below w.heap.size w W → Calls Try.prog 108 #[.agg #[.slice A0 n0 c0, .slice A1 0 c1]] W fun e w' => e = .returned (.bool true) ∧ Below W.heap.size W w') := Lib.hid (fun W hW => by
    have h7 := diskOk_any A0 n0 c0 k0 A1 0 c1 [] lo hi W (h0.below hW hhi) (SlW.nil _ _ _ _ _ hc1) (Nat.le_trans hhi hW.size)
    rw [hd] at h7
    exact h7)
  have C3 : Hid (∀ W, Calls Try.prog 110 #[.agg #[.slice A0 n0 c0, .slice A1 0 c1], .int .i64 (q : Int)] W fun e w' => e = .returned (.bool true) ∧ Below W.heap.size W w') := Lib.hid (fun W => by
    have h7 := sectorOk_any A0 n0 c0 A1 0 c1 (q : Int) W (by omega)
    rw [show btw (q : Int) 0 ((n0 : Int) - 1) = true from btw_iff.2 ⟨by omega, by omega⟩] at h7
    exact h7)
  have hb9 : Below w.heap.size w (w.alloc (.cells #[.slice A0 n0 c0, .slice A1 0 c1] 67)) := by (repeat' (first | with_reducible exact Below.refl _ _ | with_reducible assumption | with_reducible refine Below.drew ?_ | with_reducible refine Below.alloc ?_ ?_ _ | with_reducible refine Below.setCell ?_ ?_ _ | with_reducible refine Below.trans ?_ (Below.mono (by assumption) ?_) | ((try simp only [World.heap_size_alloc, World.heap_size_drew, World.heap_size_setCell]); omega)))
  have T1 := Lib.hid (Box2.new w (.slice A0 n0 c0) (.slice A1 0 c1) 67)
  have hrl := rowOk_len (hk0 q row hr)
  obtain ⟨g, off, Aj, nj, cj, rfl, _, hg, p0, hs⟩ := h0.lie q row hr
  have hnj : nj = row.length := by have := hs.len; omega
  subst hnj
  have HS := Lib.hid hs
  have HP := Lib.hid p0
  clear h0 hd hk0 hr hs p0
  go_enter Try.func57, Try.ntmps57
  go_wp2_with fail
  generalize hW0 : w.alloc (.cells #[.slice (some ⟨g, off, none⟩) n0 c0, .slice A1 0 c1] 67) = W0 at *
  have hz0 : W0.heap.size = w.heap.size + 1 := by rw [← hW0]; exact World.heap_size_alloc _ _
  clear hW0
  (with_reducible refine (C1.out _ hb9).mono ?_); rintro _ w1 ⟨rfl, b1⟩
  have y1 := b1.size
  have B1 := Lib.hid b1
  obtain ⟨q0, q1, -, -⟩ := T1.out.below b1 (by omega)
  clear b1
  go_wp2_with fail
  (with_reducible refine (C3.out _).mono ?_); rintro _ w2 ⟨rfl, b2⟩
  have y2 := b2.size
  have b12 := B1.out.trans (b2.mono y1)
  have B2 := Lib.hid b12
  clear q0 q1
  obtain ⟨q0, q1, -, -⟩ := T1.out.below b12 (by omega)
  have hw2 := hb9.trans (b12.mono (by omega))
  have r0 := (hw2.cell (p := ⟨g, off + q, none⟩) (show g < w.heap.size by omega)).trans HP.out
  have HS2 := Lib.hid (HS.out.below hw2 hhi)
  have HW2 := Lib.hid hw2
  clear b2 b12 hw2
  go_wp2_with fail
  go_loopw [6] (fun i wr => i = .int .i64 (-1) ∧ wr = w2) (fun _ _ => 0)
  case atStart => exact ⟨rfl, rfl⟩
  case round =>
    obtain ⟨rfl, rfl⟩ := hrel
    go_wp2_with fail
    (with_reducible refine (copyRow_any _ _ _ _ _ row _ HS2.out (by omega)).mono ?_); rintro _ w3 ⟨A3, c3, rfl, s3, b3⟩
    have S3 := Lib.hid s3
    have B3 := Lib.hid b3
    clear s3 b3
    go_wp2_with fail
    go_ret2
    exact ⟨A3, c3, rfl, S3.out.mono (by omega) (Nat.le_refl _), HW2.out.trans (B3.out.mono (by omega))⟩
theorem Sl.uniq_len {w : World} {lo hi : Nat} {A : Option Addr} {n c : Nat} {zs : List Int} (h : Sl w lo hi 1 A n c zs) : zs.length = n := by
  have := h.len
  omega
theorem SlR.one {w : World} {lo hi g off c n d : Nat} {B : Option Addr} {row : List Int} (h1 : lo ≤ g) (h2 : g < hi) (hc : 1 ≤ c) (hb : c ≤ 9223372036854775807) (p : w.cell? ⟨g, off, none⟩ = some (.slice B n d)) (hs : Sl w lo hi 1 B n d row) : SlR w lo hi (some ⟨g, off, none⟩) 1 c [row] :=
  ⟨rfl, hc, hb, fun j r hr => by
    have hj := (List.getElem?_eq_some_iff.1 hr).1
    obtain rfl : j = 0 := by simpa using hj
    injection hr with hr
    subst hr
    exact ⟨g, off, B, n, d, rfl, h1, h2, p, hs⟩⟩
end Go.Proofs.Ytgnilmdaegnaaaa
