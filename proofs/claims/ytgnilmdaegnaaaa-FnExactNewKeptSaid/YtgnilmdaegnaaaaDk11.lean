/- Disks: what rots, what is read. No conditions. -/
import Derived.Test.YtgnilmdaegnaaaaDk10
set_option linter.unusedSimpArgs false
set_option linter.unusedVariables false
namespace Go.Proofs.Ytgnilmdaegnaaaa
open Go.RowKit

/-- A fresh row and a truth. -/
def RowBRes (w : World) (zs : List Int) (b : Bool) (e : Ending) (w' : World) : Prop :=
  ∃ A c, e = .returned (.tuple #[.slice A zs.length c, .bool b]) ∧ Sl w' w.heap.size w'.heap.size 1 A zs.length c zs ∧ Below w.heap.size w w'
def unsOk (zs : List Int) : Bool := decide (0 < zs.length) && decide (sumM (zs.take (zs.length - 1)) = zs.getD (zs.length - 1) 0)
def unsM (zs : List Int) : List Int := if unsOk zs then zs.take (zs.length - 1) else []
set_option maxRecDepth 100000 in
set_option maxHeartbeats 2000000 in
theorem unsummed_any (A : Option Addr) (n c lo hi : Nat) (zs : List Int) (w : World) (h : Sl w lo hi 1 A n c zs) (hhi : hi ≤ w.heap.size) (hz : rowOk zs = true) :
    Calls Try.prog 58 #[.slice A n c] w (RowBRes w (unsM zs) (unsOk zs)) := by
  have hl : zs.length = n := by have := h.len; omega
  have hn48 : n ≤ 48 := by have := rowOk_len hz; omega
  have CK : Hid (Calls Try.prog 111 #[.slice A n c] w fun e w' => e = .returned (.bool true) ∧ w = w') := Lib.hid (by
    have h7 := rowOk_any A n c lo hi zs w h
    rw [hz] at h7
    exact h7)
  by_cases hn0 : n = 0
  · subst hn0
    have e1 : unsOk zs = false := by simp [unsOk, hl]
    have e2 : unsM zs = [] := by simp [unsM, e1]
    rw [e1, e2]
    clear e1 e2 h hl hz
    go_enter Try.func58, Try.ntmps58
    go_wp2_with fail
    go_ret2
    exact ⟨none, 0, rfl, Sl.nil _ _ _ _ _ _ (by omega), Below.refl _ _⟩
  · have hn1 : ((n : Int) == 0) = false := by simp; omega
    have hcap := h.cap
    have hw : IntKind.i64.wrap ((n : Int) - 1) = (n : Int) - 1 := IntWalk.i64_in _ (by omega)
    have hfr : ∀ W, (Instr.sliceAt 28 (.slice A n c) none (some (.int .i64 ((n : Int) - 1))) none).run Try.prog W = .ok (.slice A (n - 1) c) W := fun W => by
      rw [show (n : Int) - 1 = ((n - 1 : Nat) : Int) by omega]
      exact run_frontI A n c (n - 1) (by omega) W
    have HCS : Hid (∀ W, Below w.heap.size w W → Calls Try.prog 113 #[.slice A (n - 1) c] W fun e w' => e = .returned (.int .i64 (sumM (zs.take (n - 1)))) ∧ Below W.heap.size W w') := Lib.hid (fun W hW => (checksum_any A (n - 1) c lo hi (zs.take (n - 1)) W ((h.frontI (j := n - 1) (by omega)).below hW hhi) (fun j x hx => by
      rw [List.getElem?_take] at hx
      split at hx
      · exact rowOk_get hz hx
      · cases hx)).mono fun e w' h8 => ⟨h8.1, by rw [← h8.2]; exact Below.refl _ _⟩)
    obtain ⟨m, rfl⟩ : ∃ m, n = m + 1 := ⟨n - 1, by omega⟩
    obtain ⟨g, off, x, rfl, _, hgw, hx, p0⟩ := h.int (show m < m + 1 by omega)
    have hc1 : (((m + 1 : Nat) : Int) - 1) = (m : Int) := by omega
    have e3 : zs.getD (zs.length - 1) 0 = x := by rw [hl]; simp [List.getD, hx]
    have H := Lib.hid (h.frontI (j := m) (by omega))
    have HL := Lib.hid hl
    have hc2 : IntKind.i64.wrap (((m + 1 : Nat) : Int) - 1) = (m : Int) := by rw [hc1]; exact IntWalk.i64_in _ (by omega)
    rw [hc1] at hfr
    simp only [Nat.add_sub_cancel] at hfr HCS
    have f0 := fun d os => cell_regrown p0 d os
    clear hw h hx
    by_cases hsum : sumM (zs.take m) = x
    · have e1 : unsOk zs = true := by
        unfold unsOk
        rw [e3, HL.out]
        simp [hsum]
      have e2 : unsM zs = zs.take m := by
        unfold unsM
        rw [e1, HL.out]
        rfl
      rw [e1, e2]
      clear e1 e2 e3 hz hl
      have HSM := Lib.hid hsum
      have hb : (x != x) = false := by simp
      generalize hgs : sumM (zs.take m) = s at *
      subst hsum
      clear hgs
      go_enter Try.func58, Try.ntmps58
      go_wp2_with fail
      (with_reducible refine (CK.out).mono ?_); rintro _ _ ⟨rfl, rfl⟩
      go_wp2_with fail
      refine wp_region_quiet_below (by kernel_rfl) (by kernel_rfl) ?_; (repeat (first | go_big_quiet_step ((go_at_call 113; with_reducible exact Calls.regrown_of (HCS.out _ (below_regrown _ _ _)))) | quiet_step ((go_at_call 113; with_reducible exact Calls.regrown_of (HCS.out _ (below_regrown _ _ _)))))); refine wpQuiet_nil ?_; intro _ hw'; obtain ⟨⟨nq, osq⟩, hw''⟩ := hw'; subst hw''; have hq := below_regrown w nq osq; generalize Sort.grow (redrawn w nq) osq = w1 at *
      have HB1 := Lib.hid hq
      have y1 := hq.size
      clear hq
      go_wp2_with fail
      (with_reducible refine (copyRow_any _ m _ _ _ (zs.take m) _ (H.out.below HB1.out hhi) (by omega)).mono ?_); rintro _ w2 ⟨A2, c2, rfl, s2, b2⟩
      have S2 := Lib.hid s2
      have B2 := Lib.hid (HB1.out.trans (b2.mono HB1.out.size))
      clear s2 b2
      go_wp2_with fail
      go_ret2
      have hlm : (zs.take m).length = m := by rw [List.length_take, HL.out]; omega
      unfold RowBRes
      rw [hlm]
      exact ⟨A2, c2, rfl, S2.out.mono y1 (Nat.le_refl _), B2.out⟩
    · have e1 : unsOk zs = false := by
        unfold unsOk
        rw [e3, HL.out]
        simp [hsum]
      have e2 : unsM zs = [] := by simp [unsM, e1]
      rw [e1, e2]
      clear e1 e2 e3 hz hl
      generalize hgs : sumM (zs.take m) = s at *
      have hb : (s != x) = true := by simp [hsum]
      clear hgs
      go_enter Try.func58, Try.ntmps58
      go_wp2_with fail
      (with_reducible refine (CK.out).mono ?_); rintro _ _ ⟨rfl, rfl⟩
      go_wp2_with fail
      refine wp_region_quiet_below (by kernel_rfl) (by kernel_rfl) ?_; (repeat (first | go_big_quiet_step ((go_at_call 113; with_reducible exact Calls.regrown_of (HCS.out _ (below_regrown _ _ _)))) | quiet_step ((go_at_call 113; with_reducible exact Calls.regrown_of (HCS.out _ (below_regrown _ _ _)))))); refine wpQuiet_nil ?_; intro _ hw'; obtain ⟨⟨nq, osq⟩, hw''⟩ := hw'; subst hw''; have hq := below_regrown w nq osq; generalize Sort.grow (redrawn w nq) osq = w1 at *
      have HB1 := Lib.hid hq
      clear hq
      go_wp2_with fail
      go_ret2
      exact ⟨none, 0, rfl, Sl.nil _ _ _ _ _ _ (by omega), HB1.out⟩
set_option maxRecDepth 100000 in
set_option maxHeartbeats 2000000 in
theorem readAt_any (A0 : Option Addr) (n0 c0 : Nat) (k0 : List (List Int)) (A1 : Option Addr) (c1 lo hi : Nat) (w : World) (h0 : SlR w lo hi A0 n0 c0 k0) (hc1 : c1 ≤ 9223372036854775807) (hhi : hi ≤ w.heap.size) (hd : diskOk k0 [] = true) (q : Nat) (row : List Int) (hr : k0[q]? = some row) :
    Calls Try.prog 57 #[.agg #[.slice A0 n0 c0, .slice A1 0 c1], .int .i64 (q : Int)] w (RowBRes w row true) := by
  obtain ⟨z3, z4, z5, hk0, -⟩ := diskOk_sizes hd
  have hl0 := h0.len
  rw [hl0] at z3 z4
  have hq : q < n0 := by rw [← hl0]; exact (List.getElem?_eq_some_iff.1 hr).1
  have C1 : Hid (∀ W, Below w.heap.size w W → Calls Try.prog 108 #[.agg #[.slice A0 n0 c0, .slice A1 0 c1]] W fun e w' => e = .returned (.bool true) ∧ Below W.heap.size W w') := Lib.hid (fun W hW => by
    have h7 := diskOk_any A0 n0 c0 k0 A1 0 c1 [] lo hi W (h0.below hW hhi) (SlW.nil _ _ _ _ _ hc1) (Nat.le_trans hhi hW.size)
    rw [hd] at h7
    exact h7)
  have C3 : Hid (∀ W, Calls Try.prog 110 #[.agg #[.slice A0 n0 c0, .slice A1 0 c1], .int .i64 (q : Int)] W fun e w' => e = .returned (.bool true) ∧ Below W.heap.size W w') := Lib.hid (fun W => by
    have h7 := sectorOk_any A0 n0 c0 A1 0 c1 (q : Int) W (by omega)
    rw [show btw (q : Int) 0 ((n0 : Int) - 1) = true from btw_iff.2 ⟨by omega, by omega⟩] at h7
    exact h7)
  have hb9 : Below w.heap.size w (w.alloc (.cells #[.slice A0 n0 c0, .slice A1 0 c1] 67)) := by (repeat' (first | with_reducible exact Below.refl _ _ | with_reducible assumption | with_reducible refine Below.drew ?_ | with_reducible refine Below.alloc ?_ ?_ _ | with_reducible refine Below.setCell ?_ ?_ _ | with_reducible refine Below.trans ?_ (Below.mono (by assumption) ?_) | ((try simp only [World.heap_size_alloc, World.heap_size_drew, World.heap_size_setCell]); omega)))
  have T1 := Lib.hid (Box2.new w (.slice A0 n0 c0) (.slice A1 0 c1) 67)
  have hrl := rowOk_len (hk0 q row hr)
  obtain ⟨g, off, Aj, nj, cj, rfl, _, hg, p0, hs⟩ := h0.lie q row hr
  have hnj : nj = row.length := by have := hs.len; omega
  subst hnj
  have HS := Lib.hid hs
  have HP := Lib.hid p0
  clear h0 hd hk0 hr hs p0
  go_enter Try.func57, Try.ntmps57
  go_wp2_with fail
  generalize hW0 : w.alloc (.cells #[.slice (some ⟨g, off, none⟩) n0 c0, .slice A1 0 c1] 67) = W0 at *
  have hz0 : W0.heap.size = w.heap.size + 1 := by rw [← hW0]; exact World.heap_size_alloc _ _
  clear hW0
  (with_reducible refine (C1.out _ hb9).mono ?_); rintro _ w1 ⟨rfl, b1⟩
  have y1 := b1.size
  have B1 := Lib.hid b1
  obtain ⟨q0, q1, -, -⟩ := T1.out.below b1 (by omega)
  clear b1
  go_wp2_with fail
  (with_reducible refine (C3.out _).mono ?_); rintro _ w2 ⟨rfl, b2⟩
  have y2 := b2.size
  have b12 := B1.out.trans (b2.mono y1)
  have B2 := Lib.hid b12
  clear q0 q1
  obtain ⟨q0, q1, -, -⟩ := T1.out.below b12 (by omega)
  have hw2 := hb9.trans (b12.mono (by omega))
  have r0 := (hw2.cell (p := ⟨g, off + q, none⟩) (show g < w.heap.size by omega)).trans HP.out
  have HS2 := Lib.hid (HS.out.below hw2 hhi)
  have HW2 := Lib.hid hw2
  clear b2 b12 hw2
  go_wp2_with fail
  go_loopw [6] (fun i wr => i = .int .i64 (-1) ∧ wr = w2) (fun _ _ => 0)
  case atStart => exact ⟨rfl, rfl⟩
  case round =>
    obtain ⟨rfl, rfl⟩ := hrel
    go_wp2_with fail
    (with_reducible refine (copyRow_any _ _ _ _ _ row _ HS2.out (by omega)).mono ?_); rintro _ w3 ⟨A3, c3, rfl, s3, b3⟩
    have S3 := Lib.hid s3
    have B3 := Lib.hid b3
    clear s3 b3
    go_wp2_with fail
    go_ret2
    exact ⟨A3, c3, rfl, S3.out.mono (by omega) (Nat.le_refl _), HW2.out.trans (B3.out.mono (by omega))⟩
theorem Sl.uniq_len {w : World} {lo hi : Nat} {A : Option Addr} {n c : Nat} {zs : List Int} (h : Sl w lo hi 1 A n c zs) : zs.length = n := by
  have := h.len
  omega
theorem SlR.one {w : World} {lo hi g off c n d : Nat} {B : Option Addr} {row : List Int} (h1 : lo ≤ g) (h2 : g < hi) (hc : 1 ≤ c) (hb : c ≤ 9223372036854775807) (p : w.cell? ⟨g, off, none⟩ = some (.slice B n d)) (hs : Sl w lo hi 1 B n d row) : SlR w lo hi (some ⟨g, off, none⟩) 1 c [row] :=
  ⟨rfl, hc, hb, fun j r hr => by
    have hj := (List.getElem?_eq_some_iff.1 hr).1
    obtain rfl : j = 0 := by simpa using hj
    injection hr with hr
    subst hr
    exact ⟨g, off, B, n, d, rfl, h1, h2, p, hs⟩⟩
def rotOk (row : List Int) (i x : Int) : Bool := btw i 0 ((row.length : Int) - 1) && btw x 0 1000000000
def rotM (row : List Int) (i x : Int) : List Int := if rotOk row i x then row.set i.toNat x else row
set_option maxRecDepth 100000 in
set_option maxHeartbeats 8000000 in
theorem rotted_any (A0 : Option Addr) (c0 : Nat) (row : List Int) (A1 : Option Addr) (c1 lo hi : Nat) (w : World) (h0 : SlR w lo hi A0 1 c0 [row]) (hc1 : c1 ≤ 9223372036854775807) (hhi : hi ≤ w.heap.size) (hd : diskOk [row] [] = true) (i x : Int) :
    Calls Try.prog 54 #[.agg #[.slice A0 1 c0, .slice A1 0 c1], .int .i64 0, .int .i64 i, .int .i64 x] w (DkBRes w 1 [rotM row i x] 0 [] (rotOk row i x)) := by
  obtain ⟨z3, z4, z5, hk0, -⟩ := diskOk_sizes hd
  have hrl := rowOk_len (hk0 0 row rfl)
  have C1 : Hid (∀ W, Below w.heap.size w W → Calls Try.prog 108 #[.agg #[.slice A0 1 c0, .slice A1 0 c1]] W fun e w' => e = .returned (.bool true) ∧ Below W.heap.size W w') := Lib.hid (fun W hW => by
    have h7 := diskOk_any A0 1 c0 [row] A1 0 c1 [] lo hi W (h0.below hW hhi) (SlW.nil _ _ _ _ _ hc1) (Nat.le_trans hhi hW.size)
    rw [hd] at h7
    exact h7)
  have C2 : Hid (∀ W, Below w.heap.size w W → Calls Try.prog 109 #[.agg #[.slice A0 1 c0, .slice A1 0 c1]] W (DkRes3 W 135 1 [row] 0 [])) := Lib.hid (fun W hW => copyDisk_any A0 1 c0 [row] A1 0 c1 [] lo hi W (h0.below hW hhi) (SlW.nil _ _ _ _ _ hc1) (Nat.le_trans hhi hW.size) (by omega) (by omega) (fun j r h => by have := rowOk_len (hk0 j r h); omega) (fun j r h => by simp at h))
  have C3 : Hid (∀ W, Calls Try.prog 110 #[.agg #[.slice A0 1 c0, .slice A1 0 c1], .int .i64 0] W fun e w' => e = .returned (.bool true) ∧ Below W.heap.size W w') := Lib.hid (fun W => by
    have h7 := sectorOk_any A0 1 c0 A1 0 c1 0 W (by omega)
    exact h7)
  have T1 : Hid (∀ W, Below (w.heap.size + 2) ((w.alloc (.cells #[.slice A0 1 c0, .slice A1 0 c1] 67)).alloc (.cells #[.slice none 0 0, .slice none 0 0] 67)) W → (Box2 W w.heap.size (.slice A0 1 c0) (.slice A1 0 c1) ∧ Box2 W (w.heap.size + 1) (.slice none 0 0) (.slice none 0 0))) := Lib.hid (fun W hW => ⟨((Box2.new w (.slice A0 1 c0) (.slice A1 0 c1) 67).below (B := w.heap.size + 1) ((Below.refl _ _).alloc (by simp) (.cells #[.slice none 0 0, .slice none 0 0] 67)) (by omega)).below hW (by omega), by
    have h9 := Box2.new (w.alloc (.cells #[.slice A0 1 c0, .slice A1 0 c1] 67)) (.slice none 0 0) (.slice none 0 0) 67
    rw [World.heap_size_alloc] at h9
    exact h9.below hW (by omega)⟩)
  have hs9 : ((w.alloc (.cells #[.slice A0 1 c0, .slice A1 0 c1] 67)).alloc (.cells #[.slice none 0 0, .slice none 0 0] 67)).heap.size = w.heap.size + 2 := by simp only [World.heap_size_alloc]
  have hb9 : Below w.heap.size w ((w.alloc (.cells #[.slice A0 1 c0, .slice A1 0 c1] 67)).alloc (.cells #[.slice none 0 0, .slice none 0 0] 67)) := by (repeat' (first | with_reducible exact Below.refl _ _ | with_reducible assumption | with_reducible refine Below.drew ?_ | with_reducible refine Below.alloc ?_ ?_ _ | with_reducible refine Below.setCell ?_ ?_ _ | with_reducible refine Below.trans ?_ (Below.mono (by assumption) ?_) | ((try simp only [World.heap_size_alloc, World.heap_size_drew, World.heap_size_setCell]); omega)))
  obtain ⟨g, off, Aj, nj, cj, e0, _, hg, p0, hs⟩ := h0.lie 0 row rfl
  have hnj := hs.uniq_len
  rw [Nat.add_zero] at p0
  have HP : Hid (∀ W, Below w.heap.size w W → W.cell? ⟨g, off, none⟩ = some (.slice Aj nj cj)) := Lib.hid (fun W hW => (hW.cell (p := ⟨g, off, none⟩) (show g < w.heap.size by omega)).trans p0)
  have hwj : IntKind.i64.wrap ((nj : Int) - 1) = (nj : Int) - 1 := IntWalk.i64_in _ (by omega)
  have eo : rotOk row i x = (btw i 0 ((nj : Int) - 1) && btw x 0 1000000000) := by rw [rotOk, hnj]
  have C4 : Hid (∀ W, Calls Try.prog 86 #[.int .i64 i, .int .i64 0, .int .i64 ((nj : Int) - 1)] W fun e w' => e = .returned (.bool (btw i 0 ((nj : Int) - 1))) ∧ W = w') := Lib.hid (fun W => between_any i 0 ((nj : Int) - 1) W)
  have C5 : Hid (∀ W, Calls Try.prog 86 #[.int .i64 x, .int .i64 0, .int .i64 1000000000] W fun e w' => e = .returned (.bool (btw x 0 1000000000)) ∧ W = w') := Lib.hid (fun W => between_any x 0 1000000000 W)
  have HN := Lib.hid hnj
  have EO := Lib.hid eo
  subst e0
  clear h0 hd hk0 hs p0 hnj eo
  generalize hi1 : btw i 0 ((nj : Int) - 1) = bi at *
  generalize hx1 : btw x 0 1000000000 = bx at *
  have HI := Lib.hid hi1
  clear hi1 hx1
  cases bi with
  | false =>
    have hM : rotOk row i x = false := by rw [EO.out]; rfl
    have hM2 : rotM row i x = row := by rw [rotM, hM]; rfl
    rw [hM, hM2]
    clear hM hM2
    go_enter Try.func54, Try.ntmps54
    go_wp2_with fail
    generalize hW0 : (w.alloc (.cells #[.slice (some ⟨g, off, none⟩) 1 c0, .slice A1 0 c1] 67)).alloc (.cells #[.slice none 0 0, .slice none 0 0] 67) = W0 at *
    clear hW0
    (with_reducible refine (C1.out _ hb9).mono ?_); rintro _ w1 ⟨rfl, b1⟩
    have y1 := b1.size
    have p1 : Below (w.heap.size + 2) W0 w1 := b1.mono (by omega)
    obtain ⟨⟨q0, q1, qf0, qf1⟩, -⟩ := T1.out _ p1
    have P1 := Lib.hid p1
    clear b1 p1
    go_wp2_with fail
    (with_reducible refine (C2.out _ (hb9.trans (P1.out.mono (by omega)))).mono ?_); rintro _ w2 ⟨X0, d0, X1, d1, vs, mid, rfl, s2, o2, v2, m1, m2, -, b2⟩
    have y2 := b2.size
    have hw2 : w.heap.size < w2.heap.size := by omega
    have p2 : Below (w.heap.size + 2) W0 w2 := P1.out.trans (b2.mono (by omega))
    obtain ⟨⟨e0, e1, -, -⟩, -⟩ := T1.out _ p2
    clear q0 q1 qf0 qf1
    have q0 : (w2.alloc (.cells #[.slice X0 1 d0, .slice X1 0 d1] 67)).cell? ⟨w.heap.size, 0, none⟩ = some (.slice (some ⟨g, off, none⟩) 1 c0) := (World.cell?_alloc_lt _ _ _ hw2).trans e0
    have q1 : (w2.alloc (.cells #[.slice X0 1 d0, .slice X1 0 d1] 67)).cell? ⟨w.heap.size, 1, none⟩ = some (.slice A1 0 c1) := (World.cell?_alloc_lt _ _ _ hw2).trans e1
    have K2 := Lib.hid (Box2.new w2 (.slice X0 1 d0) (.slice X1 0 d1) 67)
    have S2 := Lib.hid s2
    have P2 := Lib.hid p2
    have hd1 : d1 ≤ 9223372036854775807 := by
      rcases o2.2 with ⟨h7, -⟩ | ⟨g7, cap7, cur7, h7, _, _, _, h8, _⟩
      · injection h7 with _ _ h7
        omega
      · injection h7 with _ _ h7
        unfold maxLen at h8
        omega
    clear s2 o2 v2 b2 p2
    go_wp2_with fail
    (with_reducible refine (C3.out _).mono ?_); rintro _ w3 ⟨rfl, b3⟩
    have y3 := b3.size
    simp only [World.heap_size_alloc] at y3
    have p3 : Below w2.heap.size w2 w3 := ((Below.refl _ _).alloc (Nat.le_refl _) _).trans (b3.mono (by simp only [World.heap_size_alloc]; omega))
    have k3 := K2.out.below b3 (by simp only [World.heap_size_alloc]; omega)
    have P3 := Lib.hid (P2.out.trans (p3.mono (by omega)))
    clear q0 q1 e0 e1
    obtain ⟨⟨q0, q1, -, -⟩, -⟩ := T1.out _ P3.out
    have HW3 := Lib.hid (hb9.trans (P3.out.mono (by omega)))
    have r0 := HP.out w3 HW3.out
    have S3 := Lib.hid (S2.out.below p3 m2)
    obtain ⟨x0, x1, xf0, xf1⟩ := id k3
    have K3 := Lib.hid k3
    have T3 := Lib.hid (T1.out _ P3.out).2
    obtain ⟨t0, t1, tf0, tf1⟩ := T3.out
    clear b3 p3 K2 S2 k3
    go_wp2_with fail
    (with_reducible refine (C4.out _).mono ?_); rintro _ _ ⟨rfl, rfl⟩
    go_wp2_with fail
    refine bodyPost_ret (v := .tuple #[.agg #[.slice X0 1 d0, .slice X1 0 d1], .bool false]) (by simp [results, Try.results54, go_sem, t0, t1, tf0, tf1, x0, x1]) rfl ?_
    have u9 : Upd (w.heap.size + 1) (w.heap.size + 2) w3 ((w3.setCell ⟨w.heap.size + 1, 0, none⟩ (.slice X0 1 d0)).setCell ⟨w.heap.size + 1, 1, none⟩ (.slice X1 0 d1)) := ((Upd.refl _ _ _).setCell (p := ⟨w.heap.size + 1, 0, none⟩) (Nat.le_refl _) (by simp) _).setCell (p := ⟨w.heap.size + 1, 1, none⟩) (Nat.le_refl _) (by simp) _
    exact ⟨X0, d0, X1, d1, rfl, (S3.out.upd u9 (.inr (by omega))).mono (by omega) (by simp only [World.heap_size_setCell]; omega), SlW.nil _ _ _ _ _ hd1, (HW3.out.setCell (p := ⟨w.heap.size + 1, 0, none⟩) (by simp only; omega) _).setCell (p := ⟨w.heap.size + 1, 1, none⟩) (by simp only; omega) _⟩
  | true =>
    cases bx with
    | false =>
      have hM : rotOk row i x = false := by rw [EO.out]; rfl
      have hM2 : rotM row i x = row := by rw [rotM, hM]; rfl
      rw [hM, hM2]
      clear hM hM2
      go_enter Try.func54, Try.ntmps54
      go_wp2_with fail
      generalize hW0 : (w.alloc (.cells #[.slice (some ⟨g, off, none⟩) 1 c0, .slice A1 0 c1] 67)).alloc (.cells #[.slice none 0 0, .slice none 0 0] 67) = W0 at *
      clear hW0
      (with_reducible refine (C1.out _ hb9).mono ?_); rintro _ w1 ⟨rfl, b1⟩
      have y1 := b1.size
      have p1 : Below (w.heap.size + 2) W0 w1 := b1.mono (by omega)
      obtain ⟨⟨q0, q1, qf0, qf1⟩, -⟩ := T1.out _ p1
      have P1 := Lib.hid p1
      clear b1 p1
      go_wp2_with fail
      (with_reducible refine (C2.out _ (hb9.trans (P1.out.mono (by omega)))).mono ?_); rintro _ w2 ⟨X0, d0, X1, d1, vs, mid, rfl, s2, o2, v2, m1, m2, -, b2⟩
      have y2 := b2.size
      have hw2 : w.heap.size < w2.heap.size := by omega
      have p2 : Below (w.heap.size + 2) W0 w2 := P1.out.trans (b2.mono (by omega))
      obtain ⟨⟨e0, e1, -, -⟩, -⟩ := T1.out _ p2
      clear q0 q1 qf0 qf1
      have q0 : (w2.alloc (.cells #[.slice X0 1 d0, .slice X1 0 d1] 67)).cell? ⟨w.heap.size, 0, none⟩ = some (.slice (some ⟨g, off, none⟩) 1 c0) := (World.cell?_alloc_lt _ _ _ hw2).trans e0
      have q1 : (w2.alloc (.cells #[.slice X0 1 d0, .slice X1 0 d1] 67)).cell? ⟨w.heap.size, 1, none⟩ = some (.slice A1 0 c1) := (World.cell?_alloc_lt _ _ _ hw2).trans e1
      have K2 := Lib.hid (Box2.new w2 (.slice X0 1 d0) (.slice X1 0 d1) 67)
      have S2 := Lib.hid s2
      have P2 := Lib.hid p2
      have hd1 : d1 ≤ 9223372036854775807 := by
        rcases o2.2 with ⟨h7, -⟩ | ⟨g7, cap7, cur7, h7, _, _, _, h8, _⟩
        · injection h7 with _ _ h7
          omega
        · injection h7 with _ _ h7
          unfold maxLen at h8
          omega
      clear s2 o2 v2 b2 p2
      go_wp2_with fail
      (with_reducible refine (C3.out _).mono ?_); rintro _ w3 ⟨rfl, b3⟩
      have y3 := b3.size
      simp only [World.heap_size_alloc] at y3
      have p3 : Below w2.heap.size w2 w3 := ((Below.refl _ _).alloc (Nat.le_refl _) _).trans (b3.mono (by simp only [World.heap_size_alloc]; omega))
      have k3 := K2.out.below b3 (by simp only [World.heap_size_alloc]; omega)
      have P3 := Lib.hid (P2.out.trans (p3.mono (by omega)))
      clear q0 q1 e0 e1
      obtain ⟨⟨q0, q1, -, -⟩, -⟩ := T1.out _ P3.out
      have HW3 := Lib.hid (hb9.trans (P3.out.mono (by omega)))
      have r0 := HP.out w3 HW3.out
      have S3 := Lib.hid (S2.out.below p3 m2)
      obtain ⟨x0, x1, xf0, xf1⟩ := id k3
      have K3 := Lib.hid k3
      have T3 := Lib.hid (T1.out _ P3.out).2
      obtain ⟨t0, t1, tf0, tf1⟩ := T3.out
      clear b3 p3 K2 S2 k3
      go_wp2_with fail
      (with_reducible refine (C4.out _).mono ?_); rintro _ _ ⟨rfl, rfl⟩
      go_wp2_with fail
      (with_reducible refine (C5.out _).mono ?_); rintro _ _ ⟨rfl, rfl⟩
      go_wp2_with fail
      refine bodyPost_ret (v := .tuple #[.agg #[.slice X0 1 d0, .slice X1 0 d1], .bool false]) (by simp [results, Try.results54, go_sem, t0, t1, tf0, tf1, x0, x1]) rfl ?_
      have u9 : Upd (w.heap.size + 1) (w.heap.size + 2) w3 ((w3.setCell ⟨w.heap.size + 1, 0, none⟩ (.slice X0 1 d0)).setCell ⟨w.heap.size + 1, 1, none⟩ (.slice X1 0 d1)) := ((Upd.refl _ _ _).setCell (p := ⟨w.heap.size + 1, 0, none⟩) (Nat.le_refl _) (by simp) _).setCell (p := ⟨w.heap.size + 1, 1, none⟩) (Nat.le_refl _) (by simp) _
      exact ⟨X0, d0, X1, d1, rfl, (S3.out.upd u9 (.inr (by omega))).mono (by omega) (by simp only [World.heap_size_setCell]; omega), SlW.nil _ _ _ _ _ hd1, (HW3.out.setCell (p := ⟨w.heap.size + 1, 0, none⟩) (by simp only; omega) _).setCell (p := ⟨w.heap.size + 1, 1, none⟩) (by simp only; omega) _⟩
    | true =>
      have hM : rotOk row i x = true := by rw [EO.out]; rfl
      have hM2 : rotM row i x = row.set i.toNat x := by rw [rotM, hM]; rfl
      rw [hM, hM2]
      clear hM hM2
      go_enter Try.func54, Try.ntmps54
      go_wp2_with fail
      generalize hW0 : (w.alloc (.cells #[.slice (some ⟨g, off, none⟩) 1 c0, .slice A1 0 c1] 67)).alloc (.cells #[.slice none 0 0, .slice none 0 0] 67) = W0 at *
      clear hW0
      (with_reducible refine (C1.out _ hb9).mono ?_); rintro _ w1 ⟨rfl, b1⟩
      have y1 := b1.size
      have p1 : Below (w.heap.size + 2) W0 w1 := b1.mono (by omega)
      obtain ⟨⟨q0, q1, qf0, qf1⟩, -⟩ := T1.out _ p1
      have P1 := Lib.hid p1
      clear b1 p1
      go_wp2_with fail
      (with_reducible refine (C2.out _ (hb9.trans (P1.out.mono (by omega)))).mono ?_); rintro _ w2 ⟨X0, d0, X1, d1, vs, mid, rfl, s2, o2, v2, m1, m2, -, b2⟩
      have y2 := b2.size
      have hw2 : w.heap.size < w2.heap.size := by omega
      have p2 : Below (w.heap.size + 2) W0 w2 := P1.out.trans (b2.mono (by omega))
      obtain ⟨⟨e0, e1, -, -⟩, -⟩ := T1.out _ p2
      clear q0 q1 qf0 qf1
      have q0 : (w2.alloc (.cells #[.slice X0 1 d0, .slice X1 0 d1] 67)).cell? ⟨w.heap.size, 0, none⟩ = some (.slice (some ⟨g, off, none⟩) 1 c0) := (World.cell?_alloc_lt _ _ _ hw2).trans e0
      have q1 : (w2.alloc (.cells #[.slice X0 1 d0, .slice X1 0 d1] 67)).cell? ⟨w.heap.size, 1, none⟩ = some (.slice A1 0 c1) := (World.cell?_alloc_lt _ _ _ hw2).trans e1
      have K2 := Lib.hid (Box2.new w2 (.slice X0 1 d0) (.slice X1 0 d1) 67)
      have S2 := Lib.hid s2
      have P2 := Lib.hid p2
      have hd1 : d1 ≤ 9223372036854775807 := by
        rcases o2.2 with ⟨h7, -⟩ | ⟨g7, cap7, cur7, h7, _, _, _, h8, _⟩
        · injection h7 with _ _ h7
          omega
        · injection h7 with _ _ h7
          unfold maxLen at h8
          omega
      clear s2 o2 v2 b2 p2
      go_wp2_with fail
      (with_reducible refine (C3.out _).mono ?_); rintro _ w3 ⟨rfl, b3⟩
      have y3 := b3.size
      simp only [World.heap_size_alloc] at y3
      have p3 : Below w2.heap.size w2 w3 := ((Below.refl _ _).alloc (Nat.le_refl _) _).trans (b3.mono (by simp only [World.heap_size_alloc]; omega))
      have k3 := K2.out.below b3 (by simp only [World.heap_size_alloc]; omega)
      have P3 := Lib.hid (P2.out.trans (p3.mono (by omega)))
      clear q0 q1 e0 e1
      obtain ⟨⟨q0, q1, -, -⟩, -⟩ := T1.out _ P3.out
      have HW3 := Lib.hid (hb9.trans (P3.out.mono (by omega)))
      have r0 := HP.out w3 HW3.out
      have S3 := Lib.hid (S2.out.below p3 m2)
      obtain ⟨x0, x1, xf0, xf1⟩ := id k3
      have K3 := Lib.hid k3
      have T3 := Lib.hid (T1.out _ P3.out).2
      obtain ⟨t0, t1, tf0, tf1⟩ := T3.out
      clear b3 p3 K2 S2 k3
      go_wp2_with fail
      (with_reducible refine (C4.out _).mono ?_); rintro _ _ ⟨rfl, rfl⟩
      go_wp2_with fail
      (with_reducible refine (C5.out _).mono ?_); rintro _ _ ⟨rfl, rfl⟩
      obtain ⟨gk, offk, Bj, bj, dj, e5, hgk0, hgk, pk, hsk⟩ := S3.out.lie 0 row rfl
      subst e5
      rw [Nat.add_zero] at pk
      have hbj : bj = nj := by
        have h8 := hsk.uniq_len
        have h9 := HN.out
        omega
      subst hbj
      obtain ⟨hi0, hi9⟩ := btw_iff.1 HI.out
      obtain ⟨a, rfl⟩ : ∃ a : Nat, i = (a : Int) := ⟨i.toNat, by omega⟩
      have han : a < bj := by omega
      obtain ⟨gr, offr, rfl, hgr0, hgr1, hI⟩ := hsk.lie (by omega)
      obtain ⟨pr, prf⟩ := hI.getD (j := a) (by have := hsk.uniq_len; omega)
      have HSK := Lib.hid hsk
      have hcap3 := S3.out.cap
      have hbig3 := S3.out.big
      have hI9 := Lib.hid (hI.set a x)
      have hnei : ∀ p : Addr, ∀ A9 n9 c9, w3.cell? p = some (.slice A9 n9 c9) → p ≠ ⟨gr, offr + a, none⟩ := fun p A9 n9 c9 hp e => by
        rw [e, pr] at hp
        cases hp
      have pk9 : (w3.setCell ⟨gr, offr + a, none⟩ (.int .i64 x)).cell? ⟨gk, offk, none⟩ = some (.slice (some ⟨gr, offr, none⟩) bj dj) := (World.cell?_setCell_other _ _ _ _ (fun e => hnei _ _ _ _ pk e.symm)).trans pk
      have x09 : (w3.setCell ⟨gr, offr + a, none⟩ (.int .i64 x)).cell? ⟨w2.heap.size, 0, none⟩ = some (.slice (some ⟨gk, offk, none⟩) 1 d0) := (World.cell?_setCell_other _ _ _ _ (fun e => hnei _ _ _ _ x0 e.symm)).trans x0
      have x19 : (w3.setCell ⟨gr, offr + a, none⟩ (.int .i64 x)).cell? ⟨w2.heap.size, 1, none⟩ = some (.slice X1 0 d1) := (World.cell?_setCell_other _ _ _ _ (fun e => hnei _ _ _ _ x1 e.symm)).trans x1
      have t09 : (w3.setCell ⟨gr, offr + a, none⟩ (.int .i64 x)).cell? ⟨w.heap.size + 1, 0, none⟩ = some (.slice none 0 0) := (World.cell?_setCell_other _ _ _ _ (fun e => hnei _ _ _ _ t0 e.symm)).trans t0
      have t19 : (w3.setCell ⟨gr, offr + a, none⟩ (.int .i64 x)).cell? ⟨w.heap.size + 1, 1, none⟩ = some (.slice none 0 0) := (World.cell?_setCell_other _ _ _ _ (fun e => hnei _ _ _ _ t1 e.symm)).trans t1
      have tf09 : (w3.setCell ⟨gr, offr + a, none⟩ (.int .i64 x)).frozen? ⟨w.heap.size + 1, 0, none⟩ = false := by rw [World.frozen?_setCell]; exact tf0
      have tf19 : (w3.setCell ⟨gr, offr + a, none⟩ (.int .i64 x)).frozen? ⟨w.heap.size + 1, 1, none⟩ = false := by rw [World.frozen?_setCell]; exact tf1
      have PK9 := Lib.hid pk9
      have hz9 : (w3.setCell ⟨gr, offr + a, none⟩ (.int .i64 x)).heap.size = w3.heap.size := World.heap_size_setCell _ _ _
      have HW9 := Lib.hid (HW3.out.setCell (p := ⟨gr, offr + a, none⟩) (by simp only; omega) (.int .i64 x))
      clear hnei hI
      go_wp2_with fail
      generalize w3.setCell ⟨gr, offr + a, none⟩ (.int .i64 x) = W at *
      refine bodyPost_ret (v := .tuple #[.agg #[.slice (some ⟨gk, offk, none⟩) 1 d0, .slice X1 0 d1], .bool true]) (by simp [results, Try.results54, go_sem, t09, t19, tf09, tf19]) rfl ?_
      have u9 : Upd (w.heap.size + 1) (w.heap.size + 2) W ((W.setCell ⟨w.heap.size + 1, 0, none⟩ (.slice (some ⟨gk, offk, none⟩) 1 d0)).setCell ⟨w.heap.size + 1, 1, none⟩ (.slice X1 0 d1)) := ((Upd.refl _ _ _).setCell (p := ⟨w.heap.size + 1, 0, none⟩) (Nat.le_refl _) (by simp) _).setCell (p := ⟨w.heap.size + 1, 1, none⟩) (Nat.le_refl _) (by simp) _
      have s9 : Sl W w1.heap.size mid 1 (some ⟨gr, offr, none⟩) bj dj (row.set a x) := ⟨by rw [List.length_set]; exact HSK.out.len, HSK.out.cap, HSK.out.big, fun _ => ⟨gr, offr, rfl, hgr0, hgr1, hI9.out⟩⟩
      have r9 : SlR W w1.heap.size mid (some ⟨gk, offk, none⟩) 1 d0 [row.set a x] := SlR.one hgk0 hgk hcap3 hbig3 PK9.out s9
      exact ⟨_, d0, X1, d1, rfl, (r9.upd u9 (.inr (by omega))).mono (by omega) (by simp only [World.heap_size_setCell]; omega), SlW.nil _ _ _ _ _ hd1, (HW9.out.setCell (p := ⟨w.heap.size + 1, 0, none⟩) (by simp only; omega) _).setCell (p := ⟨w.heap.size + 1, 1, none⟩) (by simp only; omega) _⟩
end Go.Proofs.Ytgnilmdaegnaaaa
