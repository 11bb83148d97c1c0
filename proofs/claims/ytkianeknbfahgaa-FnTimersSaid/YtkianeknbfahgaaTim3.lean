/- Lists of timers: what the program's and the reference's tests of them return. No conditions. -/
import Derived.Test.YtkianeknbfahgaaTim2
set_option linter.unusedSimpArgs false
set_option linter.unusedVariables false
namespace Go.Proofs.Ytkianeknbfahgaa
open Go.RowKit

theorem Sl.early {w : World} {lo hi k : Nat} {A : Option Addr} {n c m : Nat} {α : Type} {f : α → List Int} {l : List α} (h : Sl w lo hi k A n c (l.flatMap f)) (hk : ∀ x, (f x).length = k) (hm : m ≤ n) : Sl w lo hi k A m c ((l.take m).flatMap f) := by
  rw [flat_take hk]
  refine ⟨?_, Nat.le_trans hm h.cap, h.big, fun hm0 => ?_⟩
  · rw [List.length_take, h.len]
    exact Nat.min_eq_left (Nat.mul_le_mul_right k hm)
  · obtain ⟨g, off, e, h1, h2, h3⟩ := h.lie (by omega)
    refine ⟨g, off, e, h1, h2, fun j z hz => h3 j z ?_⟩
    rw [List.getElem?_take] at hz
    split at hz
    · exact hz
    · cases hz
theorem idxD_take {α : Type} {p : α → Bool} {l : List α} {m : Nat} {x : α} (hx : l[m]? = some x) (hp : p x = true) : 0 ≤ idxD p (l.take m) ↔ idxD p l ≠ (m : Int) := by
  obtain ⟨hm, rfl⟩ := List.getElem?_eq_some_iff.1 hx
  by_cases h : ∃ j y, j < m ∧ l[j]? = some y ∧ p y = true
  · have hk : l.findIdx p < m := by
      obtain ⟨j, y, hj, hy, hpy⟩ := h
      obtain ⟨hj2, rfl⟩ := List.getElem?_eq_some_iff.1 hy
      exact Nat.lt_of_le_of_lt (Classical.byContradiction fun hn => by
        have := List.not_of_lt_findIdx (p := p) (xs := l) (i := j) (by omega)
        simp [hpy] at this) hj
    have hl : l.findIdx p < l.length := by omega
    have h1 : p (l[l.findIdx p]'hl) = true := List.findIdx_getElem (w := hl)
    have h2 : ∀ j y, j < l.findIdx p → l[j]? = some y → p y = false := fun j y hj hy => by
      obtain ⟨hj2, rfl⟩ := List.getElem?_eq_some_iff.1 hy
      simpa using List.not_of_lt_findIdx (p := p) (xs := l) (i := j) hj
    rw [idxD_hit (List.getElem?_eq_getElem hl) h1 h2, idxD_hit (l := l.take m) (m := l.findIdx p) (x := l[l.findIdx p]'hl) (by rw [List.getElem?_take, if_pos hk]; exact List.getElem?_eq_getElem hl) h1 (fun j y hj hy => h2 j y hj (by rw [List.getElem?_take, if_pos (by omega)] at hy; exact hy))]
    constructor <;> intro <;> omega
  · have h3 : ∀ j y, j < m → l[j]? = some y → p y = false := fun j y hj hy => by
      cases hpy : p y with
      | false => rfl
      | true => exact absurd ⟨j, y, hj, hy, hpy⟩ h
    rw [idxD_hit hx hp h3, idxD_miss (fun j y hj hy => by
      rw [List.length_take] at hj
      rw [List.getElem?_take, if_pos (by omega)] at hy
      exact h3 j y (by omega) hy)]
    constructor <;> intro h <;> omega

/-- What is asked of the timer e at place i of l, but for its order. -/
def tBase (l : List TimerD) (i : Nat) (e : TimerD) : Bool := btw e.id 0 99 && btw e.due 0 1000000 && decide (idxD (fun t => t.id == e.id) l = (i : Int))
def tStepOk (l : List TimerD) (i : Nat) : Bool :=
  match l[i]? with
  | none => true
  | some e => tBase l i e && (match i with
    | 0 => true
    | j + 1 => match l[j]? with
      | none => true
      | some p => timerLess p e)
def timersOk (l : List TimerD) : Bool := decide (l.length ≤ 16) && (List.range l.length).all (tStepOk l)
theorem timersOk_of {l : List TimerD} (h1 : l.length ≤ 16) (h : ∀ j, j < l.length → tStepOk l j = true) : timersOk l = true := by
  simp only [timersOk, Bool.and_eq_true, decide_eq_true_eq, List.all_eq_true, List.mem_range]
  exact ⟨h1, h⟩
theorem timersOk_not {l : List TimerD} {j : Nat} (hj : j < l.length) (h : tStepOk l j = false) : timersOk l = false := by
  simp only [timersOk, Bool.and_eq_false_iff, List.all_eq_false, List.mem_range]
  exact .inr ⟨j, hj, by simp [h]⟩
theorem timersOk_long {l : List TimerD} (h : 16 < l.length) : timersOk l = false := by
  simp only [timersOk, Bool.and_eq_false_iff, decide_eq_false_iff_not]
  exact .inl (by omega)
theorem timersOk_len {l : List TimerD} (h : timersOk l = true) : l.length ≤ 16 := by
  simp only [timersOk, Bool.and_eq_true, decide_eq_true_eq] at h
  exact h.1
theorem tStep_zero {l : List TimerD} {e : TimerD} (h : l[0]? = some e) : tStepOk l 0 = tBase l 0 e := by simp [tStepOk, h]
theorem tStep_succ {l : List TimerD} {q : Nat} {e p : TimerD} (h : l[q + 1]? = some e) (h' : l[q]? = some p) : tStepOk l (q + 1) = (tBase l (q + 1) e && timerLess p e) := by simp [tStepOk, h, h']
theorem tStep_bad {l : List TimerD} {i : Nat} {e : TimerD} (h : l[i]? = some e) (h' : tBase l i e = false) : tStepOk l i = false := by simp [tStepOk, h, h']
theorem tStep_less {l : List TimerD} {q : Nat} {e p : TimerD} (h : l[q + 1]? = some e) (h' : l[q]? = some p) (hl : timerLess p e = false) : tStepOk l (q + 1) = false := by rw [tStep_succ h h', hl, Bool.and_false]
theorem timerOrd_ge {p e : TimerD} (h : timerLess p e = false) : ∃ ov, timerOrd p e = ov ∧ 0 ≤ ov := by
  unfold timerOrd
  rw [h]
  by_cases hpe : p = e
  · exact ⟨0, by simp [hpe], by omega⟩
  · exact ⟨1, by simp [hpe], by omega⟩
def TBoolRes (w : World) (b : Bool) (e : Ending) (w' : World) : Prop := e = .returned (.bool b) ∧ Below w.heap.size w w'

set_option maxRecDepth 100000 in
set_option maxHeartbeats 1600000 in
theorem sTimersOk_any (A : Option Addr) (n c lo hi : Nat) (l : List TimerD) (w : World) (h : Sl w lo hi 2 A n c (l.flatMap TimerD.ints)) :
    Calls Try.prog 31 #[.slice A n c] w (TBoolRes w (timersOk l)) := by
  have hn : n ≤ 9223372036854775807 := Nat.le_trans h.cap h.big
  have hl : l.length = n := h.count TimerD.ints_len (by omega)
  rcases Nat.lt_or_ge 16 n with hlong | hshort
  · rw [timersOk_long (by omega)]
    clear hl h
    go_enter Try.func31, Try.ntmps31
    go_wp2
    go_ret
    exact ⟨rfl, Below.refl _ _⟩
  have hnc : n ≤ c := h.cap
  have hcb : c ≤ 9223372036854775807 := h.big
  have H := Lib.hid (h.fit (by omega))
  have HL := Lib.hid hl
  clear h hl
  go_enter Try.func31, Try.ntmps31
  go_wp2
  go_loopw [3] (fun i wr => ∃ m : Nat, m ≤ n ∧ i = .int .i64 m ∧ Below w.heap.size w wr ∧ Hid (∀ j, j < m → tStepOk l j = true)) (fun i _ => n - (intOf i).toNat)
  case atStart => exact ⟨0, Nat.zero_le _, rfl, Below.refl _ _, fun j hj => absurd hj (by omega)⟩
  case round =>
    obtain ⟨m, hm, rfl, hb, hp⟩ := hrel
    by_cases hlt : m < n
    · obtain ⟨g, off, e, rfl, _, hg, he, p0, p1⟩ := H.out.timer hlt
      have hg1 := Nat.lt_of_lt_of_le hg (Nat.min_le_right _ _)
      have HE := Lib.hid he
      clear he
      have r0 := (hb.cell (p := ⟨g, off + m * 2, none⟩) hg1).trans p0
      have r1 := (hb.cell (p := ⟨g, off + m * 2 + 1, none⟩) hg1).trans p1
      clear p0 p1
      cases hid : btw e.id 0 99 with
      | false =>
        have CI9 : ∀ W, Calls Try.prog 57 #[.int .i64 e.id, .int .i64 0, .int .i64 99] W fun x w' => x = .returned (.bool false) ∧ Below W.heap.size W w' := fun W => (l1In_any e.id 0 99 W).mono fun x w' ⟨h1, h2⟩ => ⟨by rw [h1, ← hid], by rw [← h2]; exact Below.refl _ _⟩
        have HI9 := Lib.hid CI9
        clear CI9
        have fr0 := fun d os => cell_regrown r0 d os
        have fr1 := fun d os => cell_regrown r1 d os
        go_wp2
        refine wp_region_quiet_below (by kernel_rfl) (by kernel_rfl) ?_; (repeat (first | go_big_quiet_step ((first | (go_at_call 57; exact Calls.regrown_of (HI9.out _)) | (go_at_call 51; exact Calls.regrown_of (HD9.out _)) | (go_at_call 58; exact Calls.regrown_of (HL9.out _)) | (go_at_call 59; exact Calls.regrown_of (HA9.out _ (below_regrown _ _ _))))) | quiet_step ((first | (go_at_call 57; exact Calls.regrown_of (HI9.out _)) | (go_at_call 51; exact Calls.regrown_of (HD9.out _)) | (go_at_call 58; exact Calls.regrown_of (HL9.out _)) | (go_at_call 59; exact Calls.regrown_of (HA9.out _ (below_regrown _ _ _))))))); refine wpQuiet_nil ?_; intro _ hw'; obtain ⟨⟨nq, osq⟩, hw''⟩ := hw'; subst hw''; have hq := below_regrown wr nq osq; generalize Sort.grow (redrawn wr nq) osq = w1 at *
        have hbw : Below w.heap.size w w1 := hb.trans (hq.mono hb.size)
        go_wp2
        go_ret
        exact ⟨by rw [timersOk_not (by rw [HL.out]; exact hlt) (tStep_bad HE.out (by simp [tBase, hid]))]; rfl, hbw⟩
      | true =>
        have CI9 : ∀ W, Calls Try.prog 57 #[.int .i64 e.id, .int .i64 0, .int .i64 99] W fun x w' => x = .returned (.bool true) ∧ Below W.heap.size W w' := fun W => (l1In_any e.id 0 99 W).mono fun x w' ⟨h1, h2⟩ => ⟨by rw [h1, ← hid], by rw [← h2]; exact Below.refl _ _⟩
        have HI9 := Lib.hid CI9
        clear CI9
        cases hdu : btw e.due 0 1000000 with
        | false =>
          have CD9 : ∀ W, Calls Try.prog 51 #[.int .i64 e.due] W fun x w' => x = .returned (.bool false) ∧ Below W.heap.size W w' := fun W => (sTimeOk_any e.due W).mono fun x w' ⟨h1, h2⟩ => ⟨by rw [h1, ← hdu], by rw [← h2]; exact Below.refl _ _⟩
          have HD9 := Lib.hid CD9
          clear CD9
          have fr0 := fun d os => cell_regrown r0 d os
          have fr1 := fun d os => cell_regrown r1 d os
          go_wp2
          refine wp_region_quiet_below (by kernel_rfl) (by kernel_rfl) ?_; (repeat (first | go_big_quiet_step ((first | (go_at_call 57; exact Calls.regrown_of (HI9.out _)) | (go_at_call 51; exact Calls.regrown_of (HD9.out _)) | (go_at_call 58; exact Calls.regrown_of (HL9.out _)) | (go_at_call 59; exact Calls.regrown_of (HA9.out _ (below_regrown _ _ _))))) | quiet_step ((first | (go_at_call 57; exact Calls.regrown_of (HI9.out _)) | (go_at_call 51; exact Calls.regrown_of (HD9.out _)) | (go_at_call 58; exact Calls.regrown_of (HL9.out _)) | (go_at_call 59; exact Calls.regrown_of (HA9.out _ (below_regrown _ _ _))))))); refine wpQuiet_nil ?_; intro _ hw'; obtain ⟨⟨nq, osq⟩, hw''⟩ := hw'; subst hw''; have hq := below_regrown wr nq osq; generalize Sort.grow (redrawn wr nq) osq = w1 at *
          have hbw : Below w.heap.size w w1 := hb.trans (hq.mono hb.size)
          go_wp2
          go_ret
          exact ⟨by rw [timersOk_not (by rw [HL.out]; exact hlt) (tStep_bad HE.out (by simp [tBase, hdu]))]; rfl, hbw⟩
        | true =>
          have CD9 : ∀ W, Calls Try.prog 51 #[.int .i64 e.due] W fun x w' => x = .returned (.bool true) ∧ Below W.heap.size W w' := fun W => (sTimeOk_any e.due W).mono fun x w' ⟨h1, h2⟩ => ⟨by rw [h1, ← hdu], by rw [← h2]; exact Below.refl _ _⟩
          have HD9 := Lib.hid CD9
          clear CD9
          have HA9 : Hid (∀ W, Below wr.heap.size wr W → Calls Try.prog 59 #[.slice (some ⟨g, off, none⟩) m c, .int .i64 e.id] W fun x w' => x = .returned (.int .i64 (idxD (fun t => t.id == e.id) (l.take m))) ∧ Below W.heap.size W w') := fun W hW => (l6At_any _ _ _ _ _ (l.take m) e.id W ((H.out.below (hb.trans (hW.mono hb.size)) (Nat.min_le_right _ _)).early TimerD.ints_len hm)).mono fun x w' ⟨h1, h2⟩ => ⟨h1, by rw [← h2]; exact Below.refl _ _⟩
          have hat := idxD_take HE.out (p := fun t => t.id == e.id) (by simp)
          generalize hiv : idxD (fun t => t.id == e.id) (l.take m) = iv at HA9 hat
          clear hiv
          rcases Nat.eq_zero_or_pos m with rfl | hpos
          · simp only [Nat.zero_mul, Nat.add_zero] at r0 r1
            have hix : idxD (fun t => t.id == e.id) l = ((0 : Nat) : Int) := idxD_hit HE.out (by simp) (fun j y hj => absurd hj (by omega))
            have hz : decide ((0 : Int) < ((0 : Nat) : Int)) = false := by simp
            have hz2 : ((0 : Nat) : Int) ≤ (n : Int) := by omega
            have hiv : (0 : Int) ≤ iv → False := fun h => by
              have := hat.1 h
              exact this hix
            have hiv2 : iv < 0 := by omega
            clear hat hiv
            have fr0 := fun d os => cell_regrown r0 d os
            have fr1 := fun d os => cell_regrown r1 d os
            go_wp2
            refine wp_region_quiet_below (by kernel_rfl) (by kernel_rfl) ?_; (repeat (first | go_big_quiet_step ((first | (go_at_call 57; exact Calls.regrown_of (HI9.out _)) | (go_at_call 51; exact Calls.regrown_of (HD9.out _)) | (go_at_call 58; exact Calls.regrown_of (HL9.out _)) | (go_at_call 59; exact Calls.regrown_of (HA9.out _ (below_regrown _ _ _))))) | quiet_step ((first | (go_at_call 57; exact Calls.regrown_of (HI9.out _)) | (go_at_call 51; exact Calls.regrown_of (HD9.out _)) | (go_at_call 58; exact Calls.regrown_of (HL9.out _)) | (go_at_call 59; exact Calls.regrown_of (HA9.out _ (below_regrown _ _ _))))))); refine wpQuiet_nil ?_; intro _ hw'; obtain ⟨⟨nq, osq⟩, hw''⟩ := hw'; subst hw''; have hq := below_regrown wr nq osq; generalize Sort.grow (redrawn wr nq) osq = w1 at *
            have hbw : Below w.heap.size w w1 := hb.trans (hq.mono hb.size)
            go_wp2
            go_roundw
            case rel => exact ⟨_, hlt, by go_num, hbw, fun j hj => by
              rcases Nat.lt_succ_iff_lt_or_eq.1 hj with h5 | rfl
              · exact hp.out j h5
              · rw [tStep_zero HE.out]; simp [tBase, hid, hdu, hix]⟩
            case measure => simp [intOf]; omega
          · obtain ⟨q, rfl⟩ : ∃ q, m = q + 1 := ⟨m - 1, by omega⟩
            obtain ⟨g2, off2, p, hA2, _, _, hep, s0, s1⟩ := H.out.timer (show q < n by omega)
            injection hA2 with hA2
            injection hA2 with hA3 hA4
            subst hA3
            subst hA4
            have u0 := (hb.cell (p := ⟨g, off + q * 2, none⟩) hg1).trans s0
            have u1 := (hb.cell (p := ⟨g, off + q * 2 + 1, none⟩) hg1).trans s1
            have HP := Lib.hid hep
            clear hep s0 s1
            have hi1 : (0 : Int) < ((q : Nat) : Int) + 1 := by omega
            have hi2 : ((q : Nat) : Int) < (n : Int) := by omega
            have hi3 : ((q : Nat) : Int) + 1 < (n : Int) := by omega
            have hi4 : (0 : Int) ≤ ((q : Nat) : Int) := by omega
            have hw1 : IntKind.i64.wrap (((q : Nat) : Int) + 1 - 1) = (q : Int) := by rw [IntWalk.i64_in _ (by omega)]; omega
            have hw3 : IntKind.i64.wrap ((q : Nat) : Int) = (q : Int) := IntWalk.i64_in _ (by omega)
            have fr0 := fun d os => cell_regrown r0 d os
            have fr1 := fun d os => cell_regrown r1 d os
            have fu0 := fun d os => cell_regrown u0 d os
            have fu1 := fun d os => cell_regrown u1 d os
            cases hls : timerLess p e with
            | false =>
              have CL : ∀ W, Calls Try.prog 58 #[.agg #[.int .i64 p.id, .int .i64 p.due], .agg #[.int .i64 e.id, .int .i64 e.due]] W fun x w' => x = .returned (.bool false) ∧ Below W.heap.size W w' := fun W => by
                have h7 := l6Less_any p.id p.due e.id e.due W
                rw [show timerLess ⟨p.id, p.due⟩ ⟨e.id, e.due⟩ = false from hls] at h7
                exact h7
              have HL9 := Lib.hid CL
              clear CL
              go_wp2
              refine wp_region_quiet_below (by kernel_rfl) (by kernel_rfl) ?_; (repeat (first | go_big_quiet_step ((first | (go_at_call 57; exact Calls.regrown_of (HI9.out _)) | (go_at_call 51; exact Calls.regrown_of (HD9.out _)) | (go_at_call 58; exact Calls.regrown_of (HL9.out _)) | (go_at_call 59; exact Calls.regrown_of (HA9.out _ (below_regrown _ _ _))))) | quiet_step ((first | (go_at_call 57; exact Calls.regrown_of (HI9.out _)) | (go_at_call 51; exact Calls.regrown_of (HD9.out _)) | (go_at_call 58; exact Calls.regrown_of (HL9.out _)) | (go_at_call 59; exact Calls.regrown_of (HA9.out _ (below_regrown _ _ _))))))); refine wpQuiet_nil ?_; intro _ hw'; obtain ⟨⟨nq, osq⟩, hw''⟩ := hw'; subst hw''; have hq := below_regrown wr nq osq; generalize Sort.grow (redrawn wr nq) osq = w1 at *
              have hbw : Below w.heap.size w w1 := hb.trans (hq.mono hb.size)
              go_wp2
              go_ret
              exact ⟨by rw [timersOk_not (by rw [HL.out]; exact hlt) (tStep_less HE.out HP.out hls)]; rfl, hbw⟩
            | true =>
              have CL : ∀ W, Calls Try.prog 58 #[.agg #[.int .i64 p.id, .int .i64 p.due], .agg #[.int .i64 e.id, .int .i64 e.due]] W fun x w' => x = .returned (.bool true) ∧ Below W.heap.size W w' := fun W => by
                have h7 := l6Less_any p.id p.due e.id e.due W
                rw [show timerLess ⟨p.id, p.due⟩ ⟨e.id, e.due⟩ = true from hls] at h7
                exact h7
              have HL9 := Lib.hid CL
              clear CL
              by_cases hiv : (0 : Int) ≤ iv
              · have hne := Lib.hid (hat.1 hiv)
                clear hat
                go_wp2
                refine wp_region_quiet_below (by kernel_rfl) (by kernel_rfl) ?_; (repeat (first | go_big_quiet_step ((first | (go_at_call 57; exact Calls.regrown_of (HI9.out _)) | (go_at_call 51; exact Calls.regrown_of (HD9.out _)) | (go_at_call 58; exact Calls.regrown_of (HL9.out _)) | (go_at_call 59; exact Calls.regrown_of (HA9.out _ (below_regrown _ _ _))))) | quiet_step ((first | (go_at_call 57; exact Calls.regrown_of (HI9.out _)) | (go_at_call 51; exact Calls.regrown_of (HD9.out _)) | (go_at_call 58; exact Calls.regrown_of (HL9.out _)) | (go_at_call 59; exact Calls.regrown_of (HA9.out _ (below_regrown _ _ _))))))); refine wpQuiet_nil ?_; intro _ hw'; obtain ⟨⟨nq, osq⟩, hw''⟩ := hw'; subst hw''; have hq := below_regrown wr nq osq; generalize Sort.grow (redrawn wr nq) osq = w1 at *
                have hbw : Below w.heap.size w w1 := hb.trans (hq.mono hb.size)
                go_wp2
                go_ret
                exact ⟨by rw [timersOk_not (by rw [HL.out]; exact hlt) (tStep_bad HE.out (by simp [tBase]; intro _ _; exact hne.out))]; rfl, hbw⟩
              · have hne : Hid (idxD (fun t => t.id == e.id) l = ((q + 1 : Nat) : Int)) := Classical.byContradiction fun h => hiv (hat.2 h)
                have hiv2 : iv < 0 := by omega
                clear hat
                go_wp2
                refine wp_region_quiet_below (by kernel_rfl) (by kernel_rfl) ?_; (repeat (first | go_big_quiet_step ((first | (go_at_call 57; exact Calls.regrown_of (HI9.out _)) | (go_at_call 51; exact Calls.regrown_of (HD9.out _)) | (go_at_call 58; exact Calls.regrown_of (HL9.out _)) | (go_at_call 59; exact Calls.regrown_of (HA9.out _ (below_regrown _ _ _))))) | quiet_step ((first | (go_at_call 57; exact Calls.regrown_of (HI9.out _)) | (go_at_call 51; exact Calls.regrown_of (HD9.out _)) | (go_at_call 58; exact Calls.regrown_of (HL9.out _)) | (go_at_call 59; exact Calls.regrown_of (HA9.out _ (below_regrown _ _ _))))))); refine wpQuiet_nil ?_; intro _ hw'; obtain ⟨⟨nq, osq⟩, hw''⟩ := hw'; subst hw''; have hq := below_regrown wr nq osq; generalize Sort.grow (redrawn wr nq) osq = w1 at *
                have hbw : Below w.heap.size w w1 := hb.trans (hq.mono hb.size)
                go_wp2
                go_roundw
                case rel => exact ⟨_, hlt, by go_num, hbw, fun j hj => by
                  rcases Nat.lt_succ_iff_lt_or_eq.1 hj with h5 | rfl
                  · exact hp.out j h5
                  · rw [tStep_succ HE.out HP.out]; simp [tBase, hid, hdu, hls]; exact hne.out⟩
                case measure => simp [intOf]; omega
    · go_wp2
      go_ret
      have hmn : m = n := by omega
      exact ⟨by rw [timersOk_of (by rw [HL.out]; exact hshort) (fun j hj => hp.out j (by rw [HL.out] at hj; omega))]; rfl, hb⟩
set_option maxRecDepth 100000 in
set_option maxHeartbeats 1600000 in
theorem timersOk_any (A : Option Addr) (n c lo hi : Nat) (l : List TimerD) (w : World) (h : Sl w lo hi 2 A n c (l.flatMap TimerD.ints)) :
    Calls Try.prog 33 #[.slice A n c] w (TBoolRes w (timersOk l)) := by
  have hn : n ≤ 9223372036854775807 := Nat.le_trans h.cap h.big
  have hl : l.length = n := h.count TimerD.ints_len (by omega)
  rcases Nat.lt_or_ge 16 n with hlong | hshort
  · rw [timersOk_long (by omega)]
    clear hl h
    go_enter Try.func33, Try.ntmps33
    go_wp2
    go_ret
    exact ⟨rfl, Below.refl _ _⟩
  have H := Lib.hid (h.fit (by omega))
  have HL := Lib.hid hl
  clear h hl
  go_enter Try.func33, Try.ntmps33
  go_wp2
  go_loopw [10] (fun i wr => ∃ m : Nat, m ≤ n ∧ i = .int .i64 m ∧ Below w.heap.size w wr ∧ Hid (∀ j, j < m → tStepOk l j = true)) (fun i _ => n - (intOf i).toNat)
  case atStart => exact ⟨0, Nat.zero_le _, rfl, Below.refl _ _, fun j hj => absurd hj (by omega)⟩
  case round =>
    obtain ⟨m, hm, rfl, hb, hp⟩ := hrel
    by_cases hlt : m < n
    · obtain ⟨g, off, e, rfl, _, hg, he, p0, p1⟩ := H.out.timer hlt
      have hg1 := Nat.lt_of_lt_of_le hg (Nat.min_le_right _ _)
      have HE := Lib.hid he
      clear he
      have r0 := (hb.cell (p := ⟨g, off + m * 2, none⟩) hg1).trans p0
      have r1 := (hb.cell (p := ⟨g, off + m * 2 + 1, none⟩) hg1).trans p1
      clear p0 p1
      have hgw : g < wr.heap.size := Nat.lt_of_lt_of_le hg1 hb.size
      have v0 : (wr.alloc (.cells #[.int .i64 e.id, .int .i64 e.due] 60)).cell? ⟨wr.heap.size, 0, none⟩ = some (.int .i64 e.id) := by simp
      have v1 : (wr.alloc (.cells #[.int .i64 e.id, .int .i64 e.due] 60)).cell? ⟨wr.heap.size, 1, none⟩ = some (.int .i64 e.due) := by simp
      have yw := hb.size
      cases hid : btw e.id 0 99 with
      | false =>
        have CI9 : ∀ W, Calls Try.prog 61 #[.int .i64 e.id, .int .i64 0, .int .i64 99] W fun x w' => x = .returned (.bool false) ∧ Below W.heap.size W w' := fun W => (between_any e.id 0 99 W).mono fun x w' ⟨h1, h2⟩ => ⟨by rw [h1, ← hid], by rw [← h2]; exact Below.refl _ _⟩
        have HI9 := Lib.hid CI9
        clear CI9
        go_wp2_with fail
        (with_reducible refine (HI9.out _).mono ?_); rintro _ x1 ⟨rfl, dx1⟩
        have yx1 := dx1.size
        (try simp only [World.heap_size_alloc, World.heap_size_drew] at yx1)
        have v0x1 := (dx1.cell (p := ⟨wr.heap.size, 0, none⟩) (show wr.heap.size < _ by (try simp only [World.heap_size_alloc, World.heap_size_drew, World.heap_size_setCell]); omega)).trans v0
        have v1x1 := (dx1.cell (p := ⟨wr.heap.size, 1, none⟩) (show wr.heap.size < _ by (try simp only [World.heap_size_alloc, World.heap_size_drew, World.heap_size_setCell]); omega)).trans v1
        go_wp2_with fail
        have hbw : Below w.heap.size w x1 := by (repeat' (first | with_reducible exact Below.refl _ _ | with_reducible assumption | with_reducible refine Below.drew ?_ | with_reducible refine Below.alloc ?_ ?_ _ | with_reducible refine Below.setCell ?_ ?_ _ | with_reducible refine Below.trans ?_ (Below.mono (by assumption) ?_) | ((try simp only [World.heap_size_alloc, World.heap_size_drew, World.heap_size_setCell]); omega)))
        go_ret
        exact ⟨by rw [timersOk_not (by rw [HL.out]; exact hlt) (tStep_bad HE.out (by simp [tBase, hid]))]; rfl, hbw⟩
      | true =>
        have CI9 : ∀ W, Calls Try.prog 61 #[.int .i64 e.id, .int .i64 0, .int .i64 99] W fun x w' => x = .returned (.bool true) ∧ Below W.heap.size W w' := fun W => (between_any e.id 0 99 W).mono fun x w' ⟨h1, h2⟩ => ⟨by rw [h1, ← hid], by rw [← h2]; exact Below.refl _ _⟩
        have HI9 := Lib.hid CI9
        clear CI9
        cases hdu : btw e.due 0 1000000 with
        | false =>
          have CD9 : ∀ W, Calls Try.prog 54 #[.int .i64 e.due] W fun x w' => x = .returned (.bool false) ∧ Below W.heap.size W w' := fun W => (timeOk_any e.due W).mono fun x w' ⟨h1, h2⟩ => ⟨by rw [h1, ← hdu], by rw [← h2]; exact Below.refl _ _⟩
          have HD9 := Lib.hid CD9
          clear CD9
          go_wp2_with fail
          (with_reducible refine (HI9.out _).mono ?_); rintro _ x1 ⟨rfl, dx1⟩
          have yx1 := dx1.size
          (try simp only [World.heap_size_alloc, World.heap_size_drew] at yx1)
          have v0x1 := (dx1.cell (p := ⟨wr.heap.size, 0, none⟩) (show wr.heap.size < _ by (try simp only [World.heap_size_alloc, World.heap_size_drew, World.heap_size_setCell]); omega)).trans v0
          have v1x1 := (dx1.cell (p := ⟨wr.heap.size, 1, none⟩) (show wr.heap.size < _ by (try simp only [World.heap_size_alloc, World.heap_size_drew, World.heap_size_setCell]); omega)).trans v1
          go_wp2_with fail
          (with_reducible refine (HD9.out _).mono ?_); rintro _ x2 ⟨rfl, dx2⟩
          have yx2 := dx2.size
          (try simp only [World.heap_size_alloc, World.heap_size_drew] at yx2)
          go_wp2_with fail
          have hbw : Below w.heap.size w x2 := by (repeat' (first | with_reducible exact Below.refl _ _ | with_reducible assumption | with_reducible refine Below.drew ?_ | with_reducible refine Below.alloc ?_ ?_ _ | with_reducible refine Below.setCell ?_ ?_ _ | with_reducible refine Below.trans ?_ (Below.mono (by assumption) ?_) | ((try simp only [World.heap_size_alloc, World.heap_size_drew, World.heap_size_setCell]); omega)))
          go_ret
          exact ⟨by rw [timersOk_not (by rw [HL.out]; exact hlt) (tStep_bad HE.out (by simp [tBase, hdu]))]; rfl, hbw⟩
        | true =>
          have CD9 : ∀ W, Calls Try.prog 54 #[.int .i64 e.due] W fun x w' => x = .returned (.bool true) ∧ Below W.heap.size W w' := fun W => (timeOk_any e.due W).mono fun x w' ⟨h1, h2⟩ => ⟨by rw [h1, ← hdu], by rw [← h2]; exact Below.refl _ _⟩
          have HD9 := Lib.hid CD9
          clear CD9
          generalize hiv : idxD (fun t => t.id == e.id) l = iv
          have HA9 : Hid (∀ W, Below w.heap.size w W → Calls Try.prog 62 #[.slice (some ⟨g, off, none⟩) n c, .int .i64 e.id, .func (.func 63) #[] #[]] W fun x w' => x = .returned (.int .i64 iv) ∧ Below W.heap.size W w') := fun W hW => by
            rw [← hiv]
            exact placeBy_any _ _ _ _ _ l e.id W (H.out.below hW (Nat.min_le_right _ _))
          by_cases him : iv = (m : Int)
          · have him1 : (iv != (m : Int)) = false := by simp [him]
            have HIM := Lib.hid him
            clear him
            rcases Nat.eq_zero_or_pos m with rfl | hpos
            · simp only [Nat.zero_mul, Nat.add_zero] at r0 r1
              have hz : decide ((0 : Int) < ((0 : Nat) : Int)) = false := by simp
              go_wp2_with fail
              (with_reducible refine (HI9.out _).mono ?_); rintro _ x1 ⟨rfl, dx1⟩
              have yx1 := dx1.size
              (try simp only [World.heap_size_alloc, World.heap_size_drew] at yx1)
              have v0x1 := (dx1.cell (p := ⟨wr.heap.size, 0, none⟩) (show wr.heap.size < _ by (try simp only [World.heap_size_alloc, World.heap_size_drew, World.heap_size_setCell]); omega)).trans v0
              have v1x1 := (dx1.cell (p := ⟨wr.heap.size, 1, none⟩) (show wr.heap.size < _ by (try simp only [World.heap_size_alloc, World.heap_size_drew, World.heap_size_setCell]); omega)).trans v1
              go_wp2_with fail
              (with_reducible refine (HD9.out _).mono ?_); rintro _ x2 ⟨rfl, dx2⟩
              have yx2 := dx2.size
              (try simp only [World.heap_size_alloc, World.heap_size_drew] at yx2)
              have v0x2 := (dx2.cell (p := ⟨wr.heap.size, 0, none⟩) (show wr.heap.size < _ by (try simp only [World.heap_size_alloc, World.heap_size_drew, World.heap_size_setCell]); omega)).trans v0x1
              have v1x2 := (dx2.cell (p := ⟨wr.heap.size, 1, none⟩) (show wr.heap.size < _ by (try simp only [World.heap_size_alloc, World.heap_size_drew, World.heap_size_setCell]); omega)).trans v1x1
              have hx2 : Below w.heap.size w x2 := by (repeat' (first | with_reducible exact Below.refl _ _ | with_reducible assumption | with_reducible refine Below.drew ?_ | with_reducible refine Below.alloc ?_ ?_ _ | with_reducible refine Below.setCell ?_ ?_ _ | with_reducible refine Below.trans ?_ (Below.mono (by assumption) ?_) | ((try simp only [World.heap_size_alloc, World.heap_size_drew, World.heap_size_setCell]); omega)))
              go_wp2_with fail
              (with_reducible refine (HA9.out _ hx2).mono ?_); rintro _ x3 ⟨rfl, dx3⟩
              have yx3 := dx3.size
              (try simp only [World.heap_size_alloc, World.heap_size_drew] at yx3)
              have v0x3 := (dx3.cell (p := ⟨wr.heap.size, 0, none⟩) (show wr.heap.size < _ by (try simp only [World.heap_size_alloc, World.heap_size_drew, World.heap_size_setCell]); omega)).trans v0x2
              have v1x3 := (dx3.cell (p := ⟨wr.heap.size, 1, none⟩) (show wr.heap.size < _ by (try simp only [World.heap_size_alloc, World.heap_size_drew, World.heap_size_setCell]); omega)).trans v1x2
              have hx3 : Below w.heap.size w x3 := by (repeat' (first | with_reducible exact Below.refl _ _ | with_reducible assumption | with_reducible refine Below.drew ?_ | with_reducible refine Below.alloc ?_ ?_ _ | with_reducible refine Below.setCell ?_ ?_ _ | with_reducible refine Below.trans ?_ (Below.mono (by assumption) ?_) | ((try simp only [World.heap_size_alloc, World.heap_size_drew, World.heap_size_setCell]); omega)))
              have fv0x3 := fun d os => cell_regrown v0x3 d os
              have fv1x3 := fun d os => cell_regrown v1x3 d os
              go_wp2
              refine wp_region_quiet_below (by kernel_rfl) (by kernel_rfl) ?_; (repeat (first | go_big_quiet_step ((go_at_call 64; exact Calls.regrown_of (HL9.out _))) | quiet_step ((go_at_call 64; exact Calls.regrown_of (HL9.out _))))); refine wpQuiet_nil ?_; intro _ hw'; obtain ⟨⟨nq, osq⟩, hw''⟩ := hw'; subst hw''; have hq := below_regrown x3 nq osq; generalize Sort.grow (redrawn x3 nq) osq = x4 at *
              have hbw : Below w.heap.size w x4 := hx3.trans (hq.mono hx3.size)
              go_wp2
              go_roundw
              case rel => exact ⟨_, hlt, by go_num, hbw, fun j hj => by
                rcases Nat.lt_succ_iff_lt_or_eq.1 hj with h5 | rfl
                · exact hp.out j h5
                · rw [tStep_zero HE.out]; simp only [tBase, hid, hdu, hiv, HIM.out]; simp⟩
              case measure => simp [intOf]; omega
            · obtain ⟨q, rfl⟩ : ∃ q, m = q + 1 := ⟨m - 1, by omega⟩
              obtain ⟨g2, off2, p, hA2, _, _, hep, s0, s1⟩ := H.out.timer (show q < n by omega)
              injection hA2 with hA2
              injection hA2 with hA3 hA4
              subst hA3
              subst hA4
              have u0 := (hb.cell (p := ⟨g, off + q * 2, none⟩) hg1).trans s0
              have u1 := (hb.cell (p := ⟨g, off + q * 2 + 1, none⟩) hg1).trans s1
              have HP := Lib.hid hep
              clear hep
              have hi1 : (0 : Int) < ((q : Nat) : Int) + 1 := by omega
              have hi2 : ((q : Nat) : Int) < (n : Int) := by omega
              have hi3 : ((q : Nat) : Int) + 1 < (n : Int) := by omega
              have hi4 : (0 : Int) ≤ ((q : Nat) : Int) := by omega
              have hw1 : IntKind.i64.wrap (((q : Nat) : Int) + 1 - 1) = (q : Int) := by rw [IntWalk.i64_in _ (by omega)]; omega
              have hw3 : IntKind.i64.wrap ((q : Nat) : Int) = (q : Int) := IntWalk.i64_in _ (by omega)
              cases hls : timerLess p e with
              | false =>
                obtain ⟨ov, hov, ho0⟩ := timerOrd_ge hls
                have CL : ∀ W, Calls Try.prog 64 #[.agg #[.int .i64 p.id, .int .i64 p.due], .agg #[.int .i64 e.id, .int .i64 e.due]] W fun x w' => x = .returned (.int .i64 ov) ∧ Below W.heap.size W w' := fun W => by
                  have h7 := timerOrder_any p.id p.due e.id e.due W
                  rw [show timerOrd ⟨p.id, p.due⟩ ⟨e.id, e.due⟩ = ov from hov] at h7
                  exact h7
                have HL9 := Lib.hid CL
                clear CL
                go_wp2_with fail
                (with_reducible refine (HI9.out _).mono ?_); rintro _ x1 ⟨rfl, dx1⟩
                have yx1 := dx1.size
                (try simp only [World.heap_size_alloc, World.heap_size_drew] at yx1)
                have v0x1 := (dx1.cell (p := ⟨wr.heap.size, 0, none⟩) (show wr.heap.size < _ by (try simp only [World.heap_size_alloc, World.heap_size_drew, World.heap_size_setCell]); omega)).trans v0
                have v1x1 := (dx1.cell (p := ⟨wr.heap.size, 1, none⟩) (show wr.heap.size < _ by (try simp only [World.heap_size_alloc, World.heap_size_drew, World.heap_size_setCell]); omega)).trans v1
                go_wp2_with fail
                (with_reducible refine (HD9.out _).mono ?_); rintro _ x2 ⟨rfl, dx2⟩
                have yx2 := dx2.size
                (try simp only [World.heap_size_alloc, World.heap_size_drew] at yx2)
                have v0x2 := (dx2.cell (p := ⟨wr.heap.size, 0, none⟩) (show wr.heap.size < _ by (try simp only [World.heap_size_alloc, World.heap_size_drew, World.heap_size_setCell]); omega)).trans v0x1
                have v1x2 := (dx2.cell (p := ⟨wr.heap.size, 1, none⟩) (show wr.heap.size < _ by (try simp only [World.heap_size_alloc, World.heap_size_drew, World.heap_size_setCell]); omega)).trans v1x1
                have hx2 : Below w.heap.size w x2 := by (repeat' (first | with_reducible exact Below.refl _ _ | with_reducible assumption | with_reducible refine Below.drew ?_ | with_reducible refine Below.alloc ?_ ?_ _ | with_reducible refine Below.setCell ?_ ?_ _ | with_reducible refine Below.trans ?_ (Below.mono (by assumption) ?_) | ((try simp only [World.heap_size_alloc, World.heap_size_drew, World.heap_size_setCell]); omega)))
                go_wp2_with fail
                (with_reducible refine (HA9.out _ hx2).mono ?_); rintro _ x3 ⟨rfl, dx3⟩
                have yx3 := dx3.size
                (try simp only [World.heap_size_alloc, World.heap_size_drew] at yx3)
                have v0x3 := (dx3.cell (p := ⟨wr.heap.size, 0, none⟩) (show wr.heap.size < _ by (try simp only [World.heap_size_alloc, World.heap_size_drew, World.heap_size_setCell]); omega)).trans v0x2
                have v1x3 := (dx3.cell (p := ⟨wr.heap.size, 1, none⟩) (show wr.heap.size < _ by (try simp only [World.heap_size_alloc, World.heap_size_drew, World.heap_size_setCell]); omega)).trans v1x2
                have hx3 : Below w.heap.size w x3 := by (repeat' (first | with_reducible exact Below.refl _ _ | with_reducible assumption | with_reducible refine Below.drew ?_ | with_reducible refine Below.alloc ?_ ?_ _ | with_reducible refine Below.setCell ?_ ?_ _ | with_reducible refine Below.trans ?_ (Below.mono (by assumption) ?_) | ((try simp only [World.heap_size_alloc, World.heap_size_drew, World.heap_size_setCell]); omega)))
                have u0x3 := (hx3.cell (p := ⟨g, off + q * 2, none⟩) hg1).trans s0
                have u1x3 := (hx3.cell (p := ⟨g, off + q * 2 + 1, none⟩) hg1).trans s1
                have fv0x3 := fun d os => cell_regrown v0x3 d os
                have fv1x3 := fun d os => cell_regrown v1x3 d os
                have fu0x3 := fun d os => cell_regrown u0x3 d os
                have fu1x3 := fun d os => cell_regrown u1x3 d os
                go_wp2
                refine wp_region_quiet_below (by kernel_rfl) (by kernel_rfl) ?_; (repeat (first | go_big_quiet_step ((go_at_call 64; exact Calls.regrown_of (HL9.out _))) | quiet_step ((go_at_call 64; exact Calls.regrown_of (HL9.out _))))); refine wpQuiet_nil ?_; intro _ hw'; obtain ⟨⟨nq, osq⟩, hw''⟩ := hw'; subst hw''; have hq := below_regrown x3 nq osq; generalize Sort.grow (redrawn x3 nq) osq = x4 at *
                have hbw : Below w.heap.size w x4 := hx3.trans (hq.mono hx3.size)
                go_wp2
                go_ret
                exact ⟨by rw [timersOk_not (by rw [HL.out]; exact hlt) (tStep_less HE.out HP.out hls)]; rfl, hbw⟩
              | true =>
                have hov : timerOrd p e = -1 := by simp [timerOrd, hls]
                have CL : ∀ W, Calls Try.prog 64 #[.agg #[.int .i64 p.id, .int .i64 p.due], .agg #[.int .i64 e.id, .int .i64 e.due]] W fun x w' => x = .returned (.int .i64 (-1)) ∧ Below W.heap.size W w' := fun W => by
                  have h7 := timerOrder_any p.id p.due e.id e.due W
                  rw [show timerOrd ⟨p.id, p.due⟩ ⟨e.id, e.due⟩ = (-1) from hov] at h7
                  exact h7
                have HL9 := Lib.hid CL
                clear CL
                go_wp2_with fail
                (with_reducible refine (HI9.out _).mono ?_); rintro _ x1 ⟨rfl, dx1⟩
                have yx1 := dx1.size
                (try simp only [World.heap_size_alloc, World.heap_size_drew] at yx1)
                have v0x1 := (dx1.cell (p := ⟨wr.heap.size, 0, none⟩) (show wr.heap.size < _ by (try simp only [World.heap_size_alloc, World.heap_size_drew, World.heap_size_setCell]); omega)).trans v0
                have v1x1 := (dx1.cell (p := ⟨wr.heap.size, 1, none⟩) (show wr.heap.size < _ by (try simp only [World.heap_size_alloc, World.heap_size_drew, World.heap_size_setCell]); omega)).trans v1
                go_wp2_with fail
                (with_reducible refine (HD9.out _).mono ?_); rintro _ x2 ⟨rfl, dx2⟩
                have yx2 := dx2.size
                (try simp only [World.heap_size_alloc, World.heap_size_drew] at yx2)
                have v0x2 := (dx2.cell (p := ⟨wr.heap.size, 0, none⟩) (show wr.heap.size < _ by (try simp only [World.heap_size_alloc, World.heap_size_drew, World.heap_size_setCell]); omega)).trans v0x1
                have v1x2 := (dx2.cell (p := ⟨wr.heap.size, 1, none⟩) (show wr.heap.size < _ by (try simp only [World.heap_size_alloc, World.heap_size_drew, World.heap_size_setCell]); omega)).trans v1x1
                have hx2 : Below w.heap.size w x2 := by (repeat' (first | with_reducible exact Below.refl _ _ | with_reducible assumption | with_reducible refine Below.drew ?_ | with_reducible refine Below.alloc ?_ ?_ _ | with_reducible refine Below.setCell ?_ ?_ _ | with_reducible refine Below.trans ?_ (Below.mono (by assumption) ?_) | ((try simp only [World.heap_size_alloc, World.heap_size_drew, World.heap_size_setCell]); omega)))
                go_wp2_with fail
                (with_reducible refine (HA9.out _ hx2).mono ?_); rintro _ x3 ⟨rfl, dx3⟩
                have yx3 := dx3.size
                (try simp only [World.heap_size_alloc, World.heap_size_drew] at yx3)
                have v0x3 := (dx3.cell (p := ⟨wr.heap.size, 0, none⟩) (show wr.heap.size < _ by (try simp only [World.heap_size_alloc, World.heap_size_drew, World.heap_size_setCell]); omega)).trans v0x2
                have v1x3 := (dx3.cell (p := ⟨wr.heap.size, 1, none⟩) (show wr.heap.size < _ by (try simp only [World.heap_size_alloc, World.heap_size_drew, World.heap_size_setCell]); omega)).trans v1x2
                have hx3 : Below w.heap.size w x3 := by (repeat' (first | with_reducible exact Below.refl _ _ | with_reducible assumption | with_reducible refine Below.drew ?_ | with_reducible refine Below.alloc ?_ ?_ _ | with_reducible refine Below.setCell ?_ ?_ _ | with_reducible refine Below.trans ?_ (Below.mono (by assumption) ?_) | ((try simp only [World.heap_size_alloc, World.heap_size_drew, World.heap_size_setCell]); omega)))
                have u0x3 := (hx3.cell (p := ⟨g, off + q * 2, none⟩) hg1).trans s0
                have u1x3 := (hx3.cell (p := ⟨g, off + q * 2 + 1, none⟩) hg1).trans s1
                have fv0x3 := fun d os => cell_regrown v0x3 d os
                have fv1x3 := fun d os => cell_regrown v1x3 d os
                have fu0x3 := fun d os => cell_regrown u0x3 d os
                have fu1x3 := fun d os => cell_regrown u1x3 d os
                go_wp2
                refine wp_region_quiet_below (by kernel_rfl) (by kernel_rfl) ?_; (repeat (first | go_big_quiet_step ((go_at_call 64; exact Calls.regrown_of (HL9.out _))) | quiet_step ((go_at_call 64; exact Calls.regrown_of (HL9.out _))))); refine wpQuiet_nil ?_; intro _ hw'; obtain ⟨⟨nq, osq⟩, hw''⟩ := hw'; subst hw''; have hq := below_regrown x3 nq osq; generalize Sort.grow (redrawn x3 nq) osq = x4 at *
                have hbw : Below w.heap.size w x4 := hx3.trans (hq.mono hx3.size)
                go_wp2
                go_roundw
                case rel => exact ⟨_, hlt, by go_num, hbw, fun j hj => by
                  rcases Nat.lt_succ_iff_lt_or_eq.1 hj with h5 | rfl
                  · exact hp.out j h5
                  · rw [tStep_succ HE.out HP.out]; simp only [tBase, hid, hdu, hiv, HIM.out, hls]; simp⟩
                case measure => simp [intOf]; omega
          · have him1 : (iv != (m : Int)) = true := by simpa using him
            go_wp2_with fail
            (with_reducible refine (HI9.out _).mono ?_); rintro _ x1 ⟨rfl, dx1⟩
            have yx1 := dx1.size
            (try simp only [World.heap_size_alloc, World.heap_size_drew] at yx1)
            have v0x1 := (dx1.cell (p := ⟨wr.heap.size, 0, none⟩) (show wr.heap.size < _ by (try simp only [World.heap_size_alloc, World.heap_size_drew, World.heap_size_setCell]); omega)).trans v0
            have v1x1 := (dx1.cell (p := ⟨wr.heap.size, 1, none⟩) (show wr.heap.size < _ by (try simp only [World.heap_size_alloc, World.heap_size_drew, World.heap_size_setCell]); omega)).trans v1
            go_wp2_with fail
            (with_reducible refine (HD9.out _).mono ?_); rintro _ x2 ⟨rfl, dx2⟩
            have yx2 := dx2.size
            (try simp only [World.heap_size_alloc, World.heap_size_drew] at yx2)
            have v0x2 := (dx2.cell (p := ⟨wr.heap.size, 0, none⟩) (show wr.heap.size < _ by (try simp only [World.heap_size_alloc, World.heap_size_drew, World.heap_size_setCell]); omega)).trans v0x1
            have v1x2 := (dx2.cell (p := ⟨wr.heap.size, 1, none⟩) (show wr.heap.size < _ by (try simp only [World.heap_size_alloc, World.heap_size_drew, World.heap_size_setCell]); omega)).trans v1x1
            have hx2 : Below w.heap.size w x2 := by (repeat' (first | with_reducible exact Below.refl _ _ | with_reducible assumption | with_reducible refine Below.drew ?_ | with_reducible refine Below.alloc ?_ ?_ _ | with_reducible refine Below.setCell ?_ ?_ _ | with_reducible refine Below.trans ?_ (Below.mono (by assumption) ?_) | ((try simp only [World.heap_size_alloc, World.heap_size_drew, World.heap_size_setCell]); omega)))
            go_wp2_with fail
            (with_reducible refine (HA9.out _ hx2).mono ?_); rintro _ x3 ⟨rfl, dx3⟩
            have yx3 := dx3.size
            (try simp only [World.heap_size_alloc, World.heap_size_drew] at yx3)
            have v0x3 := (dx3.cell (p := ⟨wr.heap.size, 0, none⟩) (show wr.heap.size < _ by (try simp only [World.heap_size_alloc, World.heap_size_drew, World.heap_size_setCell]); omega)).trans v0x2
            have v1x3 := (dx3.cell (p := ⟨wr.heap.size, 1, none⟩) (show wr.heap.size < _ by (try simp only [World.heap_size_alloc, World.heap_size_drew, World.heap_size_setCell]); omega)).trans v1x2
            have hx3 : Below w.heap.size w x3 := by (repeat' (first | with_reducible exact Below.refl _ _ | with_reducible assumption | with_reducible refine Below.drew ?_ | with_reducible refine Below.alloc ?_ ?_ _ | with_reducible refine Below.setCell ?_ ?_ _ | with_reducible refine Below.trans ?_ (Below.mono (by assumption) ?_) | ((try simp only [World.heap_size_alloc, World.heap_size_drew, World.heap_size_setCell]); omega)))
            go_wp2_with fail
            have hbw := hx3
            go_ret
            exact ⟨by rw [timersOk_not (by rw [HL.out]; exact hlt) (tStep_bad HE.out (by simp only [tBase, hiv]; simp [him]))]; rfl, hbw⟩
    · go_wp2
      go_ret
      have hmn : m = n := by omega
      exact ⟨by rw [timersOk_of (by rw [HL.out]; exact hshort) (fun j hj => hp.out j (by rw [HL.out] at hj; omega))]; rfl, hb⟩

end Go.Proofs.Ytkianeknbfahgaa
