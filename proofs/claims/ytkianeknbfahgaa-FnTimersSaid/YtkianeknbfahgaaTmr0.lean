/- Timers by id: a list of timers and a table of what is due. No conditions. -/
import Derived.Test.YtkianeknbfahgaaTim7
set_option linter.unusedSimpArgs false
set_option linter.unusedVariables false
namespace Go.Proofs.Ytkianeknbfahgaa
open Go.RowKit

theorem timersOk_iff {l : List TimerD} : timersOk l = true ↔ l.length ≤ 16 ∧ (∀ t ∈ l, btw t.id 0 99 = true ∧ btw t.due 0 1000000 = true) ∧ l.Pairwise (fun a b => timerLess a b = true) ∧ l.Pairwise (fun a b => a.id ≠ b.id) := by
  constructor
  · intro h
    refine ⟨timersOk_len h, fun t ht => ?_, timersOk_pairwise h, ?_⟩
    · obtain ⟨j, hj, rfl⟩ := List.getElem_of_mem ht
      have h1 := timersOk_step h (List.getElem?_eq_getElem hj)
      simp only [tBase, Bool.and_eq_true] at h1
      exact ⟨h1.1.1, h1.1.2⟩
    · rw [List.pairwise_iff_getElem]
      intro i j hi hj hij he
      have h1 := timersOk_step h (List.getElem?_eq_getElem hj)
      simp only [tBase, Bool.and_eq_true, decide_eq_true_eq] at h1
      have h2 := h1.2
      unfold idxD at h2
      split at h2
      · have h3 : l.findIdx (fun t => t.id == l[j].id) = j := by omega
        have := List.not_of_lt_findIdx (p := fun t => t.id == l[j].id) (xs := l) (i := i) (by omega)
        simp [he] at this
      · omega
  · rintro ⟨h1, h2, h3, h4⟩
    rw [List.pairwise_iff_getElem] at h3 h4
    refine timersOk_of h1 fun j hj => ?_
    have hb : tBase l j l[j] = true := by
      have h5 := h2 l[j] (List.getElem_mem hj)
      simp only [tBase, Bool.and_eq_true, decide_eq_true_eq]
      refine ⟨h5, idxD_hit (List.getElem?_eq_getElem hj) (by simp) fun i y hi hy => ?_⟩
      obtain ⟨hi2, rfl⟩ := List.getElem?_eq_some_iff.1 hy
      have := h4 i j hi2 hj hi
      simpa using this
    cases j with
    | zero => rw [tStep_zero (List.getElem?_eq_getElem hj)]; exact hb
    | succ q => rw [tStep_succ (List.getElem?_eq_getElem hj) (List.getElem?_eq_getElem (show q < l.length by omega)), hb, h3 q (q + 1) (by omega) hj (by omega)]; rfl

/-- The table dl says of each id when it is due. -/
structure TmR (l : List TimerD) (dl : List Int) : Prop where
  ok : timersOk l = true
  ten : dl.length = 10
  bd : ∀ t ∈ l, 0 ≤ t.id ∧ t.id < 10 ∧ 0 ≤ t.due ∧ t.due < 40
  mem : ∀ (i : Nat) (d : Int), 0 ≤ d → ((⟨(i : Int), d⟩ : TimerD) ∈ l ↔ dl[i]? = some d)
theorem TmR.start {dl : List Int} (h : dl.length = 10) (h1 : ∀ j, j < 10 → dl[j]? = some (-1)) : TmR [] dl := by
  refine ⟨rfl, h, fun t ht => by simp at ht, fun i d hd => ?_⟩
  simp only [List.not_mem_nil, false_iff]
  intro h2
  have hi := (List.getElem?_eq_some_iff.1 h2).1
  rw [h1 i (by omega)] at h2
  injection h2 with h2
  omega
theorem TmR.has {l : List TimerD} {dl : List Int} (h : TmR l dl) {k : Nat} {d : Int} (hd : dl[k]? = some d) : decide (0 ≤ idxD (fun t => t.id == (k : Int)) l) = decide (0 ≤ d) := by
  by_cases h0 : 0 ≤ d
  · have hm := (h.mem k d h0).2 hd
    have hlt : l.findIdx (fun t => t.id == (k : Int)) < l.length := List.findIdx_lt_length_of_exists ⟨_, hm, by simp⟩
    have : 0 ≤ idxD (fun t => t.id == (k : Int)) l := by unfold idxD; rw [if_pos hlt]; omega
    simp [h0, this]
  · have : ¬ 0 ≤ idxD (fun t => t.id == (k : Int)) l := fun hx => by
      obtain ⟨q, hq⟩ := Int.eq_ofNat_of_zero_le hx
      obtain ⟨t, ht, hp⟩ := idxD_at hq
      have htl : t ∈ l := List.mem_of_getElem? ht
      have hb := h.bd t htl
      have hid : t.id = (k : Int) := by simpa using hp
      have := (h.mem k t.due hb.2.2.1).1 (by rw [← hid]; exact htl)
      rw [hd] at this
      injection this with this
      omega
    simp [h0, this]
theorem without_ok {l : List TimerD} (h : timersOk l = true) (q : Int) : timersOk (without l q) = true := by
  rw [timersOk_iff] at h ⊢
  exact ⟨Nat.le_trans (List.length_filter_le _ _) h.1, fun t ht => h.2.1 t (List.mem_filter.1 ht).1, h.2.2.1.filter _, h.2.2.2.filter _⟩
theorem TmR.off {l : List TimerD} {dl : List Int} (h : TmR l dl) (k : Nat) : TmR (without l k) (dl.set k (-1)) := by
  refine ⟨without_ok h.ok _, by rw [List.length_set]; exact h.ten, fun t ht => h.bd t (List.mem_filter.1 ht).1, fun i d hd => ?_⟩
  rw [without, List.mem_filter, h.mem i d hd, List.getElem?_set]
  by_cases hik : k = i
  · subst hik
    simp
    intro _ h1
    omega
  · have : ¬ i = k := fun e => hik e.symm
    simp [hik, this]
    intro _
    omega
theorem TmR.put {l : List TimerD} {dl : List Int} (h : TmR l dl) {k : Nat} (hk : k < 10) {d : Int} (h0 : 0 ≤ d) (h1 : d < 40) (hl : l.length ≤ 15) : TmR (insT (without l k) ⟨k, d⟩) (dl.set k d) := by
  have hw := (timersOk_iff.1 (without_ok h.ok (k : Int)))
  have hne : ∀ t ∈ without l (k : Int), t.id ≠ (k : Int) := fun t ht => by
    have := (List.mem_filter.1 ht).2
    simpa using this
  have hmem : ∀ t, t ∈ insT (without l (k : Int)) ⟨k, d⟩ ↔ t ∈ without l (k : Int) ∨ t = ⟨k, d⟩ := fun t => by
    rw [(insT_perm _ _).mem_iff, List.mem_append, List.mem_singleton]
  refine ⟨timersOk_iff.2 ⟨?_, fun t ht => ?_, insT_pairwise hw.2.2.1 (fun t ht => hne t ht), ?_⟩, by rw [List.length_set]; exact h.ten, fun t ht => ?_, fun i e he => ?_⟩
  · rw [insT_len]
    have := List.length_filter_le (fun t => t.id != (k : Int)) l
    unfold without
    omega
  · rcases (hmem t).1 ht with ht | rfl
    · exact hw.2.1 t ht
    · simp [btw]
      omega
  · have hp : (without l (k : Int) ++ [(⟨k, d⟩ : TimerD)]).Pairwise (fun a b => a.id ≠ b.id) := by
      rw [List.pairwise_append]
      refine ⟨hw.2.2.2, by simp, fun a ha b hb => ?_⟩
      rw [List.mem_singleton] at hb
      subst hb
      exact hne a ha
    exact hp.perm (insT_perm _ _).symm fun {a b} hab e => hab e.symm
  · rcases (hmem t).1 ht with ht | rfl
    · exact h.bd t (List.mem_filter.1 ht).1
    · simp
      omega
  · rw [hmem, without, List.mem_filter, h.mem i e he, List.getElem?_set]
    by_cases hik : k = i
    · subst hik
      have : k < dl.length := by rw [h.ten]; exact hk
      simp [this]
      exact ⟨fun e => e.symm, fun e => e.symm⟩
    · have h9 : ¬ i = k := fun e => hik e.symm
      have h10 : ¬ (i : Int) = (k : Int) := by omega
      simp [hik, h9, h10]
theorem put_len {l : List TimerD} {k : Int} {x : TimerD} : (insT (without l k) x).length ≤ l.length + 1 := by
  rw [insT_len]
  have := List.length_filter_le (fun t => t.id != k) l
  unfold without
  omega

/-- How many of those below id k are due. -/
def cntT (l : List TimerD) (N : Int) (k : Nat) : Nat := l.countP (fun t => decide (t.due ≤ N) && decide (t.id < (k : Int)))
theorem count_one {l : List TimerD} (hp : l.Pairwise (fun a b => a.id ≠ b.id)) (r : TimerD → Bool) (k : Int) : (∀ t ∈ l, t.id = k → r t = false) ∧ l.countP (fun t => r t && t.id == k) = 0 ∨ (∃ t ∈ l, t.id = k ∧ r t = true) ∧ l.countP (fun t => r t && t.id == k) = 1 := by
  induction l with
  | nil => exact .inl ⟨fun t ht => by simp at ht, rfl⟩
  | cons x xs ih =>
    rw [List.pairwise_cons] at hp
    rw [List.countP_cons]
    by_cases hx : x.id = k
    · have h0 : xs.countP (fun t => r t && t.id == k) = 0 := by
        rw [List.countP_eq_zero]
        intro t ht
        have := hp.1 t ht
        have h9 : ¬ t.id = k := fun e => this (hx.trans e.symm)
        simp [h9]
      rw [h0]
      cases hr : r x with
      | true => exact .inr ⟨⟨x, by simp, hx, hr⟩, by simp [hx]⟩
      | false =>
        refine .inl ⟨fun t ht he => ?_, by simp⟩
        rcases List.mem_cons.1 ht with rfl | ht
        · exact hr
        · exact absurd (hx.trans he.symm) (hp.1 t ht)
    · have h9 : (r x && x.id == k) = false := by simp [hx]
      rw [h9]
      rcases ih hp.2 with ⟨h1, h2⟩ | ⟨⟨t, ht, h1⟩, h2⟩
      · exact .inl ⟨fun t ht he => by
          rcases List.mem_cons.1 ht with rfl | ht
          · exact absurd he hx
          · exact h1 t ht he, by simpa using h2⟩
      · exact .inr ⟨⟨t, by simp [ht], h1⟩, by simpa using h2⟩
theorem countP_split (l : List TimerD) (N : Int) (k : Nat) : cntT l N (k + 1) = cntT l N k + l.countP (fun t => decide (t.due ≤ N) && t.id == (k : Int)) := by
  unfold cntT
  induction l with
  | nil => rfl
  | cons x xs ih =>
    rw [List.countP_cons, List.countP_cons, List.countP_cons, ih]
    by_cases h1 : x.due ≤ N
    · rcases Int.lt_trichotomy x.id (k : Int) with h2 | h2 | h2
      · have h3 : x.id < ((k + 1 : Nat) : Int) := by omega
        have h4 : ¬ x.id = (k : Int) := by omega
        have h6 : x.id < (k : Int) + 1 := by omega
        simp [h1, h2, h4, h6]
        omega
      · have h3 : x.id < ((k + 1 : Nat) : Int) := by omega
        have h5 : ¬ x.id < (k : Int) := by omega
        have a0 : decide (x.due ≤ N) = true := decide_eq_true h1
        have a1 : decide (x.id < ((k + 1 : Nat) : Int)) = true := decide_eq_true h3
        have a2 : decide (x.id < (k : Int)) = false := decide_eq_false h5
        have a3 : (x.id == (k : Int)) = true := by simp [h2]
        rw [a0, a1, a2, a3]
        simp
        omega
      · have h3 : ¬ x.id < ((k + 1 : Nat) : Int) := by omega
        have h4 : ¬ x.id = (k : Int) := by omega
        have h5 : ¬ x.id < (k : Int) := by omega
        have h6 : ¬ x.id < (k : Int) + 1 := by omega
        simp [h1, h4, h5, h6]
    · simp [h1]
theorem cnt_step {l : List TimerD} {dl : List Int} (h : TmR l dl) {N : Int} {k : Nat} {d : Int} (hd : dl[k]? = some d) : cntT l N (k + 1) = if 0 ≤ d ∧ d ≤ N then cntT l N k + 1 else cntT l N k := by
  rw [countP_split]
  have hp := (timersOk_iff.1 h.ok).2.2.2
  rcases count_one hp (fun t => decide (t.due ≤ N)) (k : Int) with ⟨h1, h2⟩ | ⟨⟨t, ht, he, h1⟩, h2⟩
  · rw [h2, if_neg]
    · rfl
    · rintro ⟨h3, h4⟩
      have := h1 _ ((h.mem k d h3).2 hd) rfl
      simp at this
      omega
  · rw [h2, if_pos]
    have hb := h.bd t ht
    have h3 := (h.mem k t.due hb.2.2.1).1 (by rw [← he]; exact ht)
    rw [hd] at h3
    injection h3 with h3
    simp at h1
    omega
theorem cnt_zero {l : List TimerD} {dl : List Int} (h : TmR l dl) (N : Int) : cntT l N 0 = 0 := by
  unfold cntT
  rw [List.countP_eq_zero]
  intro t ht
  have := h.bd t ht
  simp
  omega
theorem cnt_ten {l : List TimerD} {dl : List Int} (h : TmR l dl) (N : Int) : cntT l N 10 = (dueIn l N).length := by
  unfold cntT dueIn
  rw [if_pos h.ok, ← List.countP_eq_length_filter]
  apply List.countP_congr
  intro t ht
  have := h.bd t ht
  simp
  omega
/-- The first of those below id k. -/
def FstR (l : List TimerD) (k : Nat) (f : Int) : Prop := (f < 0 ∧ ∀ t ∈ l, ¬ t.id < (k : Int)) ∨ (0 ≤ f ∧ (∃ t ∈ l, t.id < (k : Int) ∧ t.due = f) ∧ ∀ t ∈ l, t.id < (k : Int) → f ≤ t.due)
theorem FstR.start {l : List TimerD} {dl : List Int} (h : TmR l dl) : FstR l 0 (-1) := .inl ⟨by omega, fun t ht => by have := h.bd t ht; simp; omega⟩
theorem FstR.step {l : List TimerD} {dl : List Int} (h : TmR l dl) {k : Nat} {f d : Int} (hf : FstR l k f) (hd : dl[k]? = some d) : FstR l (k + 1) (if 0 ≤ d ∧ (f < 0 ∨ d < f) then d else f) := by
  have hk : ∀ t ∈ l, t.id < ((k + 1 : Nat) : Int) → t.id < (k : Int) ∨ (0 ≤ d ∧ t.due = d) := fun t ht hlt => by
    by_cases he : t.id = (k : Int)
    · have hb := h.bd t ht
      have h3 := (h.mem k t.due hb.2.2.1).1 (by rw [← he]; exact ht)
      rw [hd] at h3
      injection h3 with h3
      exact .inr ⟨by omega, h3.symm⟩
    · exact .inl (by omega)
  by_cases hc : 0 ≤ d ∧ (f < 0 ∨ d < f)
  · rw [if_pos hc]
    refine .inr ⟨hc.1, ⟨_, (h.mem k d hc.1).2 hd, by simp; omega, rfl⟩, fun t ht hlt => ?_⟩
    rcases hk t ht hlt with h1 | h1
    · rcases hf with ⟨h2, h3⟩ | ⟨h2, _, h3⟩
      · exact absurd h1 (h3 t ht)
      · have := h3 t ht h1
        omega
    · omega
  · rw [if_neg hc]
    rcases hf with ⟨h2, h3⟩ | ⟨h2, ⟨s, hs, h4, h5⟩, h3⟩
    · refine .inl ⟨h2, fun t ht hlt => ?_⟩
      rcases hk t ht hlt with h1 | h1
      · exact h3 t ht h1
      · exact hc ⟨h1.1, .inl h2⟩
    · refine .inr ⟨h2, ⟨s, hs, by omega, h5⟩, fun t ht hlt => ?_⟩
      rcases hk t ht hlt with h1 | h1
      · exact h3 t ht h1
      · rw [h1.2]
        have : ¬ d < f := fun h6 => hc ⟨h1.1, .inr h6⟩
        omega
theorem FstR.last {l : List TimerD} {dl : List Int} (h : TmR l dl) {f : Int} (hf : FstR l 10 f) : (nextDue l).2 = decide (0 ≤ f) ∧ ((nextDue l).2 = true → (nextDue l).1 = f) := by
  unfold nextDue
  rw [if_pos h.ok]
  cases l with
  | nil =>
    rcases hf with ⟨h2, h3⟩ | ⟨h2, ⟨s, hs, _⟩, _⟩
    · simp
      omega
    · simp at hs
  | cons e es =>
    have he := h.bd e (by simp)
    rcases hf with ⟨h2, h3⟩ | ⟨h2, ⟨s, hs, h4, h5⟩, h3⟩
    · exact absurd (show e.id < ((10 : Nat) : Int) by omega) (h3 e (by simp))
    · refine ⟨by simp [h2], fun _ => ?_⟩
      have h6 := h3 e (by simp) (by omega)
      have hp := (timersOk_iff.1 h.ok).2.2.1
      rw [List.pairwise_cons] at hp
      rcases List.mem_cons.1 hs with rfl | hs
      · exact h5
      · have := hp.1 s hs
        rw [timerLess_iff] at this
        simp only
        omega
theorem due_pair {l : List TimerD} {dl : List Int} (h : TmR l dl) {N : Int} {m : Nat} {e : TimerD} (he : (dueIn l N)[m]? = some e) : ∃ k : Nat, e.id = (k : Int) ∧ k < 10 ∧ dl[k]? = some e.due ∧ 0 ≤ e.due ∧ e.due < 40 ∧ e.due ≤ N := by
  have hm := List.mem_of_getElem? he
  unfold dueIn at hm
  rw [if_pos h.ok, List.mem_filter] at hm
  have hb := h.bd e hm.1
  obtain ⟨k, hk⟩ := Int.eq_ofNat_of_zero_le hb.1
  refine ⟨k, hk, by omega, (h.mem k e.due hb.2.2.1).1 (by rw [← hk]; exact hm.1), hb.2.2.1, hb.2.2.2, by simpa using hm.2⟩
theorem due_next {l : List TimerD} {dl : List Int} (h : TmR l dl) {N : Int} {m : Nat} {e e' : TimerD} (he : (dueIn l N)[m]? = some e) (he' : (dueIn l N)[m + 1]? = some e') : e.due * 100 + e.id < e'.due * 100 + e'.id := by
  have hp := (timersOk_iff.1 h.ok).2.2.1.filter (fun t => decide (t.due ≤ N))
  have hd : dueIn l N = l.filter (fun t => decide (t.due ≤ N)) := by unfold dueIn; rw [if_pos h.ok]
  rw [← hd, List.pairwise_iff_getElem] at hp
  obtain ⟨h1, h2⟩ := List.getElem?_eq_some_iff.1 he
  obtain ⟨h3, h4⟩ := List.getElem?_eq_some_iff.1 he'
  have h5 := hp m (m + 1) h1 h3 (by omega)
  rw [h2, h4, timerLess_iff] at h5
  obtain ⟨k, hk, hk1, _⟩ := due_pair h he
  obtain ⟨k', hk', hk1', _⟩ := due_pair h he'
  omega

end Go.Proofs.Ytkianeknbfahgaa
