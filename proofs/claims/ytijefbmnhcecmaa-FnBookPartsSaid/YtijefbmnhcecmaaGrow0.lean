/- Books that grow, in plain words. No conditions. -/
import Derived.Test.YtijefbmnhcecmaaBk9
set_option linter.unusedSimpArgs false
set_option linter.unusedVariables false
namespace Go.Proofs.Ytijefbmnhcecmaa

theorem stepOk_app {l r : List EntryD} {j : Nat} (hj : j < l.length) : stepOk (l ++ r) j = stepOk l j := by
  cases j with
  | zero =>
    have h : l[0]? = some l[0] := List.getElem?_eq_getElem hj
    rw [stepOk_zero h, stepOk_zero (l := l ++ r) (by rw [List.getElem?_append_left hj]; exact h)]
  | succ q =>
    have h : l[q + 1]? = some l[q + 1] := List.getElem?_eq_getElem hj
    have h' : l[q]? = some l[q] := List.getElem?_eq_getElem (by omega)
    rw [stepOk_succ h h', stepOk_succ (l := l ++ r) (by rw [List.getElem?_append_left hj]; exact h) (by rw [List.getElem?_append_left (by omega)]; exact h')]
theorem entriesOk_step {l : List EntryD} (h : entriesOk l = true) {j : Nat} (hj : j < l.length) : stepOk l j = true := by
  simp only [entriesOk, Bool.and_eq_true, List.all_eq_true, List.mem_range] at h
  exact h.2 j hj
theorem entriesOk_snoc {l : List EntryD} {e : EntryD} (h : entriesOk l = true) (hl : l.length < 2000) (hs : stepOk (l ++ [e]) l.length = true) : entriesOk (l ++ [e]) = true := by
  refine entriesOk_of (by simp; omega) fun j hj => ?_
  rcases Nat.lt_or_ge j l.length with h1 | h1
  · rw [stepOk_app h1]; exact entriesOk_step h h1
  · have : j = l.length := by simp at hj; omega
    subst this; exact hs
theorem bookOk_iff {b t : Int} {l : List EntryD} : bookOk b t l = true ↔ (0 ≤ b ∧ b ≤ 2000) ∧ (0 ≤ t ∧ t ≤ 1000000) ∧ (b = 0 → t = 0) ∧ l.length ≤ 20 ∧ entriesOk l = true ∧ bookHead b t l = true := by
  simp only [bookOk, Bool.and_eq_true, btw_iff, decide_eq_true_eq, Bool.not_eq_true', Bool.and_eq_false_iff, beq_eq_false_iff_ne, bne_eq_false_iff_eq]
  constructor
  · rintro ⟨a, b, c, d, e, f⟩
    exact ⟨a, b, fun h => by rcases c with c | c; exact absurd h c; exact c, d, e, f⟩
  · rintro ⟨a, b', c, d, e, f⟩
    refine ⟨a, b', ?_, d, e, f⟩
    by_cases h : b = 0
    · exact .inr (c h)
    · exact .inl h
theorem book_index {b t : Int} {l : List EntryD} (h : bookOk b t l = true) : ∀ (j : Nat) (e : EntryD), l[j]? = some e → e.index = b + 1 + (j : Int)
  | 0, e, he => by
    have := (bookOk_iff.1 h).2.2.2.2.2
    rw [bookHead_at he] at this
    simp only [Bool.and_eq_true, beq_iff_eq] at this
    omega
  | j + 1, e, he => by
    have hj := (List.getElem?_eq_some_iff.1 he).1
    have h' : l[j]? = some l[j] := List.getElem?_eq_getElem (by omega)
    have hs := entriesOk_step (bookOk_iff.1 h).2.2.2.2.1 hj
    rw [stepOk_succ he h'] at hs
    simp only [Bool.and_eq_true, beq_iff_eq] at hs
    have := book_index h j _ h'
    omega
theorem lastTime_nil (t : Int) : lastTime t [] = t := rfl
theorem lastTime_snoc (t : Int) (l : List EntryD) (e : EntryD) : lastTime t (l ++ [e]) = e.time := by simp [lastTime]
theorem lastTime_at {t : Int} {l : List EntryD} {e : EntryD} (h : l[l.length - 1]? = some e) : lastTime t l = e.time := by simp [lastTime, h]
theorem fitsM_iff {b t : Int} {l : List EntryD} {e : EntryD} : fitsM b t l e = true ↔ entryOk e = true ∧ e.index = b + (l.length : Int) + 1 ∧ lastTime t l ≤ e.time ∧ l.length < 20 := by
  simp only [fitsM, Bool.and_eq_true, beq_iff_eq, decide_eq_true_eq]
theorem bookOk_snoc {b t : Int} {l : List EntryD} {e : EntryD} (h : bookOk b t l = true) (hf : fitsM b t l e = true) : bookOk b t (l ++ [e]) = true := by
  obtain ⟨f1, f2, f3, f4⟩ := fitsM_iff.1 hf
  obtain ⟨h1, h2, h3, h4, h5, h6⟩ := bookOk_iff.1 h
  refine bookOk_iff.2 ⟨h1, h2, h3, by simp; omega, ?_, ?_⟩
  · refine entriesOk_snoc h5 (by omega) ?_
    have he : (l ++ [e])[l.length]? = some e := by simp
    cases hl : l.length with
    | zero =>
      rw [hl] at he
      rw [stepOk_zero he, f1]
    | succ q =>
      rw [hl] at he
      have hp : l[q]? = some l[q] := List.getElem?_eq_getElem (by omega)
      rw [stepOk_succ he (p := l[q]) (by rw [List.getElem?_append_left (by omega)]; exact hp), f1]
      have hi := book_index h q _ hp
      have ht : lastTime t l = l[q].time := lastTime_at (by rw [show l.length - 1 = q by omega]; exact hp)
      simp only [Bool.true_and, Bool.and_eq_true, beq_iff_eq, decide_eq_true_eq]
      rw [hl] at f2
      exact ⟨by omega, by omega⟩
  · cases l with
    | nil =>
      have he : (([] : List EntryD) ++ [e])[0]? = some e := rfl
      rw [bookHead_at he]
      simp at f2
      rw [lastTime_nil] at f3
      simp [f2, f3]
    | cons x l => exact h6

def growM (b t : Int) : List EntryD → List EntryD → Option (List EntryD)
  | l, [] => some l
  | l, e :: r => if fitsM b t l e then growM b t (l ++ [e]) r else none
theorem growM_append (b t : Int) : ∀ (a : List EntryD) (l c : List EntryD), growM b t l (a ++ c) = (growM b t l a).bind (fun k => growM b t k c)
  | [], l, c => rfl
  | e :: a, l, c => by
    simp only [List.cons_append, growM]
    split
    · exact growM_append b t a (l ++ [e]) c
    · rfl
theorem growM_is {b t : Int} : ∀ {es l k : List EntryD}, growM b t l es = some k → k = l ++ es
  | [], l, k, h => by simp [growM] at h; simp [h]
  | e :: es, l, k, h => by
    simp only [growM] at h
    split at h
    · rw [growM_is h]; simp
    · cases h
theorem growM_ok {b t : Int} : ∀ {es l k : List EntryD}, bookOk b t l = true → growM b t l es = some k → bookOk b t k = true
  | [], l, k, hb, h => by simp [growM] at h; rw [← h]; exact hb
  | e :: es, l, k, hb, h => by
    simp only [growM] at h
    split at h
    · rename_i hf
      exact growM_ok (bookOk_snoc hb hf) h
    · cases h
theorem growM_take_succ {b t : Int} {l es k : List EntryD} {m : Nat} {e : EntryD} (h : growM b t l (es.take m) = some k) (he : es[m]? = some e) (hf : fitsM b t k e = true) : growM b t l (es.take (m + 1)) = some (k ++ [e]) := by
  obtain ⟨h1, rfl⟩ := List.getElem?_eq_some_iff.1 he
  rw [List.take_succ_eq_append_getElem h1, growM_append, h]
  simp [growM, hf]
theorem growM_fail {b t : Int} {l es k : List EntryD} {m : Nat} {e : EntryD} (h : growM b t l (es.take m) = some k) (he : es[m]? = some e) (hf : fitsM b t k e = false) : growM b t l es = none := by
  obtain ⟨h1, rfl⟩ := List.getElem?_eq_some_iff.1 he
  have e0 : es = es.take m ++ (es[m] :: es.drop (m + 1)) := by rw [← List.drop_eq_getElem_cons h1, List.take_append_drop]
  rw [e0, growM_append, h]
  simp [growM, hf]
def grownM (b t : Int) (l es : List EntryD) : Int × Int × List EntryD × Bool :=
  if bookOk b t l then (match growM b t l es with
    | some k => (b, t, k, true)
    | none => (b, t, l, false)) else (0, 0, [], false)
def appendedM (b t : Int) (l : List EntryD) (e : EntryD) : Int × Int × List EntryD × Bool := if bookOk b t l then if fitsM b t l e then (b, t, l ++ [e], true) else (b, t, l, false) else (0, 0, [], false)
theorem grownM_one (b t : Int) (l : List EntryD) (e : EntryD) : grownM b t l [e] = appendedM b t l e := by
  unfold grownM appendedM
  by_cases hf : fitsM b t l e = true <;> simp [growM, hf]
theorem growM_many {b t : Int} {l es : List EntryD} (hb : bookOk b t l = true) (h : 20 < es.length) : growM b t l es = none := by
  cases hg : growM b t l es with
  | none => rfl
  | some k =>
    have h1 := (bookOk_iff.1 (growM_ok hb hg)).2.2.2.1
    rw [growM_is hg] at h1
    simp at h1
    omega
theorem grownM_len (b t : Int) (l es : List EntryD) : (grownM b t l es).2.2.1.length ≤ 1048576 := by
  unfold grownM
  split
  · rename_i hb
    have h0 := (bookOk_iff.1 hb).2.2.2.1
    split
    · rename_i hg
      have h1 := (bookOk_iff.1 (growM_ok hb hg)).2.2.2.1
      simp only []
      omega
    · simp only []
      omega
  · simp
theorem appendedM_len (b t : Int) (l : List EntryD) (e : EntryD) : (appendedM b t l e).2.2.1.length ≤ 1048576 := by
  rw [← grownM_one]
  exact grownM_len b t l [e]

end Go.Proofs.Ytijefbmnhcecmaa
