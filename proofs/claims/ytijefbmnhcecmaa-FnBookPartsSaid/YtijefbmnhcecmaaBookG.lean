/- Books of the laws' random entries, in plain words. No conditions. -/
import Derived.Test.YtijefbmnhcecmaaGrow0
import Derived.Test.YtijefbmnhcecmaaGen0
set_option linter.unusedSimpArgs false
set_option linter.unusedVariables false
namespace Go.Proofs.Ytijefbmnhcecmaa

theorem bookOk_prefix {b t : Int} : ∀ {k es : List EntryD}, bookOk b t (k ++ es) = true → bookOk b t k = true
  | k, es, h => by
    obtain ⟨h1, h2, h3, h4, h5, h6⟩ := bookOk_iff.1 h
    simp at h4
    refine bookOk_iff.2 ⟨h1, h2, h3, by omega, entriesOk_of (by omega) fun j hj => ?_, ?_⟩
    · rw [← stepOk_app (r := es) hj]
      exact entriesOk_step h5 (by simp; omega)
    · cases k with
      | nil => rfl
      | cons x k => exact h6
theorem fitsM_of_ok {b t : Int} {k es : List EntryD} {e : EntryD} (h : bookOk b t (k ++ e :: es) = true) : fitsM b t k e = true := by
  have he : (k ++ e :: es)[k.length]? = some e := by simp
  have hi := book_index h _ _ he
  obtain ⟨h1, h2, h3, h4, h5, h6⟩ := bookOk_iff.1 h
  have hs := entriesOk_step h5 (j := k.length) (by simp)
  have hok := entryOk_of_step he hs
  simp at h4
  refine fitsM_iff.2 ⟨hok, by omega, ?_, by omega⟩
  cases hl : k.length with
  | zero =>
    obtain rfl : k = [] := List.eq_nil_of_length_eq_zero hl
    rw [lastTime_nil]
    rw [bookHead_at (e := e) rfl] at h6
    simp only [Bool.and_eq_true, decide_eq_true_eq] at h6
    exact h6.2
  | succ q =>
    rw [hl] at he hs
    have hp : k[q]? = some k[q] := List.getElem?_eq_getElem (by omega)
    rw [stepOk_succ he (p := k[q]) (by rw [List.getElem?_append_left (by omega)]; exact hp)] at hs
    simp only [Bool.and_eq_true, decide_eq_true_eq] at hs
    rw [lastTime_at (t := t) (e := k[q]) (by rw [show k.length - 1 = q by omega]; exact hp)]
    exact hs.2.2
theorem growM_of_ok {b t : Int} : ∀ {es k : List EntryD}, bookOk b t (k ++ es) = true → growM b t k es = some (k ++ es)
  | [], k, h => by simp [growM]
  | e :: es, k, h => by
    simp only [growM]
    rw [if_pos (fitsM_of_ok h)]
    have e0 : k ++ e :: es = (k ++ [e]) ++ es := by simp
    rw [growM_of_ok (k := k ++ [e]) (by rw [← e0]; exact h), e0]
theorem grownM_of_ok {b t : Int} {es k : List EntryD} (h : bookOk b t (k ++ es) = true) : grownM b t k es = (b, t, k ++ es, true) := by
  unfold grownM
  rw [if_pos (bookOk_prefix h), growM_of_ok h]
theorem gen0_book {ds : List DrawE} (hd : ∀ d ∈ ds, drawOk d) (hl : ds.length ≤ 20) : bookOk 0 0 (genE st0 ds) = true := by
  refine bookOk_iff.2 ⟨⟨by omega, by omega⟩, ⟨by omega, by omega⟩, fun _ => rfl, by rw [genE_len]; exact hl, gen0_ok hd (by omega), ?_⟩
  cases hx : genE st0 ds with
  | nil => rfl
  | cons x r =>
    have := gen0_at hd (j := 0) (e := x) (by rw [hx]; rfl)
    rw [bookHead_at (e := x) rfl]
    simp
    omega
theorem bookOk_nil : bookOk 0 0 [] = true := by decide

theorem stepOk_drop {l : List EntryD} {k j : Nat} (h : entriesOk l = true) (hj : j < (l.drop k).length) : stepOk (l.drop k) j = true := by
  simp at hj
  have hs := entriesOk_step h (j := k + j) (by omega)
  have he : l[k + j]? = some l[k + j] := List.getElem?_eq_getElem (by omega)
  have he' : (l.drop k)[j]? = some l[k + j] := by rw [List.getElem?_drop]; exact he
  cases j with
  | zero =>
    rw [stepOk_zero he']
    exact entryOk_of_step he hs
  | succ q =>
    have hp : l[k + q]? = some l[k + q] := List.getElem?_eq_getElem (by omega)
    have hp' : (l.drop k)[q]? = some l[k + q] := by rw [List.getElem?_drop]; exact hp
    rw [stepOk_succ he' hp']
    have hs' : stepOk l (k + q + 1) = true := hs
    rw [stepOk_succ (q := k + q) he hp] at hs'
    exact hs'
theorem timeAt_base (b t : Int) (l : List EntryD) : timeAt b t l b = t := if_pos rfl
theorem timeAt_pos {b t : Int} {l : List EntryD} {j : Nat} {e : EntryD} (h : l[j]? = some e) {x : Int} (hx : x = b + (j : Int) + 1) : timeAt b t l x = e.time := by
  subst hx
  have : (b + (j : Int) + 1 - b - 1).toNat = j := by omega
  unfold timeAt
  rw [if_neg (by omega), this, h]
  rfl
theorem trim_ok {b t : Int} {l : List EntryD} (h : bookOk b t l = true) {k : Nat} (hk : k ≤ l.length) : bookOk (b + (k : Int)) (timeAt b t l (b + (k : Int))) (l.drop k) = true := by
  obtain ⟨h1, h2, h3, h4, h5, h6⟩ := bookOk_iff.1 h
  cases k with
  | zero =>
    have e0 : b + ((0 : Nat) : Int) = b := by omega
    rw [e0, timeAt_base, List.drop_zero]
    exact h
  | succ q =>
    have he : l[q]? = some l[q] := List.getElem?_eq_getElem (by omega)
    have hok := entryOk_of_step he (entriesOk_step h5 (j := q) (by omega))
    have hi := book_index h q _ he
    have ht := entryOk_time hok
    have hx := entryOk_index hok
    rw [timeAt_pos he (by omega)]
    refine bookOk_iff.2 ⟨⟨by omega, by omega⟩, ht, fun h0 => by omega, by simp; omega, entriesOk_of (by simp; omega) fun j hj => stepOk_drop h5 hj, ?_⟩
    by_cases hq : q + 1 < l.length
    · have he2 : l[q + 1]? = some l[q + 1] := List.getElem?_eq_getElem hq
      rw [bookHead_at (e := l[q + 1]) (by rw [List.getElem?_drop]; exact he2)]
      have hs := entriesOk_step h5 (j := q + 1) hq
      rw [stepOk_succ he2 he] at hs
      simp only [Bool.and_eq_true, decide_eq_true_eq, beq_iff_eq] at hs ⊢
      have hi2 := book_index h (q + 1) _ he2
      exact ⟨by omega, hs.2.2⟩
    · rw [List.drop_of_length_le (by omega)]
      rfl
theorem trimmedTo_at {b t : Int} {l : List EntryD} (h : bookOk b t l = true) {k : Nat} (hk : k ≤ l.length) : trimmedTo b t l (b + (k : Int)) = (b + (k : Int), timeAt b t l (b + (k : Int)), l.drop k, true) := by
  have e0 : (b + (k : Int) - b).toNat = k := by omega
  have e1 : btw (b + (k : Int)) b (b + (l.length : Int)) = true := btw_iff.2 ⟨by omega, by omega⟩
  unfold trimmedTo
  rw [if_pos h, if_pos e1, e0]
theorem backTo_at {b t : Int} {l : List EntryD} (h : bookOk b t l = true) {k : Nat} (hk : k ≤ l.length) : backTo b t l (b + (k : Int)) = (b, t, l.take k, true) := by
  have e0 : (b + (k : Int) - b).toNat = k := by omega
  have e1 : btw (b + (k : Int)) b (b + (l.length : Int)) = true := btw_iff.2 ⟨by omega, by omega⟩
  unfold backTo
  rw [if_pos h, if_pos e1, e0]
theorem timeAt_trim {b t : Int} {l : List EntryD} {k m : Nat} (hkm : k ≤ m) (hm : m ≤ l.length) : timeAt (b + (k : Int)) (timeAt b t l (b + (k : Int))) (l.drop k) (b + (m : Int)) = timeAt b t l (b + (m : Int)) := by
  by_cases e : k = m
  · subst e
    rw [timeAt_base]
  · obtain ⟨q, rfl⟩ : ∃ q, m = k + q + 1 := ⟨m - k - 1, by omega⟩
    have he : l[k + q]? = some l[k + q] := List.getElem?_eq_getElem (by omega)
    have h1 : timeAt b t l (b + ((k + q + 1 : Nat) : Int)) = l[k + q].time := timeAt_pos he (by omega)
    have h2 : timeAt (b + (k : Int)) (timeAt b t l (b + (k : Int))) (l.drop k) (b + ((k + q + 1 : Nat) : Int)) = l[k + q].time := timeAt_pos (j := q) (e := l[k + q]) (by rw [List.getElem?_drop]; exact he) (by omega)
    rw [h1, h2]
theorem lastTime_trim {b t : Int} {l : List EntryD} {m : Nat} (hm : m ≤ l.length) (hl : 0 < l.length) : lastTime (timeAt b t l (b + (m : Int))) (l.drop m) = lastTime t l := by
  have he : l[l.length - 1]? = some l[l.length - 1] := List.getElem?_eq_getElem (by omega)
  rw [lastTime_at (t := t) he]
  by_cases e : m = l.length
  · subst e
    rw [List.drop_of_length_le (Nat.le_refl _), lastTime_nil, timeAt_pos he (by omega)]
  · refine lastTime_at ?_
    rw [List.getElem?_drop, List.length_drop, show m + (l.length - m - 1) = l.length - 1 by omega]
    exact he
theorem entryAt_in {b t : Int} {l : List EntryD} (h : bookOk b t l = true) {j : Nat} {e : EntryD} (he : l[j]? = some e) {x : Int} (hx : x = b + (j : Int) + 1) : entryAtM b t l x = (e, true) := by
  have hj := (List.getElem?_eq_some_iff.1 he).1
  subst hx
  have e0 : (b + (j : Int) + 1 - b - 1).toNat = j := by omega
  have e1 : btw (b + (j : Int) + 1) (b + 1) (b + (l.length : Int)) = true := btw_iff.2 ⟨by omega, by omega⟩
  simp only [entryAtM, h, e1, e0, he, Bool.and_true, if_true, Option.getD_some]
theorem entryAt_out {b t : Int} {l : List EntryD} {x : Int} (hx : x ≤ b ∨ b + (l.length : Int) < x) : entryAtM b t l x = (zeroEntry, false) := by
  have e1 : btw x (b + 1) (b + (l.length : Int)) = false := by
    cases hb : btw x (b + 1) (b + (l.length : Int)) with
    | false => rfl
    | true => have := btw_iff.1 hb; omega
  simp [entryAtM, e1]

end Go.Proofs.Ytijefbmnhcecmaa
