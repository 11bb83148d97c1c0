/- Marks of the laws' random entries, in plain words. No conditions. -/
import Derived.Test.YtgnilmdaegnaaaaGen0
import Derived.Test.YtgnilmdaegnaaaaSeen0
set_option linter.unusedSimpArgs false
set_option linter.unusedVariables false
namespace Go.Proofs.Ytgnilmdaegnaaaa

def lastMark : MarkD → List EntryD → Int → MarkD
  | a, [], _ => a
  | a, e :: l, c => lastMark (if e.client = c then e.mark else a) l c
theorem lastMark_snoc : ∀ (l : List EntryD) (a : MarkD) (e : EntryD) (c : Int), lastMark a (l ++ [e]) c = if e.client = c then e.mark else lastMark a l c
  | [], a, e, c => rfl
  | x :: l, a, e, c => by
    simp only [List.cons_append, lastMark]
    exact lastMark_snoc l _ e c
theorem markAt_ins {r : List MarkD} {e : EntryD} (h : seenOk r = true) (c : Int) : markAt (ins e.mark false r) c = if e.client = c then e.mark else markAt r c := by
  unfold markAt
  rw [atClient_ins (seenOk_iff.1 h).2.1 c]
  by_cases h1 : c = e.client
  · subst h1
    have h2 : e.client = e.mark.client := rfl
    rw [if_pos h2, if_pos rfl]
    rfl
  · have h2 : ¬ c = e.mark.client := h1
    rw [if_neg h2, if_neg (fun h => h1 h.symm)]
theorem overGo_append : ∀ (a : List EntryD) (s : List MarkD) (b : List EntryD), overGo s (a ++ b) = (overGo s a).bind (fun r => overGo r b)
  | [], s, b => rfl
  | e :: a, s, b => by
    simp only [List.cons_append, overGo]
    split
    · exact overGo_append a _ b
    · rfl
theorem overGo_take_succ {l : List EntryD} {s r : List MarkD} {m : Nat} {e : EntryD} (h : overGo s (l.take m) = some r) (he : l[m]? = some e) : overGo s (l.take (m + 1)) = if markable r e then some (ins e.mark false r) else none := by
  obtain ⟨h1, rfl⟩ := List.getElem?_eq_some_iff.1 he
  rw [List.take_succ_eq_append_getElem h1, overGo_append, h]
  rfl
theorem overGo_mono : ∀ {l : List EntryD} {s r : List MarkD}, seenOk s = true → overGo s l = some r → (∀ c, (markAt s c).seq ≤ (markAt r c).seq) ∧ ∀ e ∈ l, e.seq ≤ (markAt r e.client).seq
  | [], s, r, h, e => by simp [overGo] at e; subst e; exact ⟨fun c => Int.le_refl _, fun e he => absurd he (by simp)⟩
  | x :: l, s, r, h, e => by
    simp only [overGo] at e
    split at e
    · rename_i hm
      obtain ⟨h1, h2⟩ := overGo_mono (seenOk_mark h hm) e
      have hx : ∀ c, (markAt s c).seq ≤ (markAt (ins x.mark false s) c).seq := fun c => by
        rw [markAt_ins h]
        by_cases hc : x.client = c
        · subst hc
          have := (markable_iff.1 hm).2.1
          rw [if_pos rfl]
          show _ ≤ x.seq
          omega
        · rw [if_neg hc]; exact Int.le_refl _
      refine ⟨fun c => Int.le_trans (hx c) (h1 c), fun y hy => ?_⟩
      rcases List.mem_cons.1 hy with rfl | hy
      · have := h1 y.client
        rw [markAt_ins h, if_pos rfl] at this
        exact this
      · exact h2 y hy
    · cases e
theorem overGen : ∀ (ds : List DrawE) (s : StE) (r : List MarkD), s.seqs.length = 6 → seenOk r = true → lastIdx r = s.index → (∀ c : Int, 2 ≤ c → c ≤ 5 → (markAt r c).seq ≤ s.seqs.getD c.toNat 0) → (∀ d ∈ ds, drawOk d) → (∀ e ∈ genE s ds, entryOk e = true) →
    ∃ r', overGo r (genE s ds) = some r' ∧ seenOk r' = true ∧ lastIdx r' = s.index + (ds.length : Int) ∧ ∀ c, markAt r' c = lastMark (markAt r c) (genE s ds) c
  | [], s, r, h6, hr, hi, hs, hd, he => ⟨r, rfl, hr, by simp [hi], fun c => rfl⟩
  | d :: ds, s, r, h6, hr, hi, hs, hd, he => by
    obtain ⟨w2, w5, i0, i1, _⟩ := hd d List.mem_cons_self
    have hE : entryOk (entE s d) = true := he _ List.mem_cons_self
    have hm : markable r (entE s d) = true := by
      refine markable_iff.2 ⟨hE, ?_, ?_⟩
      · have := hs d.who w2 w5
        show _ < s.seqs.getD d.who.toNat 0 + 1 + d.inc
        show (markAt r d.who).seq < _
        omega
      · show lastIdx r < s.index + 1
        omega
    have h1 := seenOk_mark hr hm
    have h2 : lastIdx (ins (entE s d).mark false r) = s.index + 1 := lastIdx_ins (x := (entE s d).mark) (markable_iff.1 hm).2.2
    obtain ⟨r', g1, g2, g3, g4⟩ := overGen ds (stepE s d) (ins (entE s d).mark false r) (by simp [stepE, h6]) h1 h2 (fun c c2 c5 => by
      rw [markAt_ins hr]
      show (if d.who = c then (entE s d).mark else markAt r c).seq ≤ (s.seqs.set d.who.toNat (seqE s d)).getD c.toNat 0
      by_cases hc : d.who = c
      · subst hc
        rw [if_pos rfl]
        have h9 : d.who.toNat < s.seqs.length := by omega
        simp [List.getD, h9, EntryD.mark, entE]
      · rw [if_neg hc]
        have h9 : ¬ d.who.toNat = c.toNat := by omega
        have := hs c c2 c5
        simp only [List.getD, List.getElem?_set_ne h9]
        exact this) (fun x hx => hd x (List.mem_cons_of_mem _ hx)) (fun e h => he e (List.mem_cons_of_mem _ h))
    refine ⟨r', ?_, g2, ?_, fun c => ?_⟩
    · show (if markable r (entE s d) then overGo (ins (entE s d).mark false r) (genE (stepE s d) ds) else none) = some r'
      rw [if_pos hm]
      exact g1
    · rw [g3]
      show s.index + 1 + (ds.length : Int) = _
      rw [List.length_cons]
      omega
    · rw [g4 c, markAt_ins hr]
      rfl
/-- What the laws draw from nothing can be recorded. -/
theorem over0 {ds : List DrawE} (hd : ∀ d ∈ ds, drawOk d) (hl : ds.length ≤ 900) : ∃ r, overGo [] (genE st0 ds) = some r ∧ seenOk r = true ∧ lastIdx r = ((genE st0 ds).length : Int) ∧ ∀ c, markAt r c = lastMark zeroMark (genE st0 ds) c := by
  obtain ⟨r, h1, h2, h3, h4⟩ := overGen ds st0 [] rfl rfl rfl (fun c c2 c5 => by
    have e : c = 2 ∨ c = 3 ∨ c = 4 ∨ c = 5 := by omega
    rcases e with rfl | rfl | rfl | rfl <;> decide) hd (fun e he => by
    obtain ⟨j, hj, rfl⟩ := List.getElem_of_mem he
    exact gen0_entryOk hd hl (List.getElem?_eq_getElem hj))
  refine ⟨r, h1, h2, ?_, h4⟩
  rw [h3, genE_len]
  show (0 : Int) + _ = _
  omega
theorem overGo_take {l : List EntryD} {s r : List MarkD} (h : overGo s l = some r) (m : Nat) : ∃ q, overGo s (l.take m) = some q ∧ overGo q (l.drop m) = some r := by
  rw [← List.take_append_drop m l, overGo_append] at h
  cases hq : overGo s (l.take m) with
  | none => rw [hq] at h; cases h
  | some q => rw [hq] at h; exact ⟨q, rfl, h⟩
theorem seenOver_some {s r : List MarkD} {l : List EntryD} (hs : seenOk s = true) (hl : l.length ≤ 2000) (h : overGo s l = some r) : seenOver s l = (r, true) := by
  unfold seenOver
  rw [if_pos hs, if_pos hl, h]
/-- Marked again: never. -/
theorem marked_again {s r : List MarkD} {l : List EntryD} {e x : EntryD} (hs : seenOk s = true) (h : overGo s l = some r) (he : e ∈ l) (hc : x.client = e.client) (hq : x.seq = e.seq) : marked r x = (r, false) ∧ freshIn r e.client e.seq = false := by
  have h1 := overGo_ok hs h
  have h2 := (overGo_mono hs h).2 e he
  have h3 : markable r x = false := by
    cases hm : markable r x with
    | false => rfl
    | true =>
      have := (markable_iff.1 hm).2.1
      rw [hc, hq] at this
      omega
  have h4 : decide ((markAt r e.client).seq < e.seq) = false := by simp; omega
  exact ⟨by simp [marked, h1, h3], by simp [freshIn, markOf, h1, h4]⟩
theorem marked_next {s r : List MarkD} {l : List EntryD} {m : Nat} {e : EntryD} (hs : seenOk s = true) (h : overGo s (l.take m) = some r) (he : l[m]? = some e) {q : List MarkD} (hq : overGo s (l.take (m + 1)) = some q) :
    marked r e = (q, true) ∧ freshIn r e.client e.seq = true ∧ markAt q e.client = e.mark ∧ entryOk e = true := by
  have h1 := overGo_ok hs h
  rw [overGo_take_succ h he] at hq
  split at hq
  · rename_i hm
    injection hq with hq
    subst hq
    obtain ⟨m1, m2, _⟩ := markable_iff.1 hm
    have m3 : decide ((markAt r e.client).seq < e.seq) = true := by simpa using m2
    have m4 := m1
    simp only [entryOk, Bool.and_eq_true] at m4
    exact ⟨by simp [marked, h1, hm], by simp [freshIn, markOf, h1, m3, m4.1.1.2, m4.1.2], by rw [markAt_ins h1, if_pos rfl], m1⟩
  · cases hq
theorem fresh_next {q : List MarkD} {e : EntryD} (hs : seenOk q = true) (hm : markAt q e.client = e.mark) (he : entryOk e = true) (h2 : e.seq < 2000) : freshIn q e.client (e.seq + 1) = true := by
  simp only [entryOk, Bool.and_eq_true, btw_iff] at he
  have h3 : decide ((markAt q e.client).seq < e.seq + 1) = true := by rw [hm]; exact decide_eq_true (show e.seq < e.seq + 1 by omega)
  have h4 : btw e.client 2 5 = true := btw_iff.2 ⟨by omega, by omega⟩
  have h5 : btw (e.seq + 1) 1 2000 = true := btw_iff.2 ⟨by omega, by omega⟩
  simp [freshIn, markOf, hs, h3, h4, h5]

end Go.Proofs.Ytgnilmdaegnaaaa
