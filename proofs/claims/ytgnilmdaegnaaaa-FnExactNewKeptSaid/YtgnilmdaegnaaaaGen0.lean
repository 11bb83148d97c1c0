/- The laws' random entries in plain words: they are valid, in order, and those of all clients together are all. No conditions. -/
import Derived.Test.YtgnilmdaegnaaaaEntsOf
import Derived.Test.YtgnilmdaegnaaaaW9b
set_option linter.unusedSimpArgs false
set_option linter.unusedVariables false
namespace Go.Proofs.Ytgnilmdaegnaaaa

theorem genE_all : ∀ (ds : List DrawE) (s : StE) (S I T : Int), StOk s S I T → (∀ d ∈ ds, drawOk d) → ∀ (j : Nat) (e : EntryD), (genE s ds)[j]? = some e →
    e.index = s.index + 1 + j ∧ s.now ≤ e.time ∧ e.time ≤ s.now + 5 * ((j : Int) + 1) ∧ 2 ≤ e.client ∧ e.client ≤ 5 ∧ 1 ≤ e.seq ∧ e.seq ≤ S + 2 * ((j : Int) + 1) ∧ opOk e.op = true
  | [], s, S, I, T, hs, hd, j, e, h => by simp [genE] at h
  | d :: ds, s, S, I, T, hs, hd, 0, e, h => by
    obtain ⟨h1, h2, h3, h4, h5, h6, h7⟩ := hd d List.mem_cons_self
    simp [genE] at h
    subst h
    have hq : 1 ≤ seqE s d ∧ seqE s d ≤ S + 2 := by
      have hlt : d.who.toNat < s.seqs.length := by rw [hs.len]; omega
      have := hs.seq d.who.toNat _ (List.getElem?_eq_getElem hlt)
      have e : s.seqs.getD d.who.toNat 0 = s.seqs[d.who.toNat] := by simp [List.getD, List.getElem?_eq_getElem hlt]
      unfold seqE
      rw [e]
      omega
    refine ⟨by simp [entE], by simp [entE]; omega, by simp [entE]; omega, h1, h2, hq.1, ?_, h7⟩
    have := hq.2
    simp only [entE]
    omega
  | d :: ds, s, S, I, T, hs, hd, j + 1, e, h => by
    have hd' := hd d List.mem_cons_self
    have h' : (genE (stepE s d) ds)[j]? = some e := by simpa [genE] using h
    obtain ⟨a1, a2, a3, a4, a5, a6, a7, a8⟩ := genE_all ds (stepE s d) (S + 2) (I + 1) (T + 5) (hs.step hd') (fun x hx => hd x (List.mem_cons_of_mem _ hx)) j e h'
    obtain ⟨h1, h2, h3, h4, h5, h6, h7⟩ := hd'
    have e1 : (stepE s d).index = s.index + 1 := rfl
    have e2 : (stepE s d).now = s.now + d.dt := rfl
    rw [e1] at a1
    rw [e2] at a2 a3
    exact ⟨by omega, by omega, by omega, a4, a5, a6, by omega, a8⟩
theorem genE_times : ∀ (ds : List DrawE) (s : StE), (∀ d ∈ ds, drawOk d) → ∀ (j : Nat) (p e : EntryD), (genE s ds)[j]? = some p → (genE s ds)[j + 1]? = some e → p.time ≤ e.time
  | [], s, hd, j, p, e, h, h' => by simp [genE] at h
  | [d], s, hd, j, p, e, h, h' => by simp [genE] at h'
  | d :: d' :: ds, s, hd, 0, p, e, h, h' => by
    simp [genE] at h h'
    subst h h'
    have := hd d' (by simp)
    obtain ⟨_, _, _, _, h5, _, _⟩ := this
    simp [entE, stepE]
    omega
  | d :: d' :: ds, s, hd, j + 1, p, e, h, h' =>
    genE_times (d' :: ds) (stepE s d) (fun x hx => hd x (List.mem_cons_of_mem _ hx)) j p e (by simpa [genE] using h) (by simpa [genE] using h')
theorem st0_zero : StOk st0 0 0 0 := ⟨rfl, fun j x hx => by
  match j, hx with
  | 0, hx | 1, hx | 2, hx | 3, hx | 4, hx | 5, hx => simp [st0] at hx; omega
  | j + 6, hx => simp [st0] at hx, by decide, by decide, by decide, by decide⟩
/-- The list that the laws draw from nothing. -/
theorem gen0_at {ds : List DrawE} (hd : ∀ d ∈ ds, drawOk d) {j : Nat} {e : EntryD} (h : (genE st0 ds)[j]? = some e) :
    e.index = (j : Int) + 1 ∧ 0 ≤ e.time ∧ e.time ≤ 5 * ((j : Int) + 1) ∧ 2 ≤ e.client ∧ e.client ≤ 5 ∧ 1 ≤ e.seq ∧ e.seq ≤ 2 * ((j : Int) + 1) ∧ opOk e.op = true := by
  obtain ⟨a1, a2, a3, a4, a5, a6, a7, a8⟩ := genE_all ds st0 0 0 0 st0_zero hd j e h
  have e1 : st0.index = 0 := rfl
  have e2 : st0.now = 0 := rfl
  rw [e1] at a1
  rw [e2] at a2 a3
  exact ⟨by omega, a2, by omega, a4, a5, a6, by omega, a8⟩
theorem gen0_entryOk {ds : List DrawE} (hd : ∀ d ∈ ds, drawOk d) (hl : ds.length ≤ 900) {j : Nat} {e : EntryD} (h : (genE st0 ds)[j]? = some e) : entryOk e = true := by
  obtain ⟨a1, a2, a3, a4, a5, a6, a7, a8⟩ := gen0_at hd h
  have hj : j < ds.length := by
    have := (List.getElem?_eq_some_iff.1 h).1
    rwa [genE_len] at this
  simp only [entryOk, Bool.and_eq_true, btw_iff]
  exact ⟨⟨⟨⟨by omega, by omega⟩, by omega⟩, by omega⟩, a8⟩
theorem gen0_ok {ds : List DrawE} (hd : ∀ d ∈ ds, drawOk d) (hl : ds.length ≤ 900) : entriesOk (genE st0 ds) = true := by
  have hlen := genE_len ds st0
  refine entriesOk_of (by omega) fun j hj => ?_
  obtain ⟨e, he⟩ : ∃ e, (genE st0 ds)[j]? = some e := ⟨_, List.getElem?_eq_getElem hj⟩
  have hok := gen0_entryOk hd hl he
  cases j with
  | zero => rw [stepOk_zero he, hok]
  | succ q =>
    obtain ⟨p, hp⟩ : ∃ p, (genE st0 ds)[q]? = some p := ⟨_, List.getElem?_eq_getElem (by omega)⟩
    have h1 := gen0_at hd he
    have h2 := gen0_at hd hp
    have h3 := genE_times ds st0 hd q p e hp he
    rw [stepOk_succ he hp, hok]
    simp
    omega

/-! ### the entries of all clients -/
/-- The index of the entry ahead of place i, 0 if there is none. -/
def lastAt (l : List EntryD) : Nat → Int
  | 0 => 0
  | j + 1 => match l[j]? with
    | some e => e.index
    | none => 0
theorem lastAt_succ {l : List EntryD} {i : Nat} {e : EntryD} (h : l[i]? = some e) : lastAt l (i + 1) = e.index := by simp [lastAt, h]
theorem part_rising {l : List EntryD} (hi : ∀ (j : Nat) (e : EntryD), l[j]? = some e → e.index = (j : Int) + 1) (p : EntryD → Bool) : (l.filter p).Pairwise (fun a b => a.index < b.index) := by
  refine List.Pairwise.sublist List.filter_sublist ?_
  rw [List.pairwise_iff_getElem]
  intro i j hi' hj hij
  have h1 := hi i _ (List.getElem?_eq_getElem hi')
  have h2 := hi j _ (List.getElem?_eq_getElem hj)
  omega
theorem part_at {l : List EntryD} (hi : ∀ (j : Nat) (e : EntryD), l[j]? = some e → e.index = (j : Int) + 1) {q : Int} {i : Nat} {e : EntryD} (h : (l.filter (fun x => x.client == q))[i]? = some e) :
    e.client = q ∧ lastAt (l.filter (fun x => x.client == q)) i < e.index ∧ ∃ j : Nat, e.index = (j : Int) + 1 ∧ j < l.length ∧ l[j]? = some e := by
  have hm := List.mem_of_getElem? h
  obtain ⟨h1, h2⟩ := List.mem_filter.1 hm
  obtain ⟨j, hj, he⟩ := List.getElem_of_mem h1
  have hj2 : l[j]? = some e := by rw [List.getElem?_eq_getElem hj, he]
  refine ⟨by simpa using h2, ?_, j, hi j e hj2, hj, hj2⟩
  have h5 := hi j e hj2
  cases i with
  | zero => simp only [lastAt]; omega
  | succ k =>
    obtain ⟨h3, h4⟩ := List.getElem?_eq_some_iff.1 h
    rw [lastAt_succ (List.getElem?_eq_getElem (show k < _ by omega))]
    have := List.pairwise_iff_getElem.1 (part_rising hi (fun x => x.client == q)) k (k + 1) (by omega) h3 (by omega)
    rw [← h4]
    exact this
def cntTo (l : List EntryD) : Nat → Nat
  | 0 => 0
  | k + 1 => cntTo l k + (l.filter (fun x => x.client == (k : Int))).length
theorem cntTo_cons (e : EntryD) (l : List EntryD) : ∀ k, cntTo (e :: l) k = cntTo l k + (if 0 ≤ e.client ∧ e.client < (k : Int) then 1 else 0)
  | 0 => by
    have a1 : ¬ (0 ≤ e.client ∧ e.client < ((0 : Nat) : Int)) := by omega
    rw [if_neg a1]
    rfl
  | k + 1 => by
    rw [cntTo, cntTo_cons e l k, cntTo, List.filter_cons]
    by_cases h : e.client = (k : Int)
    · have a1 : ¬ (0 ≤ e.client ∧ e.client < (k : Int)) := by omega
      have a2 : 0 ≤ e.client ∧ e.client < ((k + 1 : Nat) : Int) := by omega
      have a3 : (e.client == (k : Int)) = true := by simpa using h
      rw [if_neg a1, if_pos a2, if_pos a3, List.length_cons]
      omega
    · rw [if_neg (c := ((e.client == (k : Int)) = true)) (by simpa using h)]
      by_cases h2 : 0 ≤ e.client ∧ e.client < (k : Int)
      · have a2 : 0 ≤ e.client ∧ e.client < ((k + 1 : Nat) : Int) := by omega
        rw [if_pos h2, if_pos a2]; omega
      · have a2 : ¬ (0 ≤ e.client ∧ e.client < ((k + 1 : Nat) : Int)) := by omega
        rw [if_neg h2, if_neg a2]; omega
theorem cntTo_all : ∀ {l : List EntryD} {k : Nat}, (∀ e ∈ l, 0 ≤ e.client ∧ e.client < (k : Int)) → cntTo l k = l.length
  | [], k, _ => by
    induction k with
    | zero => rfl
    | succ k ih => rw [cntTo, ih (by simp)]; rfl
  | e :: l, k, h => by
    rw [cntTo_cons, cntTo_all (fun x hx => h x (List.mem_cons_of_mem _ hx)), if_pos (h e List.mem_cons_self)]
    rfl
theorem cntTo_le (l : List EntryD) : ∀ k : Nat, cntTo l k ≤ k * l.length
  | 0 => by simp [cntTo]
  | k + 1 => by
    have h1 := cntTo_le l k
    have h2 := List.length_filter_le (fun x : EntryD => x.client == (k : Int)) l
    rw [cntTo, Nat.add_mul]
    omega

end Go.Proofs.Ytgnilmdaegnaaaa
