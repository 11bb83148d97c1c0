/- The laws' random entries in plain words: they are valid, in order, and those of all clients together are all. No conditions. -/
import Derived.Test.YtgnilmdaegnaaaaZEntsOf
import Derived.Test.YtgnilmdaegnaaaaZW9b
set_option linter.unusedSimpArgs false
set_option linter.unusedVariables false
namespace Go.Proofs.Ytgnilmdaegnaaaa
theorem genE_all : ∀ (ds : List DrawE) (s : StE) (S I T : Int), StOk s S I T → (∀ d ∈ ds, drawOk d) → ∀ (j : Nat) (e : EntryD), (genE s ds)[j]? = some e →
    e.index = s.index + 1 + j ∧ s.now ≤ e.time ∧ e.time ≤ s.now + 5 * ((j : Int) + 1) ∧ 2 ≤ e.client ∧ e.client ≤ 5 ∧ 1 ≤ e.seq ∧ e.seq ≤ S + 2 * ((j : Int) + 1) ∧ opOk e.op = true
  | [], s, S, I, T, hs, hd, j, e, h => by simp [genE] at h
  | d :: ds, s, S, I, T, hs, hd, 0, e, h => by
    obtain ⟨h1, h2, h3, h4, h5, h6, h7⟩ := hd d List.mem_cons_self
    simp [genE] at h
    subst h
    have hq : 1 ≤ seqE s d ∧ seqE s d ≤ S + 2 := by
      have hlt : d.who.toNat < s.seqs.length := by rw [hs.len]; omega
      have := hs.seq d.who.toNat _ (List.getElem?_eq_getElem hlt)
      have e : s.seqs.getD d.who.toNat 0 = s.seqs[d.who.toNat] := by simp [List.getD, List.getElem?_eq_getElem hlt]
      unfold seqE
      rw [e]
      omega
    refine ⟨by simp [entE], by simp [entE]; omega, by simp [entE]; omega, h1, h2, hq.1, ?_, h7⟩
    have := hq.2
    simp only [entE]
    omega
  | d :: ds, s, S, I, T, hs, hd, j + 1, e, h => by
    have hd' := hd d List.mem_cons_self
    have h' : (genE (stepE s d) ds)[j]? = some e := by simpa [genE] using h
    obtain ⟨a1, a2, a3, a4, a5, a6, a7, a8⟩ := genE_all ds (stepE s d) (S + 2) (I + 1) (T + 5) (hs.step hd') (fun x hx => hd x (List.mem_cons_of_mem _ hx)) j e h'
    obtain ⟨h1, h2, h3, h4, h5, h6, h7⟩ := hd'
    have e1 : (stepE s d).index = s.index + 1 := rfl
    have e2 : (stepE s d).now = s.now + d.dt := rfl
    rw [e1] at a1
    rw [e2] at a2 a3
    exact ⟨by omega, by omega, by omega, a4, a5, a6, by omega, a8⟩
theorem st0_zero : StOk st0 0 0 0 := ⟨rfl, fun j x hx => by
  match j, hx with
  | 0, hx | 1, hx | 2, hx | 3, hx | 4, hx | 5, hx => simp [st0] at hx; omega
  | j + 6, hx => simp [st0] at hx, by decide, by decide, by decide, by decide⟩
/-- The list that the laws draw from nothing. -/
theorem gen0_at {ds : List DrawE} (hd : ∀ d ∈ ds, drawOk d) {j : Nat} {e : EntryD} (h : (genE st0 ds)[j]? = some e) :
    e.index = (j : Int) + 1 ∧ 0 ≤ e.time ∧ e.time ≤ 5 * ((j : Int) + 1) ∧ 2 ≤ e.client ∧ e.client ≤ 5 ∧ 1 ≤ e.seq ∧ e.seq ≤ 2 * ((j : Int) + 1) ∧ opOk e.op = true := by
  obtain ⟨a1, a2, a3, a4, a5, a6, a7, a8⟩ := genE_all ds st0 0 0 0 st0_zero hd j e h
  have e1 : st0.index = 0 := rfl
  have e2 : st0.now = 0 := rfl
  rw [e1] at a1
  rw [e2] at a2 a3
  exact ⟨by omega, a2, by omega, a4, a5, a6, by omega, a8⟩
theorem gen0_entryOk {ds : List DrawE} (hd : ∀ d ∈ ds, drawOk d) (hl : ds.length ≤ 900) {j : Nat} {e : EntryD} (h : (genE st0 ds)[j]? = some e) : entryOk e = true := by
  obtain ⟨a1, a2, a3, a4, a5, a6, a7, a8⟩ := gen0_at hd h
  have hj : j < ds.length := by
    have := (List.getElem?_eq_some_iff.1 h).1
    rwa [genE_len] at this
  simp only [entryOk, Bool.and_eq_true, btw_iff]
  exact ⟨⟨⟨⟨by omega, by omega⟩, by omega⟩, by omega⟩, a8⟩
end Go.Proofs.Ytgnilmdaegnaaaa
