/- The laws' random entries in plain words: what a row of draws makes. No conditions. -/
import Derived.Test.YtgnilmdaegnaaaaZData
set_option linter.unusedSimpArgs false
set_option linter.unusedVariables false
namespace Go.Proofs.Ytgnilmdaegnaaaa
open Go.RowKit
structure DrawE where
  who : Int
  inc : Int
  dt : Int
  op : OpD
structure StE where
  seqs : List Int
  index : Int
  now : Int
def drawOk (d : DrawE) : Prop := 2 ≤ d.who ∧ d.who ≤ 5 ∧ 0 ≤ d.inc ∧ d.inc ≤ 1 ∧ 0 ≤ d.dt ∧ d.dt ≤ 5 ∧ opOk d.op = true
def seqE (s : StE) (d : DrawE) : Int := s.seqs.getD d.who.toNat 0 + 1 + d.inc
def stepE (s : StE) (d : DrawE) : StE := ⟨s.seqs.set d.who.toNat (seqE s d), s.index + 1, s.now + d.dt⟩
def entE (s : StE) (d : DrawE) : EntryD := ⟨s.index + 1, s.now + d.dt, d.who, seqE s d, d.op⟩
def stE (s : StE) (ds : List DrawE) : StE := ds.foldl stepE s
def genE : StE → List DrawE → List EntryD
  | _, [] => []
  | s, d :: ds => entE s d :: genE (stepE s d) ds
def aheadE (s : StE) (e : EntryD) : StE := ⟨s.seqs.set e.client.toNat e.seq, e.index, e.time⟩
theorem stE_append (s : StE) (ds : List DrawE) (d : DrawE) : stE s (ds ++ [d]) = stepE (stE s ds) d := by simp [stE]
theorem genE_append : ∀ (ds : List DrawE) (s : StE) (d : DrawE), genE s (ds ++ [d]) = genE s ds ++ [entE (stE s ds) d]
  | [], s, d => rfl
  | x :: ds, s, d => by
    show entE s x :: genE (stepE s x) (ds ++ [d]) = entE s x :: genE (stepE s x) ds ++ [entE (stE s (x :: ds)) d]
    rw [genE_append ds (stepE s x) d]
    rfl
theorem genE_len : ∀ (ds : List DrawE) (s : StE), (genE s ds).length = ds.length
  | [], s => rfl
  | x :: ds, s => by simp [genE, genE_len ds]
/-- Bounds of a state. -/
structure StOk (s : StE) (S I T : Int) : Prop where
  len : s.seqs.length = 6
  seq : ∀ (j : Nat) (x : Int), s.seqs[j]? = some x → 0 ≤ x ∧ x ≤ S
  i0 : 0 ≤ s.index
  i1 : s.index ≤ I
  t0 : 0 ≤ s.now
  t1 : s.now ≤ T
theorem StOk.step {s : StE} {S I T : Int} (h : StOk s S I T) {d : DrawE} (hd : drawOk d) : StOk (stepE s d) (S + 2) (I + 1) (T + 5) := by
  obtain ⟨h1, h2, h3, h4, h5, h6, h7⟩ := hd
  have hS : 0 ≤ seqE s d ∧ seqE s d ≤ S + 2 := by
    have hlt : d.who.toNat < s.seqs.length := by rw [h.len]; omega
    have := h.seq d.who.toNat _ (List.getElem?_eq_getElem hlt)
    have e : s.seqs.getD d.who.toNat 0 = s.seqs[d.who.toNat] := by simp [List.getD, List.getElem?_eq_getElem hlt]
    unfold seqE
    rw [e]
    omega
  refine ⟨by simp [stepE, h.len], fun j x hx => ?_, by have := h.i0; simp only [stepE]; omega, by have := h.i1; simp only [stepE]; omega, by have := h.t0; simp only [stepE]; omega, by have := h.t1; simp only [stepE]; omega⟩
  simp only [stepE] at hx
  rw [List.getElem?_set] at hx
  split at hx
  · split at hx
    · injection hx with hx; omega
    · cases hx
  · have := h.seq j x hx; omega
end Go.Proofs.Ytgnilmdaegnaaaa
