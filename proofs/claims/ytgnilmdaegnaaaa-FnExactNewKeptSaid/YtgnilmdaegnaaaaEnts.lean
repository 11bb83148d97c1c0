/- Lists of entries: what the program's and the reference's tests of them return. No conditions. -/
import Derived.Test.YtgnilmdaegnaaaaHelp
import Derived.Test.YtgnilmdaegnaaaaApp
import Derived.Lib.QuietBelow
import Derived.BigQuiet
import Derived.IntWalk
set_option linter.unusedSimpArgs false
set_option linter.unusedVariables false
namespace Go.Proofs.Ytgnilmdaegnaaaa
open Go.RowKit

/-- The entry at place i is valid and follows the one before it. -/
def stepOk (l : List EntryD) (i : Nat) : Bool :=
  match l[i]? with
  | none => true
  | some e => entryOk e && (match i with
    | 0 => true
    | j + 1 => match l[j]? with
      | none => true
      | some p => (e.index == p.index + 1) && decide (p.time ≤ e.time))
def entriesOk (l : List EntryD) : Bool := decide (l.length ≤ 2000) && (List.range l.length).all (stepOk l)
theorem entriesOk_of {l : List EntryD} (h1 : l.length ≤ 2000) (h : ∀ j, j < l.length → stepOk l j = true) : entriesOk l = true := by
  simp only [entriesOk, Bool.and_eq_true, decide_eq_true_eq, List.all_eq_true, List.mem_range]
  exact ⟨h1, h⟩
theorem entriesOk_not {l : List EntryD} {j : Nat} (hj : j < l.length) (h : stepOk l j = false) : entriesOk l = false := by
  simp only [entriesOk, Bool.and_eq_false_iff, List.all_eq_false, List.mem_range]
  exact .inr ⟨j, hj, by simp [h]⟩
theorem entriesOk_long {l : List EntryD} (h : 2000 < l.length) : entriesOk l = false := by
  simp only [entriesOk, Bool.and_eq_false_iff, decide_eq_false_iff_not]
  exact .inl (by omega)
theorem stepOk_zero {l : List EntryD} {e : EntryD} (h : l[0]? = some e) : stepOk l 0 = entryOk e := by simp [stepOk, h]
theorem stepOk_succ {l : List EntryD} {q : Nat} {e p : EntryD} (h : l[q + 1]? = some e) (h' : l[q]? = some p) : stepOk l (q + 1) = (entryOk e && ((e.index == p.index + 1) && decide (p.time ≤ e.time))) := by simp [stepOk, h, h']
theorem stepOk_bad {l : List EntryD} {i : Nat} {e : EntryD} (h : l[i]? = some e) (h' : entryOk e = false) : stepOk l i = false := by simp [stepOk, h, h']
theorem entryOk_of_step {l : List EntryD} {i : Nat} {e : EntryD} (h : l[i]? = some e) (h' : stepOk l i = true) : entryOk e = true := by
  simp only [stepOk, h, Bool.and_eq_true] at h'
  exact h'.1
theorem entryOk_index {e : EntryD} (h : entryOk e = true) : 1 ≤ e.index ∧ e.index ≤ 2000 := by
  simp only [entryOk, Bool.and_eq_true, btw_iff] at h
  exact h.1.1.1.1
theorem entryOk_time {e : EntryD} (h : entryOk e = true) : 0 ≤ e.time ∧ e.time ≤ 1000000 := by
  simp only [entryOk, Bool.and_eq_true, btw_iff] at h
  exact h.1.1.1.2

def BoolRes (w : World) (b : Bool) (e : Ending) (w' : World) : Prop := e = .returned (.bool b) ∧ Below w.heap.size w w'


end Go.Proofs.Ytgnilmdaegnaaaa
