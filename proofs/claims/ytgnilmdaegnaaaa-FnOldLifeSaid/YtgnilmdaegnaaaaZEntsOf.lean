/- The entries of one client: what the program's and the reference's functions return. No conditions. -/
import Derived.Test.YtgnilmdaegnaaaaZEnts
set_option linter.unusedSimpArgs false
set_option linter.unusedVariables false
namespace Go.Proofs.Ytgnilmdaegnaaaa
open Go.RowKit
/-- What has been collected after m rounds. -/
def OfRel (w : World) (E n : Nat) (l : List EntryD) (q : Int) (v i : Value) (wr : World) : Prop :=
  ∃ (m : Nat) (u : Value), m ≤ n ∧ i = .int .i64 (m : Nat) ∧ v = u ∧ Own wr w.heap.size E 9 u ((l.take m).filter (fun x => x.client == q)).length (((l.take m).filter (fun x => x.client == q)).flatMap EntryD.ints) ∧ Below w.heap.size w wr
theorem OfRel.step {w w2 : World} {E n m : Nat} {l : List EntryD} {q : Int} {v i : Value} {e : EntryD} (hlt : m < n) (he : l[m]? = some e) (hq : (e.client == q) = true) (hi : i = .int .i64 ((m + 1 : Nat) : Int))
    (ho : Own w2 w.heap.size E 9 v (((l.take m).filter (fun x => x.client == q)).length + 1) (((l.take m).filter (fun x => x.client == q)).flatMap EntryD.ints ++ e.ints)) (hb : Below w.heap.size w w2) : OfRel w E n l q v i w2 := by
  have ht : l.take (m + 1) = l.take m ++ [e] := by
    obtain ⟨h1, rfl⟩ := List.getElem?_eq_some_iff.1 he
    exact List.take_succ_eq_append_getElem h1
  refine ⟨m + 1, v, hlt, hi, rfl, ?_, hb⟩
  rw [ht, List.filter_append]
  simpa [hq, List.filter_cons] using ho
theorem OfRel.skip {w w2 : World} {E n m : Nat} {l : List EntryD} {q : Int} {v i : Value} {e : EntryD} (hlt : m < n) (he : l[m]? = some e) (hq : (e.client == q) = false) (hi : i = .int .i64 ((m + 1 : Nat) : Int))
    (ho : Own w2 w.heap.size E 9 v ((l.take m).filter (fun x => x.client == q)).length (((l.take m).filter (fun x => x.client == q)).flatMap EntryD.ints)) (hb : Below w.heap.size w w2) : OfRel w E n l q v i w2 := by
  have ht : l.take (m + 1) = l.take m ++ [e] := by
    obtain ⟨h1, rfl⟩ := List.getElem?_eq_some_iff.1 he
    exact List.take_succ_eq_append_getElem h1
  refine ⟨m + 1, v, hlt, hi, rfl, ?_, hb⟩
  rw [ht, List.filter_append]
  simpa [hq, List.filter_cons] using ho
end Go.Proofs.Ytgnilmdaegnaaaa
