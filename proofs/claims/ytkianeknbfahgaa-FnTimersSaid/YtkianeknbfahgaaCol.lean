/- Loops that collect: rows of the elements that pass a test. No conditions. -/
import Derived.Test.YtkianeknbfahgaaApp
import Derived.Test.YtkianeknbfahgaaHelp
import Derived.Test.YtkianeknbfahgaaHelp1
set_option linter.unusedSimpArgs false
set_option linter.unusedVariables false
namespace Go.Proofs.Ytkianeknbfahgaa
open Go.RowKit

/-- What has been collected after m rounds: of each element with p, the numbers f. -/
def ColRel {α : Type} (w : World) (E n k : Nat) (p : α → Bool) (f : α → List Int) (l : List α) (v i : Value) (wr : World) : Prop :=
  ∃ (m : Nat) (u : Value), m ≤ n ∧ i = .int .i64 (m : Nat) ∧ v = u ∧ Own wr w.heap.size E k u ((l.take m).filter p).length (((l.take m).filter p).flatMap f) ∧ Below w.heap.size w wr
section
variable {α : Type} {w w2 : World} {E n k m : Nat} {p : α → Bool} {f : α → List Int} {l : List α} {v i : Value} {e : α}
theorem ColRel.step (hlt : m < n) (he : l[m]? = some e) (hq : p e = true) (hi : i = .int .i64 ((m + 1 : Nat) : Int))
    (ho : Own w2 w.heap.size E k v (((l.take m).filter p).length + 1) (((l.take m).filter p).flatMap f ++ f e)) (hb : Below w.heap.size w w2) : ColRel w E n k p f l v i w2 := by
  have ht : l.take (m + 1) = l.take m ++ [e] := by
    obtain ⟨h1, rfl⟩ := List.getElem?_eq_some_iff.1 he
    exact List.take_succ_eq_append_getElem h1
  refine ⟨m + 1, v, hlt, hi, rfl, ?_, hb⟩
  rw [ht, List.filter_append]
  simpa [hq, List.filter_cons] using ho
theorem ColRel.skip (hlt : m < n) (he : l[m]? = some e) (hq : p e = false) (hi : i = .int .i64 ((m + 1 : Nat) : Int))
    (ho : Own w2 w.heap.size E k v ((l.take m).filter p).length (((l.take m).filter p).flatMap f)) (hb : Below w.heap.size w w2) : ColRel w E n k p f l v i w2 := by
  have ht : l.take (m + 1) = l.take m ++ [e] := by
    obtain ⟨h1, rfl⟩ := List.getElem?_eq_some_iff.1 he
    exact List.take_succ_eq_append_getElem h1
  refine ⟨m + 1, v, hlt, hi, rfl, ?_, hb⟩
  rw [ht, List.filter_append]
  simpa [hq, List.filter_cons] using ho
theorem ColRel.done (hl : l.length = n)
    (ho : Own w2 w.heap.size E k v ((l.take n).filter p).length (((l.take n).filter p).flatMap f)) (hb : Below w.heap.size w w2) :
    SlRes w k (l.filter p).length ((l.filter p).flatMap f) (.returned v) w2 := by
  rw [List.take_of_length_le (by omega)] at ho
  obtain ⟨A, c, rfl, s⟩ := ho.sl
  exact ⟨A, c, rfl, s, hb⟩
end

end Go.Proofs.Ytkianeknbfahgaa
