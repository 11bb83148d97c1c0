/- Disks: conversions and comparisons of whole disks. No conditions. -/
import Derived.Test.YtgnilmdaegnaaaaZDk2
set_option linter.unusedSimpArgs false
set_option linter.unusedVariables false
namespace Go.Proofs.Ytgnilmdaegnaaaa
open Go.RowKit
def DkRes (w : World) (n0 : Nat) (k0 : List (List Int)) (n1 : Nat) (v0 : List WriteD) (e : Ending) (w' : World) : Prop :=
  ∃ A0 c0 A1 c1, e = .returned (.agg #[.slice A0 n0 c0, .slice A1 n1 c1]) ∧ SlR w' w.heap.size w'.heap.size A0 n0 c0 k0 ∧ SlW w' w.heap.size w'.heap.size A1 n1 c1 v0 ∧ Below w.heap.size w w'
def TwRes (w : World) (n0 : Nat) (k0 : List (List Int)) (n1 : Nat) (v0 : List WriteD) (n2 : Nat) (k2 : List (List Int)) (n3 : Nat) (v2 : List WriteD) (e : Ending) (w' : World) : Prop :=
  ∃ A0 c0 A1 c1 A2 c2 A3 c3, e = .returned (.agg #[.slice A0 n0 c0, .slice A1 n1 c1, .slice A2 n2 c2, .slice A3 n3 c3]) ∧ SlR w' w.heap.size w'.heap.size A0 n0 c0 k0 ∧ SlW w' w.heap.size w'.heap.size A1 n1 c1 v0 ∧ SlR w' w.heap.size w'.heap.size A2 n2 c2 k2 ∧ SlW w' w.heap.size w'.heap.size A3 n3 c3 v2 ∧ Below w.heap.size w w'
end Go.Proofs.Ytgnilmdaegnaaaa
