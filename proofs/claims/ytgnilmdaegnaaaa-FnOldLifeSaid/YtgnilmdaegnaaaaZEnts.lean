/- Lists of entries: what the program's and the reference's tests of them return. No conditions. -/
import Derived.Test.YtgnilmdaegnaaaaZHelp
import Derived.Test.YtgnilmdaegnaaaaZApp
import Derived.Lib.QuietBelow
import Derived.BigQuiet
import Derived.IntWalk
set_option linter.unusedSimpArgs false
set_option linter.unusedVariables false
namespace Go.Proofs.Ytgnilmdaegnaaaa
open Go.RowKit
def BoolRes (w : World) (b : Bool) (e : Ending) (w' : World) : Prop := e = .returned (.bool b) ∧ Below w.heap.size w w'
end Go.Proofs.Ytgnilmdaegnaaaa
