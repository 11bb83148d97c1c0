/- What the laws' helpers do: they copy, compare, mark and look at slices of numbers. No conditions. -/
import Derived.Test.YtgnilmdaegnaaaaZScal
import Derived.Test.YtgnilmdaegnaaaaZPost
import Derived.StillTailTactics
import Derived.Deep.QuietTactic
import Derived.BigQuiet
set_option linter.unusedSimpArgs false
set_option linter.unusedVariables false
namespace Go.Proofs.Ytgnilmdaegnaaaa
open Go.RowKit
theorem info64 : (Try.prog.info? 2).map (fun i => (i.zero, i.size, i.bytes)) = some (some (.int .i64 0), 1, 8) := by kernel_rfl
end Go.Proofs.Ytgnilmdaegnaaaa
