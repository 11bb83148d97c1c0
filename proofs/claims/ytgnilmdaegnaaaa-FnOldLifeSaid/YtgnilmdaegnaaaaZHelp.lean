/- What the laws' helpers do: they copy, compare, mark and look at slices of entries and of numbers. No conditions. -/
import Derived.Test.YtgnilmdaegnaaaaZScal
import Derived.Test.YtgnilmdaegnaaaaZPost
import Derived.StillTailTactics
set_option linter.unusedSimpArgs false
set_option linter.unusedVariables false
namespace Go.Proofs.Ytgnilmdaegnaaaa
open Go.RowKit
theorem infoMark : (Try.prog.info? 117).map (fun i => (i.zero, i.size, i.bytes)) = some (some (.agg #[.int .i64 0, .int .i64 0, .int .i64 0]), 3, 24) := by kernel_rfl
end Go.Proofs.Ytgnilmdaegnaaaa
