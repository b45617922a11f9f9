/- The closed facts of the row of FnExactTasksRight. Printed by wip/law.py. -/
import Derived.Test.YtiphkblffpdcgaaRows
import Derived.ProofKit
namespace Go.Proofs.Ytiphkblffpdcgaa
theorem fnExactTasksRight_closed : joinedFacts Try.prog 3 Try.f3 Rows.fnExactTasksRightSpec Rows.fnExactTasksRightRow = true := by kernel_rfl
end Go.Proofs.Ytiphkblffpdcgaa
