/- The closed facts of the row of FnExactTaskReady. Printed by wip/law.py. -/
import Derived.Test.YtiphkblffpdcgaaRows
import Derived.ProofKit
namespace Go.Proofs.Ytiphkblffpdcgaa
theorem fnExactTaskReady_closed : joinedFacts Try.prog 5 Try.f5 Rows.fnExactTaskReadySpec Rows.fnExactTaskReadyRow = true := by kernel_rfl
end Go.Proofs.Ytiphkblffpdcgaa
