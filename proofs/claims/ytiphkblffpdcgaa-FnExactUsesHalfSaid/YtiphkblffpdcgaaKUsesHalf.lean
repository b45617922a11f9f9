/- The closed facts of the row of FnExactUsesHalf. Printed by wip/law.py. -/
import Derived.Test.YtiphkblffpdcgaaRows
import Derived.ProofKit
namespace Go.Proofs.Ytiphkblffpdcgaa
theorem fnExactUsesHalf_closed : joinedFacts Try.prog 9 Try.f9 Rows.fnExactUsesHalfSpec Rows.fnExactUsesHalfRow = true := by kernel_rfl
end Go.Proofs.Ytiphkblffpdcgaa
