/- The closed facts of the row of FnExactLiveOf. Printed by wip/law.py. -/
import Derived.Test.YtiphkblffpdcgaaRows
import Derived.ProofKit
namespace Go.Proofs.Ytiphkblffpdcgaa
theorem fnExactLiveOf_closed : joinedFacts Try.prog 4 Try.f4 Rows.fnExactLiveOfSpec Rows.fnExactLiveOfRow = true := by kernel_rfl
end Go.Proofs.Ytiphkblffpdcgaa
