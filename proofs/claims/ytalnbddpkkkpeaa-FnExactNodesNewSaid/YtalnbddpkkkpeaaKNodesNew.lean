/- The closed facts of the row of FnExactNodesNew, part by part. Printed by wip/closed.py. -/
import Derived.Test.YtalnbddpkkkpeaaKS
namespace Go.Proofs.Ytalnbddpkkkpeaa
open Go
theorem fnExactNodesNew_c0 : (fun (s : ChangeSpec) (c : OpenClaim) => c.wf (OpenSpec.ofChange s)) Rows.fnExactNodesNewSpec Rows.fnExactNodesNewRow = true := by kernel_rfl
theorem fnExactNodesNew_c3 : (fun (P : Program) (fn : Func) => fn.params.all (P.readableRec ·)) Try.prog Try.f3 = true := by kernel_rfl
theorem fnExactNodesNew_c4 : (fun (P : Program) (s : ChangeSpec) (c : OpenClaim) => namedTie P c.named s.vars) Try.prog Rows.fnExactNodesNewSpec Rows.fnExactNodesNewRow = true := by kernel_rfl
theorem fnExactNodesNew_c5 : (fun (c : OpenClaim) => (c.stops == [])) Rows.fnExactNodesNewRow = true := by kernel_rfl
theorem fnExactNodesNew_c7 : (fun (c : OpenClaim) => (c.knobs == [])) Rows.fnExactNodesNewRow = true := by kernel_rfl
theorem fnExactNodesNew_c9 : (fun (P : Program) (f : FuncId) (c : OpenClaim) => (c.inPlace == P.inPlace f)) Try.prog 3 Rows.fnExactNodesNewRow = true := by kernel_rfl
theorem fnExactNodesNew_c10 : (fun (P : Program) (f : FuncId) (c : OpenClaim) => (c.unfollowed == P.unfollowed f)) Try.prog 3 Rows.fnExactNodesNewRow = true := by kernel_rfl
theorem fnExactNodesNew_c11 : (fun (P : Program) (f : FuncId) (c : OpenClaim) => (c.recurses == P.recurses f)) Try.prog 3 Rows.fnExactNodesNewRow = true := by kernel_rfl
theorem fnExactNodesNew_c12 : (fun (P : Program) (f : FuncId) (c : OpenClaim) => (c.named == P.varsNamed f)) Try.prog 3 Rows.fnExactNodesNewRow = true := by kernel_rfl
theorem fnExactNodesNew_c13 : (fun (P : Program) (fn : Func) (s : ChangeSpec) (c : OpenClaim) => (c.maps == (fn.params.toList ++ s.plain.varTypes P).any (P.mapsRec ·))) Try.prog Try.f3 Rows.fnExactNodesNewSpec Rows.fnExactNodesNewRow = true := by kernel_rfl
theorem fnExactNodesNew_c14 : (fun (P : Program) (fn : Func) (s : ChangeSpec) (c : OpenClaim) => (c.ifaces == (fn.params.toList ++ s.plain.varTypes P).any (P.ifacesRec ·))) Try.prog Try.f3 Rows.fnExactNodesNewSpec Rows.fnExactNodesNewRow = true := by kernel_rfl
theorem fnExactNodesNew_c15 : (fun (P : Program) (fn : Func) (c : OpenClaim) => (c.mapsOut == P.mapsAmong fn.resultTypes.toList)) Try.prog Try.f3 Rows.fnExactNodesNewRow = true := by kernel_rfl
theorem fnExactNodesNew_c16 : (fun (P : Program) (fn : Func) (s : ChangeSpec) (c : OpenClaim) => (c.loops == (fn.params.toList ++ s.plain.varTypes P).any (P.loopsFrom ·))) Try.prog Try.f3 Rows.fnExactNodesNewSpec Rows.fnExactNodesNewRow = true := by kernel_rfl
theorem fnExactNodesNew_c17 : (fun (P : Program) (fn : Func) (s : ChangeSpec) (c : OpenClaim) => (c.wideKeys == (fn.params.toList ++ s.plain.varTypes P ++ fn.resultTypes.toList).any (P.wideKeysFrom ·))) Try.prog Try.f3 Rows.fnExactNodesNewSpec Rows.fnExactNodesNewRow = true := by kernel_rfl
theorem fnExactNodesNew_c18 : (fun (P : Program) (s : ChangeSpec) => s.vars.all (P.varReadable ·)) Try.prog Rows.fnExactNodesNewSpec = true := by kernel_rfl
theorem fnExactNodesNew_c19 : (fun (P : Program) (fn : Func) => fn.resultTypes.all (fun t => P.readableRec t && decide (t < P.types.size))) Try.prog Try.f3 = true := by kernel_rfl
theorem fnExactNodesNew_c20 : (fun (P : Program) (fn : Func) (c : OpenClaim) => (c.ifacesOut == fn.resultTypes.toList.any (P.ifacesRec ·))) Try.prog Try.f3 Rows.fnExactNodesNewRow = true := by kernel_rfl
theorem fnExactNodesNew_c21 : (fun (P : Program) (fn : Func) (c : OpenClaim) => (c.loopsOut == fn.resultTypes.toList.any (P.loopsFrom ·))) Try.prog Try.f3 Rows.fnExactNodesNewRow = true := by kernel_rfl
theorem fnExactNodesNew_c22 : (fun (P : Program) (c : OpenClaim) => (c.plainKeys == P.plainKeys)) Try.prog Rows.fnExactNodesNewRow = true := by kernel_rfl
theorem fnExactNodesNew_c23 : (fun (c : OpenClaim) => c.shortTexts.isNone) Rows.fnExactNodesNewRow = true := by kernel_rfl
theorem fnExactNodesNew_c26 : (fun (P : Program) (c : OpenClaim) => (c.lifted == P.liftsFinal)) Try.prog Rows.fnExactNodesNewRow = true := by kernel_rfl
theorem fnExactNodesNew_c27 : (fun (P : Program) (c : OpenClaim) => (P.make == some c.make)) Try.prog Rows.fnExactNodesNewRow = true := by kernel_rfl
theorem fnExactNodesNew_c28 : (fun (P : Program) (fn : Func) (c : OpenClaim) => (c.kinds == (if c.domain.isEmpty then [] else fn.params.toList.map fun t => match P.underlying t with | some (.int k) => some k | _ => none))) Try.prog Try.f3 Rows.fnExactNodesNewRow = true := by kernel_rfl
theorem fnExactNodesNew_c29 : (fun (c : OpenClaim) => (c.pinned == c.pinnedBy)) Rows.fnExactNodesNewRow = true := by kernel_rfl
theorem fnExactNodesNew_c30 : (fun (P : Program) (fn : Func) (s : ChangeSpec) (c : OpenClaim) => (c.veiled == (fn.params.toList ++ s.plain.varTypes P ++ fn.resultTypes.toList).any (P.veiledRec ·))) Try.prog Try.f3 Rows.fnExactNodesNewSpec Rows.fnExactNodesNewRow = true := by kernel_rfl
theorem fnExactNodesNew_c31 : (fun (P : Program) (fn : Func) (s : ChangeSpec) (c : OpenClaim) => c.veiledFits P fn.params.toList (fn.params.toList ++ s.plain.varTypes P ++ fn.resultTypes.toList)) Try.prog Try.f3 Rows.fnExactNodesNewSpec Rows.fnExactNodesNewRow = true := by kernel_rfl
set_option maxRecDepth 100000 in
theorem fnExactNodesNew_closed : joinedFacts Try.prog 3 Try.f3 Rows.fnExactNodesNewSpec Rows.fnExactNodesNewRow = true := andT (andT (andT (andT (andT (andT (andT (andT (andT (andT (andT (andT (andT (andT (andT (andT (andT (andT (andT (andT (andT (andT (andT (andT (andT (andT (andT (andT (andT (andT (andT fnExactNodesNew_c0 seat1) seat2) fnExactNodesNew_c3) fnExactNodesNew_c4) fnExactNodesNew_c5) seat6) fnExactNodesNew_c7) seat8) fnExactNodesNew_c9) fnExactNodesNew_c10) fnExactNodesNew_c11) fnExactNodesNew_c12) fnExactNodesNew_c13) fnExactNodesNew_c14) fnExactNodesNew_c15) fnExactNodesNew_c16) fnExactNodesNew_c17) fnExactNodesNew_c18) fnExactNodesNew_c19) fnExactNodesNew_c20) fnExactNodesNew_c21) fnExactNodesNew_c22) fnExactNodesNew_c23) seat24) seat25) fnExactNodesNew_c26) fnExactNodesNew_c27) fnExactNodesNew_c28) fnExactNodesNew_c29) fnExactNodesNew_c30) fnExactNodesNew_c31
end Go.Proofs.Ytalnbddpkkkpeaa
