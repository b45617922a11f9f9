/- The closed facts of the row of FnNodes, part by part. Printed by wip/closed.py. -/
import Derived.Test.YtbdicafambkhdaaKS
namespace Go.Proofs.Ytbdicafambkhdaa
open Go
theorem fnNodes_c0 : (fun (s : ChangeSpec) (c : OpenClaim) => c.wf (OpenSpec.ofChange s)) Rows.fnNodesSpec Rows.fnNodesRow = true := by kernel_rfl
theorem fnNodes_c3 : (fun (P : Program) (fn : Func) => fn.params.all (P.readableRec ·)) Try.prog Try.f3 = true := by kernel_rfl
theorem fnNodes_c4 : (fun (P : Program) (s : ChangeSpec) (c : OpenClaim) => namedTie P c.named s.vars) Try.prog Rows.fnNodesSpec Rows.fnNodesRow = true := by kernel_rfl
theorem fnNodes_c5 : (fun (c : OpenClaim) => (c.stops == [])) Rows.fnNodesRow = true := by kernel_rfl
theorem fnNodes_c7 : (fun (c : OpenClaim) => (c.knobs == [])) Rows.fnNodesRow = true := by kernel_rfl
theorem fnNodes_c9 : (fun (P : Program) (f : FuncId) (c : OpenClaim) => (c.inPlace == P.inPlace f)) Try.prog 3 Rows.fnNodesRow = true := by kernel_rfl
theorem fnNodes_c10 : (fun (P : Program) (f : FuncId) (c : OpenClaim) => (c.unfollowed == P.unfollowed f)) Try.prog 3 Rows.fnNodesRow = true := by kernel_rfl
theorem fnNodes_c11 : (fun (P : Program) (f : FuncId) (c : OpenClaim) => (c.recurses == P.recurses f)) Try.prog 3 Rows.fnNodesRow = true := by kernel_rfl
theorem fnNodes_c12 : (fun (P : Program) (f : FuncId) (c : OpenClaim) => (c.named == P.varsNamed f)) Try.prog 3 Rows.fnNodesRow = true := by kernel_rfl
theorem fnNodes_c13 : (fun (P : Program) (fn : Func) (s : ChangeSpec) (c : OpenClaim) => (c.maps == (fn.params.toList ++ s.plain.varTypes P).any (P.mapsRec ·))) Try.prog Try.f3 Rows.fnNodesSpec Rows.fnNodesRow = true := by kernel_rfl
theorem fnNodes_c14 : (fun (P : Program) (fn : Func) (s : ChangeSpec) (c : OpenClaim) => (c.ifaces == (fn.params.toList ++ s.plain.varTypes P).any (P.ifacesRec ·))) Try.prog Try.f3 Rows.fnNodesSpec Rows.fnNodesRow = true := by kernel_rfl
theorem fnNodes_c15 : (fun (P : Program) (fn : Func) (c : OpenClaim) => (c.mapsOut == P.mapsAmong fn.resultTypes.toList)) Try.prog Try.f3 Rows.fnNodesRow = true := by kernel_rfl
theorem fnNodes_c16 : (fun (P : Program) (fn : Func) (s : ChangeSpec) (c : OpenClaim) => (c.loops == (fn.params.toList ++ s.plain.varTypes P).any (P.loopsFrom ·))) Try.prog Try.f3 Rows.fnNodesSpec Rows.fnNodesRow = true := by kernel_rfl
theorem fnNodes_c17 : (fun (P : Program) (fn : Func) (s : ChangeSpec) (c : OpenClaim) => (c.wideKeys == (fn.params.toList ++ s.plain.varTypes P ++ fn.resultTypes.toList).any (P.wideKeysFrom ·))) Try.prog Try.f3 Rows.fnNodesSpec Rows.fnNodesRow = true := by kernel_rfl
theorem fnNodes_c18 : (fun (P : Program) (s : ChangeSpec) => s.vars.all (P.varReadable ·)) Try.prog Rows.fnNodesSpec = true := by kernel_rfl
theorem fnNodes_c19 : (fun (P : Program) (fn : Func) => fn.resultTypes.all (fun t => P.readableRec t && decide (t < P.types.size))) Try.prog Try.f3 = true := by kernel_rfl
theorem fnNodes_c20 : (fun (P : Program) (fn : Func) (c : OpenClaim) => (c.ifacesOut == fn.resultTypes.toList.any (P.ifacesRec ·))) Try.prog Try.f3 Rows.fnNodesRow = true := by kernel_rfl
theorem fnNodes_c21 : (fun (P : Program) (fn : Func) (c : OpenClaim) => (c.loopsOut == fn.resultTypes.toList.any (P.loopsFrom ·))) Try.prog Try.f3 Rows.fnNodesRow = true := by kernel_rfl
theorem fnNodes_c22 : (fun (P : Program) (c : OpenClaim) => (c.plainKeys == P.plainKeys)) Try.prog Rows.fnNodesRow = true := by kernel_rfl
theorem fnNodes_c23 : (fun (c : OpenClaim) => c.shortTexts.isNone) Rows.fnNodesRow = true := by kernel_rfl
theorem fnNodes_c26 : (fun (P : Program) (c : OpenClaim) => (c.lifted == P.liftsFinal)) Try.prog Rows.fnNodesRow = true := by kernel_rfl
theorem fnNodes_c27 : (fun (P : Program) (c : OpenClaim) => (P.make == some c.make)) Try.prog Rows.fnNodesRow = true := by kernel_rfl
theorem fnNodes_c28 : (fun (P : Program) (fn : Func) (c : OpenClaim) => (c.kinds == (if c.domain.isEmpty then [] else fn.params.toList.map fun t => match P.underlying t with | some (.int k) => some k | _ => none))) Try.prog Try.f3 Rows.fnNodesRow = true := by kernel_rfl
theorem fnNodes_c29 : (fun (c : OpenClaim) => (c.pinned == c.pinnedBy)) Rows.fnNodesRow = true := by kernel_rfl
theorem fnNodes_c30 : (fun (P : Program) (fn : Func) (s : ChangeSpec) (c : OpenClaim) => (c.veiled == (fn.params.toList ++ s.plain.varTypes P ++ fn.resultTypes.toList).any (P.veiledRec ·))) Try.prog Try.f3 Rows.fnNodesSpec Rows.fnNodesRow = true := by kernel_rfl
theorem fnNodes_c31 : (fun (P : Program) (fn : Func) (s : ChangeSpec) (c : OpenClaim) => c.veiledFits P fn.params.toList (fn.params.toList ++ s.plain.varTypes P ++ fn.resultTypes.toList)) Try.prog Try.f3 Rows.fnNodesSpec Rows.fnNodesRow = true := by kernel_rfl
set_option maxRecDepth 100000 in
theorem fnNodes_closed : joinedFacts Try.prog 3 Try.f3 Rows.fnNodesSpec Rows.fnNodesRow = true := andT (andT (andT (andT (andT (andT (andT (andT (andT (andT (andT (andT (andT (andT (andT (andT (andT (andT (andT (andT (andT (andT (andT (andT (andT (andT (andT (andT (andT (andT (andT fnNodes_c0 seat1) seat2) fnNodes_c3) fnNodes_c4) fnNodes_c5) seat6) fnNodes_c7) seat8) fnNodes_c9) fnNodes_c10) fnNodes_c11) fnNodes_c12) fnNodes_c13) fnNodes_c14) fnNodes_c15) fnNodes_c16) fnNodes_c17) fnNodes_c18) fnNodes_c19) fnNodes_c20) fnNodes_c21) fnNodes_c22) fnNodes_c23) seat24) seat25) fnNodes_c26) fnNodes_c27) fnNodes_c28) fnNodes_c29) fnNodes_c30) fnNodes_c31
end Go.Proofs.Ytbdicafambkhdaa
