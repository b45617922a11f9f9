/- The closed facts of the row of FnExactNodeSet, part by part. Printed by wip/closed.py. -/
import Derived.Test.YtalnbddpkkkpeaaKS
namespace Go.Proofs.Ytalnbddpkkkpeaa
open Go
theorem fnExactNodeSet_c0 : (fun (s : ChangeSpec) (c : OpenClaim) => c.wf (OpenSpec.ofChange s)) Rows.fnExactNodeSetSpec Rows.fnExactNodeSetRow = true := by kernel_rfl
theorem fnExactNodeSet_c3 : (fun (P : Program) (fn : Func) => fn.params.all (P.readableRec ·)) Try.prog Try.f11 = true := by kernel_rfl
theorem fnExactNodeSet_c4 : (fun (P : Program) (s : ChangeSpec) (c : OpenClaim) => namedTie P c.named s.vars) Try.prog Rows.fnExactNodeSetSpec Rows.fnExactNodeSetRow = true := by kernel_rfl
theorem fnExactNodeSet_c5 : (fun (c : OpenClaim) => (c.stops == [])) Rows.fnExactNodeSetRow = true := by kernel_rfl
theorem fnExactNodeSet_c7 : (fun (c : OpenClaim) => (c.knobs == [])) Rows.fnExactNodeSetRow = true := by kernel_rfl
theorem fnExactNodeSet_c9 : (fun (P : Program) (f : FuncId) (c : OpenClaim) => (c.inPlace == P.inPlace f)) Try.prog 11 Rows.fnExactNodeSetRow = true := by kernel_rfl
theorem fnExactNodeSet_c10 : (fun (P : Program) (f : FuncId) (c : OpenClaim) => (c.unfollowed == P.unfollowed f)) Try.prog 11 Rows.fnExactNodeSetRow = true := by kernel_rfl
theorem fnExactNodeSet_c11 : (fun (P : Program) (f : FuncId) (c : OpenClaim) => (c.recurses == P.recurses f)) Try.prog 11 Rows.fnExactNodeSetRow = true := by kernel_rfl
theorem fnExactNodeSet_c12 : (fun (P : Program) (f : FuncId) (c : OpenClaim) => (c.named == P.varsNamed f)) Try.prog 11 Rows.fnExactNodeSetRow = true := by kernel_rfl
theorem fnExactNodeSet_c13 : (fun (P : Program) (fn : Func) (s : ChangeSpec) (c : OpenClaim) => (c.maps == (fn.params.toList ++ s.plain.varTypes P).any (P.mapsRec ·))) Try.prog Try.f11 Rows.fnExactNodeSetSpec Rows.fnExactNodeSetRow = true := by kernel_rfl
theorem fnExactNodeSet_c14 : (fun (P : Program) (fn : Func) (s : ChangeSpec) (c : OpenClaim) => (c.ifaces == (fn.params.toList ++ s.plain.varTypes P).any (P.ifacesRec ·))) Try.prog Try.f11 Rows.fnExactNodeSetSpec Rows.fnExactNodeSetRow = true := by kernel_rfl
theorem fnExactNodeSet_c15 : (fun (P : Program) (fn : Func) (c : OpenClaim) => (c.mapsOut == P.mapsAmong fn.resultTypes.toList)) Try.prog Try.f11 Rows.fnExactNodeSetRow = true := by kernel_rfl
theorem fnExactNodeSet_c16 : (fun (P : Program) (fn : Func) (s : ChangeSpec) (c : OpenClaim) => (c.loops == (fn.params.toList ++ s.plain.varTypes P).any (P.loopsFrom ·))) Try.prog Try.f11 Rows.fnExactNodeSetSpec Rows.fnExactNodeSetRow = true := by kernel_rfl
theorem fnExactNodeSet_c17 : (fun (P : Program) (fn : Func) (s : ChangeSpec) (c : OpenClaim) => (c.wideKeys == (fn.params.toList ++ s.plain.varTypes P ++ fn.resultTypes.toList).any (P.wideKeysFrom ·))) Try.prog Try.f11 Rows.fnExactNodeSetSpec Rows.fnExactNodeSetRow = true := by kernel_rfl
theorem fnExactNodeSet_c18 : (fun (P : Program) (s : ChangeSpec) => s.vars.all (P.varReadable ·)) Try.prog Rows.fnExactNodeSetSpec = true := by kernel_rfl
theorem fnExactNodeSet_c19 : (fun (P : Program) (fn : Func) => fn.resultTypes.all (fun t => P.readableRec t && decide (t < P.types.size))) Try.prog Try.f11 = true := by kernel_rfl
theorem fnExactNodeSet_c20 : (fun (P : Program) (fn : Func) (c : OpenClaim) => (c.ifacesOut == fn.resultTypes.toList.any (P.ifacesRec ·))) Try.prog Try.f11 Rows.fnExactNodeSetRow = true := by kernel_rfl
theorem fnExactNodeSet_c21 : (fun (P : Program) (fn : Func) (c : OpenClaim) => (c.loopsOut == fn.resultTypes.toList.any (P.loopsFrom ·))) Try.prog Try.f11 Rows.fnExactNodeSetRow = true := by kernel_rfl
theorem fnExactNodeSet_c22 : (fun (P : Program) (c : OpenClaim) => (c.plainKeys == P.plainKeys)) Try.prog Rows.fnExactNodeSetRow = true := by kernel_rfl
theorem fnExactNodeSet_c23 : (fun (c : OpenClaim) => c.shortTexts.isNone) Rows.fnExactNodeSetRow = true := by kernel_rfl
theorem fnExactNodeSet_c26 : (fun (P : Program) (c : OpenClaim) => (c.lifted == P.liftsFinal)) Try.prog Rows.fnExactNodeSetRow = true := by kernel_rfl
theorem fnExactNodeSet_c27 : (fun (P : Program) (c : OpenClaim) => (P.make == some c.make)) Try.prog Rows.fnExactNodeSetRow = true := by kernel_rfl
theorem fnExactNodeSet_c28 : (fun (P : Program) (fn : Func) (c : OpenClaim) => (c.kinds == (if c.domain.isEmpty then [] else fn.params.toList.map fun t => match P.underlying t with | some (.int k) => some k | _ => none))) Try.prog Try.f11 Rows.fnExactNodeSetRow = true := by kernel_rfl
theorem fnExactNodeSet_c29 : (fun (c : OpenClaim) => (c.pinned == c.pinnedBy)) Rows.fnExactNodeSetRow = true := by kernel_rfl
theorem fnExactNodeSet_c30 : (fun (P : Program) (fn : Func) (s : ChangeSpec) (c : OpenClaim) => (c.veiled == (fn.params.toList ++ s.plain.varTypes P ++ fn.resultTypes.toList).any (P.veiledRec ·))) Try.prog Try.f11 Rows.fnExactNodeSetSpec Rows.fnExactNodeSetRow = true := by kernel_rfl
theorem fnExactNodeSet_c31 : (fun (P : Program) (fn : Func) (s : ChangeSpec) (c : OpenClaim) => c.veiledFits P fn.params.toList (fn.params.toList ++ s.plain.varTypes P ++ fn.resultTypes.toList)) Try.prog Try.f11 Rows.fnExactNodeSetSpec Rows.fnExactNodeSetRow = true := by kernel_rfl
set_option maxRecDepth 100000 in
theorem fnExactNodeSet_closed : joinedFacts Try.prog 11 Try.f11 Rows.fnExactNodeSetSpec Rows.fnExactNodeSetRow = true := andT (andT (andT (andT (andT (andT (andT (andT (andT (andT (andT (andT (andT (andT (andT (andT (andT (andT (andT (andT (andT (andT (andT (andT (andT (andT (andT (andT (andT (andT (andT fnExactNodeSet_c0 seat1) seat2) fnExactNodeSet_c3) fnExactNodeSet_c4) fnExactNodeSet_c5) seat6) fnExactNodeSet_c7) seat8) fnExactNodeSet_c9) fnExactNodeSet_c10) fnExactNodeSet_c11) fnExactNodeSet_c12) fnExactNodeSet_c13) fnExactNodeSet_c14) fnExactNodeSet_c15) fnExactNodeSet_c16) fnExactNodeSet_c17) fnExactNodeSet_c18) fnExactNodeSet_c19) fnExactNodeSet_c20) fnExactNodeSet_c21) fnExactNodeSet_c22) fnExactNodeSet_c23) seat24) seat25) fnExactNodeSet_c26) fnExactNodeSet_c27) fnExactNodeSet_c28) fnExactNodeSet_c29) fnExactNodeSet_c30) fnExactNodeSet_c31
end Go.Proofs.Ytalnbddpkkkpeaa
