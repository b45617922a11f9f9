/- The closed facts of the row of FnExactYardModify, part by part. Printed by wip/closed.py. -/
import Derived.Test.YtngldifgcgblpaaGreatKS
namespace Go.Proofs.YtngldifgcgblpaaGreat
open Go
theorem fnExactYardModify_c0 : (fun (s : ChangeSpec) (c : OpenClaim) => c.wf (OpenSpec.ofChange s)) Rows.fnExactYardModifySpec Rows.fnExactYardModifyRow = true := by kernel_rfl
theorem fnExactYardModify_c3 : (fun (P : Program) (fn : Func) => fn.params.all (P.readableRec ·)) Tryz.prog Tryz.f7 = true := by kernel_rfl
theorem fnExactYardModify_c4 : (fun (P : Program) (s : ChangeSpec) (c : OpenClaim) => namedTie P c.named s.vars) Tryz.prog Rows.fnExactYardModifySpec Rows.fnExactYardModifyRow = true := by kernel_rfl
theorem fnExactYardModify_c5 : (fun (c : OpenClaim) => (c.stops == [])) Rows.fnExactYardModifyRow = true := by kernel_rfl
theorem fnExactYardModify_c7 : (fun (c : OpenClaim) => (c.knobs == [])) Rows.fnExactYardModifyRow = true := by kernel_rfl
theorem fnExactYardModify_c9 : (fun (P : Program) (f : FuncId) (c : OpenClaim) => (c.inPlace == P.inPlace f)) Tryz.prog 7 Rows.fnExactYardModifyRow = true := by kernel_rfl
theorem fnExactYardModify_c10 : (fun (P : Program) (f : FuncId) (c : OpenClaim) => (c.unfollowed == P.unfollowed f)) Tryz.prog 7 Rows.fnExactYardModifyRow = true := by kernel_rfl
theorem fnExactYardModify_c11 : (fun (P : Program) (f : FuncId) (c : OpenClaim) => (c.recurses == P.recurses f)) Tryz.prog 7 Rows.fnExactYardModifyRow = true := by kernel_rfl
theorem fnExactYardModify_c12 : (fun (P : Program) (f : FuncId) (c : OpenClaim) => (c.named == P.varsNamed f)) Tryz.prog 7 Rows.fnExactYardModifyRow = true := by kernel_rfl
theorem fnExactYardModify_c13 : (fun (P : Program) (fn : Func) (s : ChangeSpec) (c : OpenClaim) => (c.maps == (fn.params.toList ++ s.plain.varTypes P).any (P.mapsRec ·))) Tryz.prog Tryz.f7 Rows.fnExactYardModifySpec Rows.fnExactYardModifyRow = true := by kernel_rfl
theorem fnExactYardModify_c14 : (fun (P : Program) (fn : Func) (s : ChangeSpec) (c : OpenClaim) => (c.ifaces == (fn.params.toList ++ s.plain.varTypes P).any (P.ifacesRec ·))) Tryz.prog Tryz.f7 Rows.fnExactYardModifySpec Rows.fnExactYardModifyRow = true := by kernel_rfl
theorem fnExactYardModify_c15 : (fun (P : Program) (fn : Func) (c : OpenClaim) => (c.mapsOut == P.mapsAmong fn.resultTypes.toList)) Tryz.prog Tryz.f7 Rows.fnExactYardModifyRow = true := by kernel_rfl
theorem fnExactYardModify_c16 : (fun (P : Program) (fn : Func) (s : ChangeSpec) (c : OpenClaim) => (c.loops == (fn.params.toList ++ s.plain.varTypes P).any (P.loopsFrom ·))) Tryz.prog Tryz.f7 Rows.fnExactYardModifySpec Rows.fnExactYardModifyRow = true := by kernel_rfl
theorem fnExactYardModify_c17 : (fun (P : Program) (fn : Func) (s : ChangeSpec) (c : OpenClaim) => (c.wideKeys == (fn.params.toList ++ s.plain.varTypes P ++ fn.resultTypes.toList).any (P.wideKeysFrom ·))) Tryz.prog Tryz.f7 Rows.fnExactYardModifySpec Rows.fnExactYardModifyRow = true := by kernel_rfl
theorem fnExactYardModify_c18 : (fun (P : Program) (s : ChangeSpec) => s.vars.all (P.varReadable ·)) Tryz.prog Rows.fnExactYardModifySpec = true := by kernel_rfl
theorem fnExactYardModify_c19 : (fun (P : Program) (fn : Func) => fn.resultTypes.all (fun t => P.readableRec t && decide (t < P.types.size))) Tryz.prog Tryz.f7 = true := by kernel_rfl
theorem fnExactYardModify_c20 : (fun (P : Program) (fn : Func) (c : OpenClaim) => (c.ifacesOut == fn.resultTypes.toList.any (P.ifacesRec ·))) Tryz.prog Tryz.f7 Rows.fnExactYardModifyRow = true := by kernel_rfl
theorem fnExactYardModify_c21 : (fun (P : Program) (fn : Func) (c : OpenClaim) => (c.loopsOut == fn.resultTypes.toList.any (P.loopsFrom ·))) Tryz.prog Tryz.f7 Rows.fnExactYardModifyRow = true := by kernel_rfl
theorem fnExactYardModify_c22 : (fun (P : Program) (c : OpenClaim) => (c.plainKeys == P.plainKeys)) Tryz.prog Rows.fnExactYardModifyRow = true := by kernel_rfl
theorem fnExactYardModify_c23 : (fun (c : OpenClaim) => c.shortTexts.isNone) Rows.fnExactYardModifyRow = true := by kernel_rfl
theorem fnExactYardModify_c26 : (fun (P : Program) (c : OpenClaim) => (c.lifted == P.liftsFinal)) Tryz.prog Rows.fnExactYardModifyRow = true := by kernel_rfl
theorem fnExactYardModify_c27 : (fun (P : Program) (c : OpenClaim) => (P.make == some c.make)) Tryz.prog Rows.fnExactYardModifyRow = true := by kernel_rfl
theorem fnExactYardModify_c28 : (fun (P : Program) (fn : Func) (c : OpenClaim) => (c.kinds == (if c.domain.isEmpty then [] else fn.params.toList.map fun t => match P.underlying t with | some (.int k) => some k | _ => none))) Tryz.prog Tryz.f7 Rows.fnExactYardModifyRow = true := by kernel_rfl
theorem fnExactYardModify_c29 : (fun (c : OpenClaim) => (c.pinned == c.pinnedBy)) Rows.fnExactYardModifyRow = true := by kernel_rfl
theorem fnExactYardModify_c30 : (fun (P : Program) (fn : Func) (s : ChangeSpec) (c : OpenClaim) => (c.veiled == (fn.params.toList ++ s.plain.varTypes P ++ fn.resultTypes.toList).any (P.veiledRec ·))) Tryz.prog Tryz.f7 Rows.fnExactYardModifySpec Rows.fnExactYardModifyRow = true := by kernel_rfl
theorem fnExactYardModify_c31 : (fun (P : Program) (fn : Func) (s : ChangeSpec) (c : OpenClaim) => c.veiledFits P fn.params.toList (fn.params.toList ++ s.plain.varTypes P ++ fn.resultTypes.toList)) Tryz.prog Tryz.f7 Rows.fnExactYardModifySpec Rows.fnExactYardModifyRow = true := by kernel_rfl
set_option maxRecDepth 100000 in
theorem fnExactYardModify_closed : joinedFacts Tryz.prog 7 Tryz.f7 Rows.fnExactYardModifySpec Rows.fnExactYardModifyRow = true := andT (andT (andT (andT (andT (andT (andT (andT (andT (andT (andT (andT (andT (andT (andT (andT (andT (andT (andT (andT (andT (andT (andT (andT (andT (andT (andT (andT (andT (andT (andT fnExactYardModify_c0 seat1) seat2) fnExactYardModify_c3) fnExactYardModify_c4) fnExactYardModify_c5) seat6) fnExactYardModify_c7) seat8) fnExactYardModify_c9) fnExactYardModify_c10) fnExactYardModify_c11) fnExactYardModify_c12) fnExactYardModify_c13) fnExactYardModify_c14) fnExactYardModify_c15) fnExactYardModify_c16) fnExactYardModify_c17) fnExactYardModify_c18) fnExactYardModify_c19) fnExactYardModify_c20) fnExactYardModify_c21) fnExactYardModify_c22) fnExactYardModify_c23) seat24) seat25) fnExactYardModify_c26) fnExactYardModify_c27) fnExactYardModify_c28) fnExactYardModify_c29) fnExactYardModify_c30) fnExactYardModify_c31
end Go.Proofs.YtngldifgcgblpaaGreat
