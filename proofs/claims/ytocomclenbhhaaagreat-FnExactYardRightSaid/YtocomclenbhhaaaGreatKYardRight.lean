/- The closed facts of the row of FnExactYardRight, part by part. Printed by wip/closed.py. -/
import Derived.Test.YtocomclenbhhaaaGreatKS
namespace Go.Proofs.YtocomclenbhhaaaGreat
open Go
theorem fnExactYardRight_c0 : (fun (s : ChangeSpec) (c : OpenClaim) => c.wf (OpenSpec.ofChange s)) Rows.fnExactYardRightSpec Rows.fnExactYardRightRow = true := by kernel_rfl
theorem fnExactYardRight_c3 : (fun (P : Program) (fn : Func) => fn.params.all (P.readableRec ·)) Tryz.prog Tryz.f4 = true := by kernel_rfl
theorem fnExactYardRight_c4 : (fun (P : Program) (s : ChangeSpec) (c : OpenClaim) => namedTie P c.named s.vars) Tryz.prog Rows.fnExactYardRightSpec Rows.fnExactYardRightRow = true := by kernel_rfl
theorem fnExactYardRight_c5 : (fun (c : OpenClaim) => (c.stops == [])) Rows.fnExactYardRightRow = true := by kernel_rfl
theorem fnExactYardRight_c7 : (fun (c : OpenClaim) => (c.knobs == [])) Rows.fnExactYardRightRow = true := by kernel_rfl
theorem fnExactYardRight_c9 : (fun (P : Program) (f : FuncId) (c : OpenClaim) => (c.inPlace == P.inPlace f)) Tryz.prog 4 Rows.fnExactYardRightRow = true := by kernel_rfl
theorem fnExactYardRight_c10 : (fun (P : Program) (f : FuncId) (c : OpenClaim) => (c.unfollowed == P.unfollowed f)) Tryz.prog 4 Rows.fnExactYardRightRow = true := by kernel_rfl
theorem fnExactYardRight_c11 : (fun (P : Program) (f : FuncId) (c : OpenClaim) => (c.recurses == P.recurses f)) Tryz.prog 4 Rows.fnExactYardRightRow = true := by kernel_rfl
theorem fnExactYardRight_c12 : (fun (P : Program) (f : FuncId) (c : OpenClaim) => (c.named == P.varsNamed f)) Tryz.prog 4 Rows.fnExactYardRightRow = true := by kernel_rfl
theorem fnExactYardRight_c13 : (fun (P : Program) (fn : Func) (s : ChangeSpec) (c : OpenClaim) => (c.maps == (fn.params.toList ++ s.plain.varTypes P).any (P.mapsRec ·))) Tryz.prog Tryz.f4 Rows.fnExactYardRightSpec Rows.fnExactYardRightRow = true := by kernel_rfl
theorem fnExactYardRight_c14 : (fun (P : Program) (fn : Func) (s : ChangeSpec) (c : OpenClaim) => (c.ifaces == (fn.params.toList ++ s.plain.varTypes P).any (P.ifacesRec ·))) Tryz.prog Tryz.f4 Rows.fnExactYardRightSpec Rows.fnExactYardRightRow = true := by kernel_rfl
theorem fnExactYardRight_c15 : (fun (P : Program) (fn : Func) (c : OpenClaim) => (c.mapsOut == P.mapsAmong fn.resultTypes.toList)) Tryz.prog Tryz.f4 Rows.fnExactYardRightRow = true := by kernel_rfl
theorem fnExactYardRight_c16 : (fun (P : Program) (fn : Func) (s : ChangeSpec) (c : OpenClaim) => (c.loops == (fn.params.toList ++ s.plain.varTypes P).any (P.loopsFrom ·))) Tryz.prog Tryz.f4 Rows.fnExactYardRightSpec Rows.fnExactYardRightRow = true := by kernel_rfl
theorem fnExactYardRight_c17 : (fun (P : Program) (fn : Func) (s : ChangeSpec) (c : OpenClaim) => (c.wideKeys == (fn.params.toList ++ s.plain.varTypes P ++ fn.resultTypes.toList).any (P.wideKeysFrom ·))) Tryz.prog Tryz.f4 Rows.fnExactYardRightSpec Rows.fnExactYardRightRow = true := by kernel_rfl
theorem fnExactYardRight_c18 : (fun (P : Program) (s : ChangeSpec) => s.vars.all (P.varReadable ·)) Tryz.prog Rows.fnExactYardRightSpec = true := by kernel_rfl
theorem fnExactYardRight_c19 : (fun (P : Program) (fn : Func) => fn.resultTypes.all (fun t => P.readableRec t && decide (t < P.types.size))) Tryz.prog Tryz.f4 = true := by kernel_rfl
theorem fnExactYardRight_c20 : (fun (P : Program) (fn : Func) (c : OpenClaim) => (c.ifacesOut == fn.resultTypes.toList.any (P.ifacesRec ·))) Tryz.prog Tryz.f4 Rows.fnExactYardRightRow = true := by kernel_rfl
theorem fnExactYardRight_c21 : (fun (P : Program) (fn : Func) (c : OpenClaim) => (c.loopsOut == fn.resultTypes.toList.any (P.loopsFrom ·))) Tryz.prog Tryz.f4 Rows.fnExactYardRightRow = true := by kernel_rfl
theorem fnExactYardRight_c22 : (fun (P : Program) (c : OpenClaim) => (c.plainKeys == P.plainKeys)) Tryz.prog Rows.fnExactYardRightRow = true := by kernel_rfl
theorem fnExactYardRight_c23 : (fun (c : OpenClaim) => c.shortTexts.isNone) Rows.fnExactYardRightRow = true := by kernel_rfl
theorem fnExactYardRight_c26 : (fun (P : Program) (c : OpenClaim) => (c.lifted == P.liftsFinal)) Tryz.prog Rows.fnExactYardRightRow = true := by kernel_rfl
theorem fnExactYardRight_c27 : (fun (P : Program) (c : OpenClaim) => (P.make == some c.make)) Tryz.prog Rows.fnExactYardRightRow = true := by kernel_rfl
theorem fnExactYardRight_c28 : (fun (P : Program) (fn : Func) (c : OpenClaim) => (c.kinds == (if c.domain.isEmpty then [] else fn.params.toList.map fun t => match P.underlying t with | some (.int k) => some k | _ => none))) Tryz.prog Tryz.f4 Rows.fnExactYardRightRow = true := by kernel_rfl
theorem fnExactYardRight_c29 : (fun (c : OpenClaim) => (c.pinned == c.pinnedBy)) Rows.fnExactYardRightRow = true := by kernel_rfl
theorem fnExactYardRight_c30 : (fun (P : Program) (fn : Func) (s : ChangeSpec) (c : OpenClaim) => (c.veiled == (fn.params.toList ++ s.plain.varTypes P ++ fn.resultTypes.toList).any (P.veiledRec ·))) Tryz.prog Tryz.f4 Rows.fnExactYardRightSpec Rows.fnExactYardRightRow = true := by kernel_rfl
theorem fnExactYardRight_c31 : (fun (P : Program) (fn : Func) (s : ChangeSpec) (c : OpenClaim) => c.veiledFits P fn.params.toList (fn.params.toList ++ s.plain.varTypes P ++ fn.resultTypes.toList)) Tryz.prog Tryz.f4 Rows.fnExactYardRightSpec Rows.fnExactYardRightRow = true := by kernel_rfl
set_option maxRecDepth 100000 in
theorem fnExactYardRight_closed : joinedFacts Tryz.prog 4 Tryz.f4 Rows.fnExactYardRightSpec Rows.fnExactYardRightRow = true := andT (andT (andT (andT (andT (andT (andT (andT (andT (andT (andT (andT (andT (andT (andT (andT (andT (andT (andT (andT (andT (andT (andT (andT (andT (andT (andT (andT (andT (andT (andT fnExactYardRight_c0 seat1) seat2) fnExactYardRight_c3) fnExactYardRight_c4) fnExactYardRight_c5) seat6) fnExactYardRight_c7) seat8) fnExactYardRight_c9) fnExactYardRight_c10) fnExactYardRight_c11) fnExactYardRight_c12) fnExactYardRight_c13) fnExactYardRight_c14) fnExactYardRight_c15) fnExactYardRight_c16) fnExactYardRight_c17) fnExactYardRight_c18) fnExactYardRight_c19) fnExactYardRight_c20) fnExactYardRight_c21) fnExactYardRight_c22) fnExactYardRight_c23) seat24) seat25) fnExactYardRight_c26) fnExactYardRight_c27) fnExactYardRight_c28) fnExactYardRight_c29) fnExactYardRight_c30) fnExactYardRight_c31
end Go.Proofs.YtocomclenbhhaaaGreat
