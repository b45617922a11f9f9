/- The closed facts of the row of FnExactYardNew, part by part. Printed by wip/closed.py. -/
import Derived.Test.YtocomclenbhhaaaGreatKS
namespace Go.Proofs.YtocomclenbhhaaaGreat
open Go
theorem fnExactYardNew_c0 : (fun (s : ChangeSpec) (c : OpenClaim) => c.wf (OpenSpec.ofChange s)) Rows.fnExactYardNewSpec Rows.fnExactYardNewRow = true := by kernel_rfl
theorem fnExactYardNew_c3 : (fun (P : Program) (fn : Func) => fn.params.all (P.readableRec ·)) Tryz.prog Tryz.f3 = true := by kernel_rfl
theorem fnExactYardNew_c4 : (fun (P : Program) (s : ChangeSpec) (c : OpenClaim) => namedTie P c.named s.vars) Tryz.prog Rows.fnExactYardNewSpec Rows.fnExactYardNewRow = true := by kernel_rfl
theorem fnExactYardNew_c5 : (fun (c : OpenClaim) => (c.stops == [])) Rows.fnExactYardNewRow = true := by kernel_rfl
theorem fnExactYardNew_c7 : (fun (c : OpenClaim) => (c.knobs == [])) Rows.fnExactYardNewRow = true := by kernel_rfl
theorem fnExactYardNew_c9 : (fun (P : Program) (f : FuncId) (c : OpenClaim) => (c.inPlace == P.inPlace f)) Tryz.prog 3 Rows.fnExactYardNewRow = true := by kernel_rfl
theorem fnExactYardNew_c10 : (fun (P : Program) (f : FuncId) (c : OpenClaim) => (c.unfollowed == P.unfollowed f)) Tryz.prog 3 Rows.fnExactYardNewRow = true := by kernel_rfl
theorem fnExactYardNew_c11 : (fun (P : Program) (f : FuncId) (c : OpenClaim) => (c.recurses == P.recurses f)) Tryz.prog 3 Rows.fnExactYardNewRow = true := by kernel_rfl
theorem fnExactYardNew_c12 : (fun (P : Program) (f : FuncId) (c : OpenClaim) => (c.named == P.varsNamed f)) Tryz.prog 3 Rows.fnExactYardNewRow = true := by kernel_rfl
theorem fnExactYardNew_c13 : (fun (P : Program) (fn : Func) (s : ChangeSpec) (c : OpenClaim) => (c.maps == (fn.params.toList ++ s.plain.varTypes P).any (P.mapsRec ·))) Tryz.prog Tryz.f3 Rows.fnExactYardNewSpec Rows.fnExactYardNewRow = true := by kernel_rfl
theorem fnExactYardNew_c14 : (fun (P : Program) (fn : Func) (s : ChangeSpec) (c : OpenClaim) => (c.ifaces == (fn.params.toList ++ s.plain.varTypes P).any (P.ifacesRec ·))) Tryz.prog Tryz.f3 Rows.fnExactYardNewSpec Rows.fnExactYardNewRow = true := by kernel_rfl
theorem fnExactYardNew_c15 : (fun (P : Program) (fn : Func) (c : OpenClaim) => (c.mapsOut == P.mapsAmong fn.resultTypes.toList)) Tryz.prog Tryz.f3 Rows.fnExactYardNewRow = true := by kernel_rfl
theorem fnExactYardNew_c16 : (fun (P : Program) (fn : Func) (s : ChangeSpec) (c : OpenClaim) => (c.loops == (fn.params.toList ++ s.plain.varTypes P).any (P.loopsFrom ·))) Tryz.prog Tryz.f3 Rows.fnExactYardNewSpec Rows.fnExactYardNewRow = true := by kernel_rfl
theorem fnExactYardNew_c17 : (fun (P : Program) (fn : Func) (s : ChangeSpec) (c : OpenClaim) => (c.wideKeys == (fn.params.toList ++ s.plain.varTypes P ++ fn.resultTypes.toList).any (P.wideKeysFrom ·))) Tryz.prog Tryz.f3 Rows.fnExactYardNewSpec Rows.fnExactYardNewRow = true := by kernel_rfl
theorem fnExactYardNew_c18 : (fun (P : Program) (s : ChangeSpec) => s.vars.all (P.varReadable ·)) Tryz.prog Rows.fnExactYardNewSpec = true := by kernel_rfl
theorem fnExactYardNew_c19 : (fun (P : Program) (fn : Func) => fn.resultTypes.all (fun t => P.readableRec t && decide (t < P.types.size))) Tryz.prog Tryz.f3 = true := by kernel_rfl
theorem fnExactYardNew_c20 : (fun (P : Program) (fn : Func) (c : OpenClaim) => (c.ifacesOut == fn.resultTypes.toList.any (P.ifacesRec ·))) Tryz.prog Tryz.f3 Rows.fnExactYardNewRow = true := by kernel_rfl
theorem fnExactYardNew_c21 : (fun (P : Program) (fn : Func) (c : OpenClaim) => (c.loopsOut == fn.resultTypes.toList.any (P.loopsFrom ·))) Tryz.prog Tryz.f3 Rows.fnExactYardNewRow = true := by kernel_rfl
theorem fnExactYardNew_c22 : (fun (P : Program) (c : OpenClaim) => (c.plainKeys == P.plainKeys)) Tryz.prog Rows.fnExactYardNewRow = true := by kernel_rfl
theorem fnExactYardNew_c23 : (fun (c : OpenClaim) => c.shortTexts.isNone) Rows.fnExactYardNewRow = true := by kernel_rfl
theorem fnExactYardNew_c26 : (fun (P : Program) (c : OpenClaim) => (c.lifted == P.liftsFinal)) Tryz.prog Rows.fnExactYardNewRow = true := by kernel_rfl
theorem fnExactYardNew_c27 : (fun (P : Program) (c : OpenClaim) => (P.make == some c.make)) Tryz.prog Rows.fnExactYardNewRow = true := by kernel_rfl
theorem fnExactYardNew_c28 : (fun (P : Program) (fn : Func) (c : OpenClaim) => (c.kinds == (if c.domain.isEmpty then [] else fn.params.toList.map fun t => match P.underlying t with | some (.int k) => some k | _ => none))) Tryz.prog Tryz.f3 Rows.fnExactYardNewRow = true := by kernel_rfl
theorem fnExactYardNew_c29 : (fun (c : OpenClaim) => (c.pinned == c.pinnedBy)) Rows.fnExactYardNewRow = true := by kernel_rfl
theorem fnExactYardNew_c30 : (fun (P : Program) (fn : Func) (s : ChangeSpec) (c : OpenClaim) => (c.veiled == (fn.params.toList ++ s.plain.varTypes P ++ fn.resultTypes.toList).any (P.veiledRec ·))) Tryz.prog Tryz.f3 Rows.fnExactYardNewSpec Rows.fnExactYardNewRow = true := by kernel_rfl
theorem fnExactYardNew_c31 : (fun (P : Program) (fn : Func) (s : ChangeSpec) (c : OpenClaim) => c.veiledFits P fn.params.toList (fn.params.toList ++ s.plain.varTypes P ++ fn.resultTypes.toList)) Tryz.prog Tryz.f3 Rows.fnExactYardNewSpec Rows.fnExactYardNewRow = true := by kernel_rfl
set_option maxRecDepth 100000 in
theorem fnExactYardNew_closed : joinedFacts Tryz.prog 3 Tryz.f3 Rows.fnExactYardNewSpec Rows.fnExactYardNewRow = true := andT (andT (andT (andT (andT (andT (andT (andT (andT (andT (andT (andT (andT (andT (andT (andT (andT (andT (andT (andT (andT (andT (andT (andT (andT (andT (andT (andT (andT (andT (andT fnExactYardNew_c0 seat1) seat2) fnExactYardNew_c3) fnExactYardNew_c4) fnExactYardNew_c5) seat6) fnExactYardNew_c7) seat8) fnExactYardNew_c9) fnExactYardNew_c10) fnExactYardNew_c11) fnExactYardNew_c12) fnExactYardNew_c13) fnExactYardNew_c14) fnExactYardNew_c15) fnExactYardNew_c16) fnExactYardNew_c17) fnExactYardNew_c18) fnExactYardNew_c19) fnExactYardNew_c20) fnExactYardNew_c21) fnExactYardNew_c22) fnExactYardNew_c23) seat24) seat25) fnExactYardNew_c26) fnExactYardNew_c27) fnExactYardNew_c28) fnExactYardNew_c29) fnExactYardNew_c30) fnExactYardNew_c31
end Go.Proofs.YtocomclenbhhaaaGreat
