/- The closed facts of the row of FnExactYardView, part by part. Printed by wip/closed.py. -/
import Derived.Test.YtocomclenbhhaaaGreatKS
namespace Go.Proofs.YtocomclenbhhaaaGreat
open Go
theorem fnExactYardView_c0 : (fun (s : ChangeSpec) (c : OpenClaim) => c.wf (OpenSpec.ofChange s)) Rows.fnExactYardViewSpec Rows.fnExactYardViewRow = true := by kernel_rfl
theorem fnExactYardView_c3 : (fun (P : Program) (fn : Func) => fn.params.all (P.readableRec ·)) Tryz.prog Tryz.f5 = true := by kernel_rfl
theorem fnExactYardView_c4 : (fun (P : Program) (s : ChangeSpec) (c : OpenClaim) => namedTie P c.named s.vars) Tryz.prog Rows.fnExactYardViewSpec Rows.fnExactYardViewRow = true := by kernel_rfl
theorem fnExactYardView_c5 : (fun (c : OpenClaim) => (c.stops == [])) Rows.fnExactYardViewRow = true := by kernel_rfl
theorem fnExactYardView_c7 : (fun (c : OpenClaim) => (c.knobs == [])) Rows.fnExactYardViewRow = true := by kernel_rfl
theorem fnExactYardView_c9 : (fun (P : Program) (f : FuncId) (c : OpenClaim) => (c.inPlace == P.inPlace f)) Tryz.prog 5 Rows.fnExactYardViewRow = true := by kernel_rfl
theorem fnExactYardView_c10 : (fun (P : Program) (f : FuncId) (c : OpenClaim) => (c.unfollowed == P.unfollowed f)) Tryz.prog 5 Rows.fnExactYardViewRow = true := by kernel_rfl
theorem fnExactYardView_c11 : (fun (P : Program) (f : FuncId) (c : OpenClaim) => (c.recurses == P.recurses f)) Tryz.prog 5 Rows.fnExactYardViewRow = true := by kernel_rfl
theorem fnExactYardView_c12 : (fun (P : Program) (f : FuncId) (c : OpenClaim) => (c.named == P.varsNamed f)) Tryz.prog 5 Rows.fnExactYardViewRow = true := by kernel_rfl
theorem fnExactYardView_c13 : (fun (P : Program) (fn : Func) (s : ChangeSpec) (c : OpenClaim) => (c.maps == (fn.params.toList ++ s.plain.varTypes P).any (P.mapsRec ·))) Tryz.prog Tryz.f5 Rows.fnExactYardViewSpec Rows.fnExactYardViewRow = true := by kernel_rfl
theorem fnExactYardView_c14 : (fun (P : Program) (fn : Func) (s : ChangeSpec) (c : OpenClaim) => (c.ifaces == (fn.params.toList ++ s.plain.varTypes P).any (P.ifacesRec ·))) Tryz.prog Tryz.f5 Rows.fnExactYardViewSpec Rows.fnExactYardViewRow = true := by kernel_rfl
theorem fnExactYardView_c15 : (fun (P : Program) (fn : Func) (c : OpenClaim) => (c.mapsOut == P.mapsAmong fn.resultTypes.toList)) Tryz.prog Tryz.f5 Rows.fnExactYardViewRow = true := by kernel_rfl
theorem fnExactYardView_c16 : (fun (P : Program) (fn : Func) (s : ChangeSpec) (c : OpenClaim) => (c.loops == (fn.params.toList ++ s.plain.varTypes P).any (P.loopsFrom ·))) Tryz.prog Tryz.f5 Rows.fnExactYardViewSpec Rows.fnExactYardViewRow = true := by kernel_rfl
theorem fnExactYardView_c17 : (fun (P : Program) (fn : Func) (s : ChangeSpec) (c : OpenClaim) => (c.wideKeys == (fn.params.toList ++ s.plain.varTypes P ++ fn.resultTypes.toList).any (P.wideKeysFrom ·))) Tryz.prog Tryz.f5 Rows.fnExactYardViewSpec Rows.fnExactYardViewRow = true := by kernel_rfl
theorem fnExactYardView_c18 : (fun (P : Program) (s : ChangeSpec) => s.vars.all (P.varReadable ·)) Tryz.prog Rows.fnExactYardViewSpec = true := by kernel_rfl
theorem fnExactYardView_c19 : (fun (P : Program) (fn : Func) => fn.resultTypes.all (fun t => P.readableRec t && decide (t < P.types.size))) Tryz.prog Tryz.f5 = true := by kernel_rfl
theorem fnExactYardView_c20 : (fun (P : Program) (fn : Func) (c : OpenClaim) => (c.ifacesOut == fn.resultTypes.toList.any (P.ifacesRec ·))) Tryz.prog Tryz.f5 Rows.fnExactYardViewRow = true := by kernel_rfl
theorem fnExactYardView_c21 : (fun (P : Program) (fn : Func) (c : OpenClaim) => (c.loopsOut == fn.resultTypes.toList.any (P.loopsFrom ·))) Tryz.prog Tryz.f5 Rows.fnExactYardViewRow = true := by kernel_rfl
theorem fnExactYardView_c22 : (fun (P : Program) (c : OpenClaim) => (c.plainKeys == P.plainKeys)) Tryz.prog Rows.fnExactYardViewRow = true := by kernel_rfl
theorem fnExactYardView_c23 : (fun (c : OpenClaim) => c.shortTexts.isNone) Rows.fnExactYardViewRow = true := by kernel_rfl
theorem fnExactYardView_c26 : (fun (P : Program) (c : OpenClaim) => (c.lifted == P.liftsFinal)) Tryz.prog Rows.fnExactYardViewRow = true := by kernel_rfl
theorem fnExactYardView_c27 : (fun (P : Program) (c : OpenClaim) => (P.make == some c.make)) Tryz.prog Rows.fnExactYardViewRow = true := by kernel_rfl
theorem fnExactYardView_c28 : (fun (P : Program) (fn : Func) (c : OpenClaim) => (c.kinds == (if c.domain.isEmpty then [] else fn.params.toList.map fun t => match P.underlying t with | some (.int k) => some k | _ => none))) Tryz.prog Tryz.f5 Rows.fnExactYardViewRow = true := by kernel_rfl
theorem fnExactYardView_c29 : (fun (c : OpenClaim) => (c.pinned == c.pinnedBy)) Rows.fnExactYardViewRow = true := by kernel_rfl
theorem fnExactYardView_c30 : (fun (P : Program) (fn : Func) (s : ChangeSpec) (c : OpenClaim) => (c.veiled == (fn.params.toList ++ s.plain.varTypes P ++ fn.resultTypes.toList).any (P.veiledRec ·))) Tryz.prog Tryz.f5 Rows.fnExactYardViewSpec Rows.fnExactYardViewRow = true := by kernel_rfl
theorem fnExactYardView_c31 : (fun (P : Program) (fn : Func) (s : ChangeSpec) (c : OpenClaim) => c.veiledFits P fn.params.toList (fn.params.toList ++ s.plain.varTypes P ++ fn.resultTypes.toList)) Tryz.prog Tryz.f5 Rows.fnExactYardViewSpec Rows.fnExactYardViewRow = true := by kernel_rfl
set_option maxRecDepth 100000 in
theorem fnExactYardView_closed : joinedFacts Tryz.prog 5 Tryz.f5 Rows.fnExactYardViewSpec Rows.fnExactYardViewRow = true := andT (andT (andT (andT (andT (andT (andT (andT (andT (andT (andT (andT (andT (andT (andT (andT (andT (andT (andT (andT (andT (andT (andT (andT (andT (andT (andT (andT (andT (andT (andT fnExactYardView_c0 seat1) seat2) fnExactYardView_c3) fnExactYardView_c4) fnExactYardView_c5) seat6) fnExactYardView_c7) seat8) fnExactYardView_c9) fnExactYardView_c10) fnExactYardView_c11) fnExactYardView_c12) fnExactYardView_c13) fnExactYardView_c14) fnExactYardView_c15) fnExactYardView_c16) fnExactYardView_c17) fnExactYardView_c18) fnExactYardView_c19) fnExactYardView_c20) fnExactYardView_c21) fnExactYardView_c22) fnExactYardView_c23) seat24) seat25) fnExactYardView_c26) fnExactYardView_c27) fnExactYardView_c28) fnExactYardView_c29) fnExactYardView_c30) fnExactYardView_c31
end Go.Proofs.YtocomclenbhhaaaGreat
