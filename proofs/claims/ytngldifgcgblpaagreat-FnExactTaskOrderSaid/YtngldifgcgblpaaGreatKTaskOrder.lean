/- The closed facts of the row of FnExactTaskOrder, part by part. Printed by wip/closed.py. -/
import Derived.Test.YtngldifgcgblpaaGreatKS
namespace Go.Proofs.YtngldifgcgblpaaGreat
open Go
theorem fnExactTaskOrder_c0 : (fun (s : ChangeSpec) (c : OpenClaim) => c.wf (OpenSpec.ofChange s)) Rows.fnExactTaskOrderSpec Rows.fnExactTaskOrderRow = true := by kernel_rfl
theorem fnExactTaskOrder_c3 : (fun (P : Program) (fn : Func) => fn.params.all (P.readableRec ·)) Tryz.prog Tryz.f11 = true := by kernel_rfl
theorem fnExactTaskOrder_c4 : (fun (P : Program) (s : ChangeSpec) (c : OpenClaim) => namedTie P c.named s.vars) Tryz.prog Rows.fnExactTaskOrderSpec Rows.fnExactTaskOrderRow = true := by kernel_rfl
theorem fnExactTaskOrder_c5 : (fun (c : OpenClaim) => (c.stops == [])) Rows.fnExactTaskOrderRow = true := by kernel_rfl
theorem fnExactTaskOrder_c7 : (fun (c : OpenClaim) => (c.knobs == [])) Rows.fnExactTaskOrderRow = true := by kernel_rfl
theorem fnExactTaskOrder_c9 : (fun (P : Program) (f : FuncId) (c : OpenClaim) => (c.inPlace == P.inPlace f)) Tryz.prog 11 Rows.fnExactTaskOrderRow = true := by kernel_rfl
theorem fnExactTaskOrder_c10 : (fun (P : Program) (f : FuncId) (c : OpenClaim) => (c.unfollowed == P.unfollowed f)) Tryz.prog 11 Rows.fnExactTaskOrderRow = true := by kernel_rfl
theorem fnExactTaskOrder_c11 : (fun (P : Program) (f : FuncId) (c : OpenClaim) => (c.recurses == P.recurses f)) Tryz.prog 11 Rows.fnExactTaskOrderRow = true := by kernel_rfl
theorem fnExactTaskOrder_c12 : (fun (P : Program) (f : FuncId) (c : OpenClaim) => (c.named == P.varsNamed f)) Tryz.prog 11 Rows.fnExactTaskOrderRow = true := by kernel_rfl
theorem fnExactTaskOrder_c13 : (fun (P : Program) (fn : Func) (s : ChangeSpec) (c : OpenClaim) => (c.maps == (fn.params.toList ++ s.plain.varTypes P).any (P.mapsRec ·))) Tryz.prog Tryz.f11 Rows.fnExactTaskOrderSpec Rows.fnExactTaskOrderRow = true := by kernel_rfl
theorem fnExactTaskOrder_c14 : (fun (P : Program) (fn : Func) (s : ChangeSpec) (c : OpenClaim) => (c.ifaces == (fn.params.toList ++ s.plain.varTypes P).any (P.ifacesRec ·))) Tryz.prog Tryz.f11 Rows.fnExactTaskOrderSpec Rows.fnExactTaskOrderRow = true := by kernel_rfl
theorem fnExactTaskOrder_c15 : (fun (P : Program) (fn : Func) (c : OpenClaim) => (c.mapsOut == P.mapsAmong fn.resultTypes.toList)) Tryz.prog Tryz.f11 Rows.fnExactTaskOrderRow = true := by kernel_rfl
theorem fnExactTaskOrder_c16 : (fun (P : Program) (fn : Func) (s : ChangeSpec) (c : OpenClaim) => (c.loops == (fn.params.toList ++ s.plain.varTypes P).any (P.loopsFrom ·))) Tryz.prog Tryz.f11 Rows.fnExactTaskOrderSpec Rows.fnExactTaskOrderRow = true := by kernel_rfl
theorem fnExactTaskOrder_c17 : (fun (P : Program) (fn : Func) (s : ChangeSpec) (c : OpenClaim) => (c.wideKeys == (fn.params.toList ++ s.plain.varTypes P ++ fn.resultTypes.toList).any (P.wideKeysFrom ·))) Tryz.prog Tryz.f11 Rows.fnExactTaskOrderSpec Rows.fnExactTaskOrderRow = true := by kernel_rfl
theorem fnExactTaskOrder_c18 : (fun (P : Program) (s : ChangeSpec) => s.vars.all (P.varReadable ·)) Tryz.prog Rows.fnExactTaskOrderSpec = true := by kernel_rfl
theorem fnExactTaskOrder_c19 : (fun (P : Program) (fn : Func) => fn.resultTypes.all (fun t => P.readableRec t && decide (t < P.types.size))) Tryz.prog Tryz.f11 = true := by kernel_rfl
theorem fnExactTaskOrder_c20 : (fun (P : Program) (fn : Func) (c : OpenClaim) => (c.ifacesOut == fn.resultTypes.toList.any (P.ifacesRec ·))) Tryz.prog Tryz.f11 Rows.fnExactTaskOrderRow = true := by kernel_rfl
theorem fnExactTaskOrder_c21 : (fun (P : Program) (fn : Func) (c : OpenClaim) => (c.loopsOut == fn.resultTypes.toList.any (P.loopsFrom ·))) Tryz.prog Tryz.f11 Rows.fnExactTaskOrderRow = true := by kernel_rfl
theorem fnExactTaskOrder_c22 : (fun (P : Program) (c : OpenClaim) => (c.plainKeys == P.plainKeys)) Tryz.prog Rows.fnExactTaskOrderRow = true := by kernel_rfl
theorem fnExactTaskOrder_c23 : (fun (c : OpenClaim) => c.shortTexts.isNone) Rows.fnExactTaskOrderRow = true := by kernel_rfl
theorem fnExactTaskOrder_c26 : (fun (P : Program) (c : OpenClaim) => (c.lifted == P.liftsFinal)) Tryz.prog Rows.fnExactTaskOrderRow = true := by kernel_rfl
theorem fnExactTaskOrder_c27 : (fun (P : Program) (c : OpenClaim) => (P.make == some c.make)) Tryz.prog Rows.fnExactTaskOrderRow = true := by kernel_rfl
theorem fnExactTaskOrder_c28 : (fun (P : Program) (fn : Func) (c : OpenClaim) => (c.kinds == (if c.domain.isEmpty then [] else fn.params.toList.map fun t => match P.underlying t with | some (.int k) => some k | _ => none))) Tryz.prog Tryz.f11 Rows.fnExactTaskOrderRow = true := by kernel_rfl
theorem fnExactTaskOrder_c29 : (fun (c : OpenClaim) => (c.pinned == c.pinnedBy)) Rows.fnExactTaskOrderRow = true := by kernel_rfl
theorem fnExactTaskOrder_c30 : (fun (P : Program) (fn : Func) (s : ChangeSpec) (c : OpenClaim) => (c.veiled == (fn.params.toList ++ s.plain.varTypes P ++ fn.resultTypes.toList).any (P.veiledRec ·))) Tryz.prog Tryz.f11 Rows.fnExactTaskOrderSpec Rows.fnExactTaskOrderRow = true := by kernel_rfl
theorem fnExactTaskOrder_c31 : (fun (P : Program) (fn : Func) (s : ChangeSpec) (c : OpenClaim) => c.veiledFits P fn.params.toList (fn.params.toList ++ s.plain.varTypes P ++ fn.resultTypes.toList)) Tryz.prog Tryz.f11 Rows.fnExactTaskOrderSpec Rows.fnExactTaskOrderRow = true := by kernel_rfl
set_option maxRecDepth 100000 in
theorem fnExactTaskOrder_closed : joinedFacts Tryz.prog 11 Tryz.f11 Rows.fnExactTaskOrderSpec Rows.fnExactTaskOrderRow = true := andT (andT (andT (andT (andT (andT (andT (andT (andT (andT (andT (andT (andT (andT (andT (andT (andT (andT (andT (andT (andT (andT (andT (andT (andT (andT (andT (andT (andT (andT (andT fnExactTaskOrder_c0 seat1) seat2) fnExactTaskOrder_c3) fnExactTaskOrder_c4) fnExactTaskOrder_c5) seat6) fnExactTaskOrder_c7) seat8) fnExactTaskOrder_c9) fnExactTaskOrder_c10) fnExactTaskOrder_c11) fnExactTaskOrder_c12) fnExactTaskOrder_c13) fnExactTaskOrder_c14) fnExactTaskOrder_c15) fnExactTaskOrder_c16) fnExactTaskOrder_c17) fnExactTaskOrder_c18) fnExactTaskOrder_c19) fnExactTaskOrder_c20) fnExactTaskOrder_c21) fnExactTaskOrder_c22) fnExactTaskOrder_c23) seat24) seat25) fnExactTaskOrder_c26) fnExactTaskOrder_c27) fnExactTaskOrder_c28) fnExactTaskOrder_c29) fnExactTaskOrder_c30) fnExactTaskOrder_c31
end Go.Proofs.YtngldifgcgblpaaGreat
