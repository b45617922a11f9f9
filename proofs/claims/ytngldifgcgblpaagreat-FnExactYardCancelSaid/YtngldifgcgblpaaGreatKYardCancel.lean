/- The closed facts of the row of FnExactYardCancel, part by part. Printed by wip/closed.py. -/
import Derived.Test.YtngldifgcgblpaaGreatKS
namespace Go.Proofs.YtngldifgcgblpaaGreat
open Go
theorem fnExactYardCancel_c0 : (fun (s : ChangeSpec) (c : OpenClaim) => c.wf (OpenSpec.ofChange s)) Rows.fnExactYardCancelSpec Rows.fnExactYardCancelRow = true := by kernel_rfl
theorem fnExactYardCancel_c3 : (fun (P : Program) (fn : Func) => fn.params.all (P.readableRec ·)) Tryz.prog Tryz.f3 = true := by kernel_rfl
theorem fnExactYardCancel_c4 : (fun (P : Program) (s : ChangeSpec) (c : OpenClaim) => namedTie P c.named s.vars) Tryz.prog Rows.fnExactYardCancelSpec Rows.fnExactYardCancelRow = true := by kernel_rfl
theorem fnExactYardCancel_c5 : (fun (c : OpenClaim) => (c.stops == [])) Rows.fnExactYardCancelRow = true := by kernel_rfl
theorem fnExactYardCancel_c7 : (fun (c : OpenClaim) => (c.knobs == [])) Rows.fnExactYardCancelRow = true := by kernel_rfl
theorem fnExactYardCancel_c9 : (fun (P : Program) (f : FuncId) (c : OpenClaim) => (c.inPlace == P.inPlace f)) Tryz.prog 3 Rows.fnExactYardCancelRow = true := by kernel_rfl
theorem fnExactYardCancel_c10 : (fun (P : Program) (f : FuncId) (c : OpenClaim) => (c.unfollowed == P.unfollowed f)) Tryz.prog 3 Rows.fnExactYardCancelRow = true := by kernel_rfl
theorem fnExactYardCancel_c11 : (fun (P : Program) (f : FuncId) (c : OpenClaim) => (c.recurses == P.recurses f)) Tryz.prog 3 Rows.fnExactYardCancelRow = true := by kernel_rfl
theorem fnExactYardCancel_c12 : (fun (P : Program) (f : FuncId) (c : OpenClaim) => (c.named == P.varsNamed f)) Tryz.prog 3 Rows.fnExactYardCancelRow = true := by kernel_rfl
theorem fnExactYardCancel_c13 : (fun (P : Program) (fn : Func) (s : ChangeSpec) (c : OpenClaim) => (c.maps == (fn.params.toList ++ s.plain.varTypes P).any (P.mapsRec ·))) Tryz.prog Tryz.f3 Rows.fnExactYardCancelSpec Rows.fnExactYardCancelRow = true := by kernel_rfl
theorem fnExactYardCancel_c14 : (fun (P : Program) (fn : Func) (s : ChangeSpec) (c : OpenClaim) => (c.ifaces == (fn.params.toList ++ s.plain.varTypes P).any (P.ifacesRec ·))) Tryz.prog Tryz.f3 Rows.fnExactYardCancelSpec Rows.fnExactYardCancelRow = true := by kernel_rfl
theorem fnExactYardCancel_c15 : (fun (P : Program) (fn : Func) (c : OpenClaim) => (c.mapsOut == P.mapsAmong fn.resultTypes.toList)) Tryz.prog Tryz.f3 Rows.fnExactYardCancelRow = true := by kernel_rfl
theorem fnExactYardCancel_c16 : (fun (P : Program) (fn : Func) (s : ChangeSpec) (c : OpenClaim) => (c.loops == (fn.params.toList ++ s.plain.varTypes P).any (P.loopsFrom ·))) Tryz.prog Tryz.f3 Rows.fnExactYardCancelSpec Rows.fnExactYardCancelRow = true := by kernel_rfl
theorem fnExactYardCancel_c17 : (fun (P : Program) (fn : Func) (s : ChangeSpec) (c : OpenClaim) => (c.wideKeys == (fn.params.toList ++ s.plain.varTypes P ++ fn.resultTypes.toList).any (P.wideKeysFrom ·))) Tryz.prog Tryz.f3 Rows.fnExactYardCancelSpec Rows.fnExactYardCancelRow = true := by kernel_rfl
theorem fnExactYardCancel_c18 : (fun (P : Program) (s : ChangeSpec) => s.vars.all (P.varReadable ·)) Tryz.prog Rows.fnExactYardCancelSpec = true := by kernel_rfl
theorem fnExactYardCancel_c19 : (fun (P : Program) (fn : Func) => fn.resultTypes.all (fun t => P.readableRec t && decide (t < P.types.size))) Tryz.prog Tryz.f3 = true := by kernel_rfl
theorem fnExactYardCancel_c20 : (fun (P : Program) (fn : Func) (c : OpenClaim) => (c.ifacesOut == fn.resultTypes.toList.any (P.ifacesRec ·))) Tryz.prog Tryz.f3 Rows.fnExactYardCancelRow = true := by kernel_rfl
theorem fnExactYardCancel_c21 : (fun (P : Program) (fn : Func) (c : OpenClaim) => (c.loopsOut == fn.resultTypes.toList.any (P.loopsFrom ·))) Tryz.prog Tryz.f3 Rows.fnExactYardCancelRow = true := by kernel_rfl
theorem fnExactYardCancel_c22 : (fun (P : Program) (c : OpenClaim) => (c.plainKeys == P.plainKeys)) Tryz.prog Rows.fnExactYardCancelRow = true := by kernel_rfl
theorem fnExactYardCancel_c23 : (fun (c : OpenClaim) => c.shortTexts.isNone) Rows.fnExactYardCancelRow = true := by kernel_rfl
theorem fnExactYardCancel_c26 : (fun (P : Program) (c : OpenClaim) => (c.lifted == P.liftsFinal)) Tryz.prog Rows.fnExactYardCancelRow = true := by kernel_rfl
theorem fnExactYardCancel_c27 : (fun (P : Program) (c : OpenClaim) => (P.make == some c.make)) Tryz.prog Rows.fnExactYardCancelRow = true := by kernel_rfl
theorem fnExactYardCancel_c28 : (fun (P : Program) (fn : Func) (c : OpenClaim) => (c.kinds == (if c.domain.isEmpty then [] else fn.params.toList.map fun t => match P.underlying t with | some (.int k) => some k | _ => none))) Tryz.prog Tryz.f3 Rows.fnExactYardCancelRow = true := by kernel_rfl
theorem fnExactYardCancel_c29 : (fun (c : OpenClaim) => (c.pinned == c.pinnedBy)) Rows.fnExactYardCancelRow = true := by kernel_rfl
theorem fnExactYardCancel_c30 : (fun (P : Program) (fn : Func) (s : ChangeSpec) (c : OpenClaim) => (c.veiled == (fn.params.toList ++ s.plain.varTypes P ++ fn.resultTypes.toList).any (P.veiledRec ·))) Tryz.prog Tryz.f3 Rows.fnExactYardCancelSpec Rows.fnExactYardCancelRow = true := by kernel_rfl
theorem fnExactYardCancel_c31 : (fun (P : Program) (fn : Func) (s : ChangeSpec) (c : OpenClaim) => c.veiledFits P fn.params.toList (fn.params.toList ++ s.plain.varTypes P ++ fn.resultTypes.toList)) Tryz.prog Tryz.f3 Rows.fnExactYardCancelSpec Rows.fnExactYardCancelRow = true := by kernel_rfl
set_option maxRecDepth 100000 in
theorem fnExactYardCancel_closed : joinedFacts Tryz.prog 3 Tryz.f3 Rows.fnExactYardCancelSpec Rows.fnExactYardCancelRow = true := andT (andT (andT (andT (andT (andT (andT (andT (andT (andT (andT (andT (andT (andT (andT (andT (andT (andT (andT (andT (andT (andT (andT (andT (andT (andT (andT (andT (andT (andT (andT fnExactYardCancel_c0 seat1) seat2) fnExactYardCancel_c3) fnExactYardCancel_c4) fnExactYardCancel_c5) seat6) fnExactYardCancel_c7) seat8) fnExactYardCancel_c9) fnExactYardCancel_c10) fnExactYardCancel_c11) fnExactYardCancel_c12) fnExactYardCancel_c13) fnExactYardCancel_c14) fnExactYardCancel_c15) fnExactYardCancel_c16) fnExactYardCancel_c17) fnExactYardCancel_c18) fnExactYardCancel_c19) fnExactYardCancel_c20) fnExactYardCancel_c21) fnExactYardCancel_c22) fnExactYardCancel_c23) seat24) seat25) fnExactYardCancel_c26) fnExactYardCancel_c27) fnExactYardCancel_c28) fnExactYardCancel_c29) fnExactYardCancel_c30) fnExactYardCancel_c31
end Go.Proofs.YtngldifgcgblpaaGreat
