/- The closed facts of the row of FnExactYardFinish, part by part. Printed by wip/closed.py. -/
import Derived.Test.YtngldifgcgblpaaGreatKS
namespace Go.Proofs.YtngldifgcgblpaaGreat
open Go
theorem fnExactYardFinish_c0 : (fun (s : ChangeSpec) (c : OpenClaim) => c.wf (OpenSpec.ofChange s)) Rows.fnExactYardFinishSpec Rows.fnExactYardFinishRow = true := by kernel_rfl
theorem fnExactYardFinish_c3 : (fun (P : Program) (fn : Func) => fn.params.all (P.readableRec ·)) Tryz.prog Tryz.f6 = true := by kernel_rfl
theorem fnExactYardFinish_c4 : (fun (P : Program) (s : ChangeSpec) (c : OpenClaim) => namedTie P c.named s.vars) Tryz.prog Rows.fnExactYardFinishSpec Rows.fnExactYardFinishRow = true := by kernel_rfl
theorem fnExactYardFinish_c5 : (fun (c : OpenClaim) => (c.stops == [])) Rows.fnExactYardFinishRow = true := by kernel_rfl
theorem fnExactYardFinish_c7 : (fun (c : OpenClaim) => (c.knobs == [])) Rows.fnExactYardFinishRow = true := by kernel_rfl
theorem fnExactYardFinish_c9 : (fun (P : Program) (f : FuncId) (c : OpenClaim) => (c.inPlace == P.inPlace f)) Tryz.prog 6 Rows.fnExactYardFinishRow = true := by kernel_rfl
theorem fnExactYardFinish_c10 : (fun (P : Program) (f : FuncId) (c : OpenClaim) => (c.unfollowed == P.unfollowed f)) Tryz.prog 6 Rows.fnExactYardFinishRow = true := by kernel_rfl
theorem fnExactYardFinish_c11 : (fun (P : Program) (f : FuncId) (c : OpenClaim) => (c.recurses == P.recurses f)) Tryz.prog 6 Rows.fnExactYardFinishRow = true := by kernel_rfl
theorem fnExactYardFinish_c12 : (fun (P : Program) (f : FuncId) (c : OpenClaim) => (c.named == P.varsNamed f)) Tryz.prog 6 Rows.fnExactYardFinishRow = true := by kernel_rfl
theorem fnExactYardFinish_c13 : (fun (P : Program) (fn : Func) (s : ChangeSpec) (c : OpenClaim) => (c.maps == (fn.params.toList ++ s.plain.varTypes P).any (P.mapsRec ·))) Tryz.prog Tryz.f6 Rows.fnExactYardFinishSpec Rows.fnExactYardFinishRow = true := by kernel_rfl
theorem fnExactYardFinish_c14 : (fun (P : Program) (fn : Func) (s : ChangeSpec) (c : OpenClaim) => (c.ifaces == (fn.params.toList ++ s.plain.varTypes P).any (P.ifacesRec ·))) Tryz.prog Tryz.f6 Rows.fnExactYardFinishSpec Rows.fnExactYardFinishRow = true := by kernel_rfl
theorem fnExactYardFinish_c15 : (fun (P : Program) (fn : Func) (c : OpenClaim) => (c.mapsOut == P.mapsAmong fn.resultTypes.toList)) Tryz.prog Tryz.f6 Rows.fnExactYardFinishRow = true := by kernel_rfl
theorem fnExactYardFinish_c16 : (fun (P : Program) (fn : Func) (s : ChangeSpec) (c : OpenClaim) => (c.loops == (fn.params.toList ++ s.plain.varTypes P).any (P.loopsFrom ·))) Tryz.prog Tryz.f6 Rows.fnExactYardFinishSpec Rows.fnExactYardFinishRow = true := by kernel_rfl
theorem fnExactYardFinish_c17 : (fun (P : Program) (fn : Func) (s : ChangeSpec) (c : OpenClaim) => (c.wideKeys == (fn.params.toList ++ s.plain.varTypes P ++ fn.resultTypes.toList).any (P.wideKeysFrom ·))) Tryz.prog Tryz.f6 Rows.fnExactYardFinishSpec Rows.fnExactYardFinishRow = true := by kernel_rfl
theorem fnExactYardFinish_c18 : (fun (P : Program) (s : ChangeSpec) => s.vars.all (P.varReadable ·)) Tryz.prog Rows.fnExactYardFinishSpec = true := by kernel_rfl
theorem fnExactYardFinish_c19 : (fun (P : Program) (fn : Func) => fn.resultTypes.all (fun t => P.readableRec t && decide (t < P.types.size))) Tryz.prog Tryz.f6 = true := by kernel_rfl
theorem fnExactYardFinish_c20 : (fun (P : Program) (fn : Func) (c : OpenClaim) => (c.ifacesOut == fn.resultTypes.toList.any (P.ifacesRec ·))) Tryz.prog Tryz.f6 Rows.fnExactYardFinishRow = true := by kernel_rfl
theorem fnExactYardFinish_c21 : (fun (P : Program) (fn : Func) (c : OpenClaim) => (c.loopsOut == fn.resultTypes.toList.any (P.loopsFrom ·))) Tryz.prog Tryz.f6 Rows.fnExactYardFinishRow = true := by kernel_rfl
theorem fnExactYardFinish_c22 : (fun (P : Program) (c : OpenClaim) => (c.plainKeys == P.plainKeys)) Tryz.prog Rows.fnExactYardFinishRow = true := by kernel_rfl
theorem fnExactYardFinish_c23 : (fun (c : OpenClaim) => c.shortTexts.isNone) Rows.fnExactYardFinishRow = true := by kernel_rfl
theorem fnExactYardFinish_c26 : (fun (P : Program) (c : OpenClaim) => (c.lifted == P.liftsFinal)) Tryz.prog Rows.fnExactYardFinishRow = true := by kernel_rfl
theorem fnExactYardFinish_c27 : (fun (P : Program) (c : OpenClaim) => (P.make == some c.make)) Tryz.prog Rows.fnExactYardFinishRow = true := by kernel_rfl
theorem fnExactYardFinish_c28 : (fun (P : Program) (fn : Func) (c : OpenClaim) => (c.kinds == (if c.domain.isEmpty then [] else fn.params.toList.map fun t => match P.underlying t with | some (.int k) => some k | _ => none))) Tryz.prog Tryz.f6 Rows.fnExactYardFinishRow = true := by kernel_rfl
theorem fnExactYardFinish_c29 : (fun (c : OpenClaim) => (c.pinned == c.pinnedBy)) Rows.fnExactYardFinishRow = true := by kernel_rfl
theorem fnExactYardFinish_c30 : (fun (P : Program) (fn : Func) (s : ChangeSpec) (c : OpenClaim) => (c.veiled == (fn.params.toList ++ s.plain.varTypes P ++ fn.resultTypes.toList).any (P.veiledRec ·))) Tryz.prog Tryz.f6 Rows.fnExactYardFinishSpec Rows.fnExactYardFinishRow = true := by kernel_rfl
theorem fnExactYardFinish_c31 : (fun (P : Program) (fn : Func) (s : ChangeSpec) (c : OpenClaim) => c.veiledFits P fn.params.toList (fn.params.toList ++ s.plain.varTypes P ++ fn.resultTypes.toList)) Tryz.prog Tryz.f6 Rows.fnExactYardFinishSpec Rows.fnExactYardFinishRow = true := by kernel_rfl
set_option maxRecDepth 100000 in
theorem fnExactYardFinish_closed : joinedFacts Tryz.prog 6 Tryz.f6 Rows.fnExactYardFinishSpec Rows.fnExactYardFinishRow = true := andT (andT (andT (andT (andT (andT (andT (andT (andT (andT (andT (andT (andT (andT (andT (andT (andT (andT (andT (andT (andT (andT (andT (andT (andT (andT (andT (andT (andT (andT (andT fnExactYardFinish_c0 seat1) seat2) fnExactYardFinish_c3) fnExactYardFinish_c4) fnExactYardFinish_c5) seat6) fnExactYardFinish_c7) seat8) fnExactYardFinish_c9) fnExactYardFinish_c10) fnExactYardFinish_c11) fnExactYardFinish_c12) fnExactYardFinish_c13) fnExactYardFinish_c14) fnExactYardFinish_c15) fnExactYardFinish_c16) fnExactYardFinish_c17) fnExactYardFinish_c18) fnExactYardFinish_c19) fnExactYardFinish_c20) fnExactYardFinish_c21) fnExactYardFinish_c22) fnExactYardFinish_c23) seat24) seat25) fnExactYardFinish_c26) fnExactYardFinish_c27) fnExactYardFinish_c28) fnExactYardFinish_c29) fnExactYardFinish_c30) fnExactYardFinish_c31
end Go.Proofs.YtngldifgcgblpaaGreat
