/- The closed facts of the row of FnExactYardNode, part by part. Printed by wip/closed.py. -/
import Derived.Test.YtngldifgcgblpaaGreatKS
namespace Go.Proofs.YtngldifgcgblpaaGreat
open Go
theorem fnExactYardNode_c0 : (fun (s : ChangeSpec) (c : OpenClaim) => c.wf (OpenSpec.ofChange s)) Rows.fnExactYardNodeSpec Rows.fnExactYardNodeRow = true := by kernel_rfl
theorem fnExactYardNode_c3 : (fun (P : Program) (fn : Func) => fn.params.all (P.readableRec ·)) Tryz.prog Tryz.f9 = true := by kernel_rfl
theorem fnExactYardNode_c4 : (fun (P : Program) (s : ChangeSpec) (c : OpenClaim) => namedTie P c.named s.vars) Tryz.prog Rows.fnExactYardNodeSpec Rows.fnExactYardNodeRow = true := by kernel_rfl
theorem fnExactYardNode_c5 : (fun (c : OpenClaim) => (c.stops == [])) Rows.fnExactYardNodeRow = true := by kernel_rfl
theorem fnExactYardNode_c7 : (fun (c : OpenClaim) => (c.knobs == [])) Rows.fnExactYardNodeRow = true := by kernel_rfl
theorem fnExactYardNode_c9 : (fun (P : Program) (f : FuncId) (c : OpenClaim) => (c.inPlace == P.inPlace f)) Tryz.prog 9 Rows.fnExactYardNodeRow = true := by kernel_rfl
theorem fnExactYardNode_c10 : (fun (P : Program) (f : FuncId) (c : OpenClaim) => (c.unfollowed == P.unfollowed f)) Tryz.prog 9 Rows.fnExactYardNodeRow = true := by kernel_rfl
theorem fnExactYardNode_c11 : (fun (P : Program) (f : FuncId) (c : OpenClaim) => (c.recurses == P.recurses f)) Tryz.prog 9 Rows.fnExactYardNodeRow = true := by kernel_rfl
theorem fnExactYardNode_c12 : (fun (P : Program) (f : FuncId) (c : OpenClaim) => (c.named == P.varsNamed f)) Tryz.prog 9 Rows.fnExactYardNodeRow = true := by kernel_rfl
theorem fnExactYardNode_c13 : (fun (P : Program) (fn : Func) (s : ChangeSpec) (c : OpenClaim) => (c.maps == (fn.params.toList ++ s.plain.varTypes P).any (P.mapsRec ·))) Tryz.prog Tryz.f9 Rows.fnExactYardNodeSpec Rows.fnExactYardNodeRow = true := by kernel_rfl
theorem fnExactYardNode_c14 : (fun (P : Program) (fn : Func) (s : ChangeSpec) (c : OpenClaim) => (c.ifaces == (fn.params.toList ++ s.plain.varTypes P).any (P.ifacesRec ·))) Tryz.prog Tryz.f9 Rows.fnExactYardNodeSpec Rows.fnExactYardNodeRow = true := by kernel_rfl
theorem fnExactYardNode_c15 : (fun (P : Program) (fn : Func) (c : OpenClaim) => (c.mapsOut == P.mapsAmong fn.resultTypes.toList)) Tryz.prog Tryz.f9 Rows.fnExactYardNodeRow = true := by kernel_rfl
theorem fnExactYardNode_c16 : (fun (P : Program) (fn : Func) (s : ChangeSpec) (c : OpenClaim) => (c.loops == (fn.params.toList ++ s.plain.varTypes P).any (P.loopsFrom ·))) Tryz.prog Tryz.f9 Rows.fnExactYardNodeSpec Rows.fnExactYardNodeRow = true := by kernel_rfl
theorem fnExactYardNode_c17 : (fun (P : Program) (fn : Func) (s : ChangeSpec) (c : OpenClaim) => (c.wideKeys == (fn.params.toList ++ s.plain.varTypes P ++ fn.resultTypes.toList).any (P.wideKeysFrom ·))) Tryz.prog Tryz.f9 Rows.fnExactYardNodeSpec Rows.fnExactYardNodeRow = true := by kernel_rfl
theorem fnExactYardNode_c18 : (fun (P : Program) (s : ChangeSpec) => s.vars.all (P.varReadable ·)) Tryz.prog Rows.fnExactYardNodeSpec = true := by kernel_rfl
theorem fnExactYardNode_c19 : (fun (P : Program) (fn : Func) => fn.resultTypes.all (fun t => P.readableRec t && decide (t < P.types.size))) Tryz.prog Tryz.f9 = true := by kernel_rfl
theorem fnExactYardNode_c20 : (fun (P : Program) (fn : Func) (c : OpenClaim) => (c.ifacesOut == fn.resultTypes.toList.any (P.ifacesRec ·))) Tryz.prog Tryz.f9 Rows.fnExactYardNodeRow = true := by kernel_rfl
theorem fnExactYardNode_c21 : (fun (P : Program) (fn : Func) (c : OpenClaim) => (c.loopsOut == fn.resultTypes.toList.any (P.loopsFrom ·))) Tryz.prog Tryz.f9 Rows.fnExactYardNodeRow = true := by kernel_rfl
theorem fnExactYardNode_c22 : (fun (P : Program) (c : OpenClaim) => (c.plainKeys == P.plainKeys)) Tryz.prog Rows.fnExactYardNodeRow = true := by kernel_rfl
theorem fnExactYardNode_c23 : (fun (c : OpenClaim) => c.shortTexts.isNone) Rows.fnExactYardNodeRow = true := by kernel_rfl
theorem fnExactYardNode_c26 : (fun (P : Program) (c : OpenClaim) => (c.lifted == P.liftsFinal)) Tryz.prog Rows.fnExactYardNodeRow = true := by kernel_rfl
theorem fnExactYardNode_c27 : (fun (P : Program) (c : OpenClaim) => (P.make == some c.make)) Tryz.prog Rows.fnExactYardNodeRow = true := by kernel_rfl
theorem fnExactYardNode_c28 : (fun (P : Program) (fn : Func) (c : OpenClaim) => (c.kinds == (if c.domain.isEmpty then [] else fn.params.toList.map fun t => match P.underlying t with | some (.int k) => some k | _ => none))) Tryz.prog Tryz.f9 Rows.fnExactYardNodeRow = true := by kernel_rfl
theorem fnExactYardNode_c29 : (fun (c : OpenClaim) => (c.pinned == c.pinnedBy)) Rows.fnExactYardNodeRow = true := by kernel_rfl
theorem fnExactYardNode_c30 : (fun (P : Program) (fn : Func) (s : ChangeSpec) (c : OpenClaim) => (c.veiled == (fn.params.toList ++ s.plain.varTypes P ++ fn.resultTypes.toList).any (P.veiledRec ·))) Tryz.prog Tryz.f9 Rows.fnExactYardNodeSpec Rows.fnExactYardNodeRow = true := by kernel_rfl
theorem fnExactYardNode_c31 : (fun (P : Program) (fn : Func) (s : ChangeSpec) (c : OpenClaim) => c.veiledFits P fn.params.toList (fn.params.toList ++ s.plain.varTypes P ++ fn.resultTypes.toList)) Tryz.prog Tryz.f9 Rows.fnExactYardNodeSpec Rows.fnExactYardNodeRow = true := by kernel_rfl
set_option maxRecDepth 100000 in
theorem fnExactYardNode_closed : joinedFacts Tryz.prog 9 Tryz.f9 Rows.fnExactYardNodeSpec Rows.fnExactYardNodeRow = true := andT (andT (andT (andT (andT (andT (andT (andT (andT (andT (andT (andT (andT (andT (andT (andT (andT (andT (andT (andT (andT (andT (andT (andT (andT (andT (andT (andT (andT (andT (andT fnExactYardNode_c0 seat1) seat2) fnExactYardNode_c3) fnExactYardNode_c4) fnExactYardNode_c5) seat6) fnExactYardNode_c7) seat8) fnExactYardNode_c9) fnExactYardNode_c10) fnExactYardNode_c11) fnExactYardNode_c12) fnExactYardNode_c13) fnExactYardNode_c14) fnExactYardNode_c15) fnExactYardNode_c16) fnExactYardNode_c17) fnExactYardNode_c18) fnExactYardNode_c19) fnExactYardNode_c20) fnExactYardNode_c21) fnExactYardNode_c22) fnExactYardNode_c23) seat24) seat25) fnExactYardNode_c26) fnExactYardNode_c27) fnExactYardNode_c28) fnExactYardNode_c29) fnExactYardNode_c30) fnExactYardNode_c31
end Go.Proofs.YtngldifgcgblpaaGreat
