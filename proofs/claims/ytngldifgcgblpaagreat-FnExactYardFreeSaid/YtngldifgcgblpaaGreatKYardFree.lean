/- The closed facts of the row of FnExactYardFree, part by part. Printed by wip/closed.py. -/
import Derived.Test.YtngldifgcgblpaaGreatKS
namespace Go.Proofs.YtngldifgcgblpaaGreat
open Go
theorem fnExactYardFree_c0 : (fun (s : ChangeSpec) (c : OpenClaim) => c.wf (OpenSpec.ofChange s)) Rows.fnExactYardFreeSpec Rows.fnExactYardFreeRow = true := by kernel_rfl
theorem fnExactYardFree_c3 : (fun (P : Program) (fn : Func) => fn.params.all (P.readableRec ·)) Tryz.prog Tryz.f4 = true := by kernel_rfl
theorem fnExactYardFree_c4 : (fun (P : Program) (s : ChangeSpec) (c : OpenClaim) => namedTie P c.named s.vars) Tryz.prog Rows.fnExactYardFreeSpec Rows.fnExactYardFreeRow = true := by kernel_rfl
theorem fnExactYardFree_c5 : (fun (c : OpenClaim) => (c.stops == [])) Rows.fnExactYardFreeRow = true := by kernel_rfl
theorem fnExactYardFree_c7 : (fun (c : OpenClaim) => (c.knobs == [])) Rows.fnExactYardFreeRow = true := by kernel_rfl
theorem fnExactYardFree_c9 : (fun (P : Program) (f : FuncId) (c : OpenClaim) => (c.inPlace == P.inPlace f)) Tryz.prog 4 Rows.fnExactYardFreeRow = true := by kernel_rfl
theorem fnExactYardFree_c10 : (fun (P : Program) (f : FuncId) (c : OpenClaim) => (c.unfollowed == P.unfollowed f)) Tryz.prog 4 Rows.fnExactYardFreeRow = true := by kernel_rfl
theorem fnExactYardFree_c11 : (fun (P : Program) (f : FuncId) (c : OpenClaim) => (c.recurses == P.recurses f)) Tryz.prog 4 Rows.fnExactYardFreeRow = true := by kernel_rfl
theorem fnExactYardFree_c12 : (fun (P : Program) (f : FuncId) (c : OpenClaim) => (c.named == P.varsNamed f)) Tryz.prog 4 Rows.fnExactYardFreeRow = true := by kernel_rfl
theorem fnExactYardFree_c13 : (fun (P : Program) (fn : Func) (s : ChangeSpec) (c : OpenClaim) => (c.maps == (fn.params.toList ++ s.plain.varTypes P).any (P.mapsRec ·))) Tryz.prog Tryz.f4 Rows.fnExactYardFreeSpec Rows.fnExactYardFreeRow = true := by kernel_rfl
theorem fnExactYardFree_c14 : (fun (P : Program) (fn : Func) (s : ChangeSpec) (c : OpenClaim) => (c.ifaces == (fn.params.toList ++ s.plain.varTypes P).any (P.ifacesRec ·))) Tryz.prog Tryz.f4 Rows.fnExactYardFreeSpec Rows.fnExactYardFreeRow = true := by kernel_rfl
theorem fnExactYardFree_c15 : (fun (P : Program) (fn : Func) (c : OpenClaim) => (c.mapsOut == P.mapsAmong fn.resultTypes.toList)) Tryz.prog Tryz.f4 Rows.fnExactYardFreeRow = true := by kernel_rfl
theorem fnExactYardFree_c16 : (fun (P : Program) (fn : Func) (s : ChangeSpec) (c : OpenClaim) => (c.loops == (fn.params.toList ++ s.plain.varTypes P).any (P.loopsFrom ·))) Tryz.prog Tryz.f4 Rows.fnExactYardFreeSpec Rows.fnExactYardFreeRow = true := by kernel_rfl
theorem fnExactYardFree_c17 : (fun (P : Program) (fn : Func) (s : ChangeSpec) (c : OpenClaim) => (c.wideKeys == (fn.params.toList ++ s.plain.varTypes P ++ fn.resultTypes.toList).any (P.wideKeysFrom ·))) Tryz.prog Tryz.f4 Rows.fnExactYardFreeSpec Rows.fnExactYardFreeRow = true := by kernel_rfl
theorem fnExactYardFree_c18 : (fun (P : Program) (s : ChangeSpec) => s.vars.all (P.varReadable ·)) Tryz.prog Rows.fnExactYardFreeSpec = true := by kernel_rfl
theorem fnExactYardFree_c19 : (fun (P : Program) (fn : Func) => fn.resultTypes.all (fun t => P.readableRec t && decide (t < P.types.size))) Tryz.prog Tryz.f4 = true := by kernel_rfl
theorem fnExactYardFree_c20 : (fun (P : Program) (fn : Func) (c : OpenClaim) => (c.ifacesOut == fn.resultTypes.toList.any (P.ifacesRec ·))) Tryz.prog Tryz.f4 Rows.fnExactYardFreeRow = true := by kernel_rfl
theorem fnExactYardFree_c21 : (fun (P : Program) (fn : Func) (c : OpenClaim) => (c.loopsOut == fn.resultTypes.toList.any (P.loopsFrom ·))) Tryz.prog Tryz.f4 Rows.fnExactYardFreeRow = true := by kernel_rfl
theorem fnExactYardFree_c22 : (fun (P : Program) (c : OpenClaim) => (c.plainKeys == P.plainKeys)) Tryz.prog Rows.fnExactYardFreeRow = true := by kernel_rfl
theorem fnExactYardFree_c23 : (fun (c : OpenClaim) => c.shortTexts.isNone) Rows.fnExactYardFreeRow = true := by kernel_rfl
theorem fnExactYardFree_c26 : (fun (P : Program) (c : OpenClaim) => (c.lifted == P.liftsFinal)) Tryz.prog Rows.fnExactYardFreeRow = true := by kernel_rfl
theorem fnExactYardFree_c27 : (fun (P : Program) (c : OpenClaim) => (P.make == some c.make)) Tryz.prog Rows.fnExactYardFreeRow = true := by kernel_rfl
theorem fnExactYardFree_c28 : (fun (P : Program) (fn : Func) (c : OpenClaim) => (c.kinds == (if c.domain.isEmpty then [] else fn.params.toList.map fun t => match P.underlying t with | some (.int k) => some k | _ => none))) Tryz.prog Tryz.f4 Rows.fnExactYardFreeRow = true := by kernel_rfl
theorem fnExactYardFree_c29 : (fun (c : OpenClaim) => (c.pinned == c.pinnedBy)) Rows.fnExactYardFreeRow = true := by kernel_rfl
theorem fnExactYardFree_c30 : (fun (P : Program) (fn : Func) (s : ChangeSpec) (c : OpenClaim) => (c.veiled == (fn.params.toList ++ s.plain.varTypes P ++ fn.resultTypes.toList).any (P.veiledRec ·))) Tryz.prog Tryz.f4 Rows.fnExactYardFreeSpec Rows.fnExactYardFreeRow = true := by kernel_rfl
theorem fnExactYardFree_c31 : (fun (P : Program) (fn : Func) (s : ChangeSpec) (c : OpenClaim) => c.veiledFits P fn.params.toList (fn.params.toList ++ s.plain.varTypes P ++ fn.resultTypes.toList)) Tryz.prog Tryz.f4 Rows.fnExactYardFreeSpec Rows.fnExactYardFreeRow = true := by kernel_rfl
set_option maxRecDepth 100000 in
theorem fnExactYardFree_closed : joinedFacts Tryz.prog 4 Tryz.f4 Rows.fnExactYardFreeSpec Rows.fnExactYardFreeRow = true := andT (andT (andT (andT (andT (andT (andT (andT (andT (andT (andT (andT (andT (andT (andT (andT (andT (andT (andT (andT (andT (andT (andT (andT (andT (andT (andT (andT (andT (andT (andT fnExactYardFree_c0 seat1) seat2) fnExactYardFree_c3) fnExactYardFree_c4) fnExactYardFree_c5) seat6) fnExactYardFree_c7) seat8) fnExactYardFree_c9) fnExactYardFree_c10) fnExactYardFree_c11) fnExactYardFree_c12) fnExactYardFree_c13) fnExactYardFree_c14) fnExactYardFree_c15) fnExactYardFree_c16) fnExactYardFree_c17) fnExactYardFree_c18) fnExactYardFree_c19) fnExactYardFree_c20) fnExactYardFree_c21) fnExactYardFree_c22) fnExactYardFree_c23) seat24) seat25) fnExactYardFree_c26) fnExactYardFree_c27) fnExactYardFree_c28) fnExactYardFree_c29) fnExactYardFree_c30) fnExactYardFree_c31
end Go.Proofs.YtngldifgcgblpaaGreat
