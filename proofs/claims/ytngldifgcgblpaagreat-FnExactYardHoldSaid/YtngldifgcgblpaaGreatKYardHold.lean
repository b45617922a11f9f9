/- The closed facts of the row of FnExactYardHold, part by part. Printed by wip/closed.py. -/
import Derived.Test.YtngldifgcgblpaaGreatKS
namespace Go.Proofs.YtngldifgcgblpaaGreat
open Go
theorem fnExactYardHold_c0 : (fun (s : ChangeSpec) (c : OpenClaim) => c.wf (OpenSpec.ofChange s)) Rows.fnExactYardHoldSpec Rows.fnExactYardHoldRow = true := by kernel_rfl
theorem fnExactYardHold_c3 : (fun (P : Program) (fn : Func) => fn.params.all (P.readableRec ·)) Tryz.prog Tryz.f5 = true := by kernel_rfl
theorem fnExactYardHold_c4 : (fun (P : Program) (s : ChangeSpec) (c : OpenClaim) => namedTie P c.named s.vars) Tryz.prog Rows.fnExactYardHoldSpec Rows.fnExactYardHoldRow = true := by kernel_rfl
theorem fnExactYardHold_c5 : (fun (c : OpenClaim) => (c.stops == [])) Rows.fnExactYardHoldRow = true := by kernel_rfl
theorem fnExactYardHold_c7 : (fun (c : OpenClaim) => (c.knobs == [])) Rows.fnExactYardHoldRow = true := by kernel_rfl
theorem fnExactYardHold_c9 : (fun (P : Program) (f : FuncId) (c : OpenClaim) => (c.inPlace == P.inPlace f)) Tryz.prog 5 Rows.fnExactYardHoldRow = true := by kernel_rfl
theorem fnExactYardHold_c10 : (fun (P : Program) (f : FuncId) (c : OpenClaim) => (c.unfollowed == P.unfollowed f)) Tryz.prog 5 Rows.fnExactYardHoldRow = true := by kernel_rfl
theorem fnExactYardHold_c11 : (fun (P : Program) (f : FuncId) (c : OpenClaim) => (c.recurses == P.recurses f)) Tryz.prog 5 Rows.fnExactYardHoldRow = true := by kernel_rfl
theorem fnExactYardHold_c12 : (fun (P : Program) (f : FuncId) (c : OpenClaim) => (c.named == P.varsNamed f)) Tryz.prog 5 Rows.fnExactYardHoldRow = true := by kernel_rfl
theorem fnExactYardHold_c13 : (fun (P : Program) (fn : Func) (s : ChangeSpec) (c : OpenClaim) => (c.maps == (fn.params.toList ++ s.plain.varTypes P).any (P.mapsRec ·))) Tryz.prog Tryz.f5 Rows.fnExactYardHoldSpec Rows.fnExactYardHoldRow = true := by kernel_rfl
theorem fnExactYardHold_c14 : (fun (P : Program) (fn : Func) (s : ChangeSpec) (c : OpenClaim) => (c.ifaces == (fn.params.toList ++ s.plain.varTypes P).any (P.ifacesRec ·))) Tryz.prog Tryz.f5 Rows.fnExactYardHoldSpec Rows.fnExactYardHoldRow = true := by kernel_rfl
theorem fnExactYardHold_c15 : (fun (P : Program) (fn : Func) (c : OpenClaim) => (c.mapsOut == P.mapsAmong fn.resultTypes.toList)) Tryz.prog Tryz.f5 Rows.fnExactYardHoldRow = true := by kernel_rfl
theorem fnExactYardHold_c16 : (fun (P : Program) (fn : Func) (s : ChangeSpec) (c : OpenClaim) => (c.loops == (fn.params.toList ++ s.plain.varTypes P).any (P.loopsFrom ·))) Tryz.prog Tryz.f5 Rows.fnExactYardHoldSpec Rows.fnExactYardHoldRow = true := by kernel_rfl
theorem fnExactYardHold_c17 : (fun (P : Program) (fn : Func) (s : ChangeSpec) (c : OpenClaim) => (c.wideKeys == (fn.params.toList ++ s.plain.varTypes P ++ fn.resultTypes.toList).any (P.wideKeysFrom ·))) Tryz.prog Tryz.f5 Rows.fnExactYardHoldSpec Rows.fnExactYardHoldRow = true := by kernel_rfl
theorem fnExactYardHold_c18 : (fun (P : Program) (s : ChangeSpec) => s.vars.all (P.varReadable ·)) Tryz.prog Rows.fnExactYardHoldSpec = true := by kernel_rfl
theorem fnExactYardHold_c19 : (fun (P : Program) (fn : Func) => fn.resultTypes.all (fun t => P.readableRec t && decide (t < P.types.size))) Tryz.prog Tryz.f5 = true := by kernel_rfl
theorem fnExactYardHold_c20 : (fun (P : Program) (fn : Func) (c : OpenClaim) => (c.ifacesOut == fn.resultTypes.toList.any (P.ifacesRec ·))) Tryz.prog Tryz.f5 Rows.fnExactYardHoldRow = true := by kernel_rfl
theorem fnExactYardHold_c21 : (fun (P : Program) (fn : Func) (c : OpenClaim) => (c.loopsOut == fn.resultTypes.toList.any (P.loopsFrom ·))) Tryz.prog Tryz.f5 Rows.fnExactYardHoldRow = true := by kernel_rfl
theorem fnExactYardHold_c22 : (fun (P : Program) (c : OpenClaim) => (c.plainKeys == P.plainKeys)) Tryz.prog Rows.fnExactYardHoldRow = true := by kernel_rfl
theorem fnExactYardHold_c23 : (fun (c : OpenClaim) => c.shortTexts.isNone) Rows.fnExactYardHoldRow = true := by kernel_rfl
theorem fnExactYardHold_c26 : (fun (P : Program) (c : OpenClaim) => (c.lifted == P.liftsFinal)) Tryz.prog Rows.fnExactYardHoldRow = true := by kernel_rfl
theorem fnExactYardHold_c27 : (fun (P : Program) (c : OpenClaim) => (P.make == some c.make)) Tryz.prog Rows.fnExactYardHoldRow = true := by kernel_rfl
theorem fnExactYardHold_c28 : (fun (P : Program) (fn : Func) (c : OpenClaim) => (c.kinds == (if c.domain.isEmpty then [] else fn.params.toList.map fun t => match P.underlying t with | some (.int k) => some k | _ => none))) Tryz.prog Tryz.f5 Rows.fnExactYardHoldRow = true := by kernel_rfl
theorem fnExactYardHold_c29 : (fun (c : OpenClaim) => (c.pinned == c.pinnedBy)) Rows.fnExactYardHoldRow = true := by kernel_rfl
theorem fnExactYardHold_c30 : (fun (P : Program) (fn : Func) (s : ChangeSpec) (c : OpenClaim) => (c.veiled == (fn.params.toList ++ s.plain.varTypes P ++ fn.resultTypes.toList).any (P.veiledRec ·))) Tryz.prog Tryz.f5 Rows.fnExactYardHoldSpec Rows.fnExactYardHoldRow = true := by kernel_rfl
theorem fnExactYardHold_c31 : (fun (P : Program) (fn : Func) (s : ChangeSpec) (c : OpenClaim) => c.veiledFits P fn.params.toList (fn.params.toList ++ s.plain.varTypes P ++ fn.resultTypes.toList)) Tryz.prog Tryz.f5 Rows.fnExactYardHoldSpec Rows.fnExactYardHoldRow = true := by kernel_rfl
set_option maxRecDepth 100000 in
theorem fnExactYardHold_closed : joinedFacts Tryz.prog 5 Tryz.f5 Rows.fnExactYardHoldSpec Rows.fnExactYardHoldRow = true := andT (andT (andT (andT (andT (andT (andT (andT (andT (andT (andT (andT (andT (andT (andT (andT (andT (andT (andT (andT (andT (andT (andT (andT (andT (andT (andT (andT (andT (andT (andT fnExactYardHold_c0 seat1) seat2) fnExactYardHold_c3) fnExactYardHold_c4) fnExactYardHold_c5) seat6) fnExactYardHold_c7) seat8) fnExactYardHold_c9) fnExactYardHold_c10) fnExactYardHold_c11) fnExactYardHold_c12) fnExactYardHold_c13) fnExactYardHold_c14) fnExactYardHold_c15) fnExactYardHold_c16) fnExactYardHold_c17) fnExactYardHold_c18) fnExactYardHold_c19) fnExactYardHold_c20) fnExactYardHold_c21) fnExactYardHold_c22) fnExactYardHold_c23) seat24) seat25) fnExactYardHold_c26) fnExactYardHold_c27) fnExactYardHold_c28) fnExactYardHold_c29) fnExactYardHold_c30) fnExactYardHold_c31
end Go.Proofs.YtngldifgcgblpaaGreat
