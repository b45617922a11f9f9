/- The closed facts of the row of FnExactYardUnbook, part by part. Printed by wip/closed.py. -/
import Derived.Test.YtngldifgcgblpaaGreatKS
namespace Go.Proofs.YtngldifgcgblpaaGreat
open Go
theorem fnExactYardUnbook_c0 : (fun (s : ChangeSpec) (c : OpenClaim) => c.wf (OpenSpec.ofChange s)) Rows.fnExactYardUnbookSpec Rows.fnExactYardUnbookRow = true := by kernel_rfl
theorem fnExactYardUnbook_c3 : (fun (P : Program) (fn : Func) => fn.params.all (P.readableRec ·)) Tryz.prog Tryz.f8 = true := by kernel_rfl
theorem fnExactYardUnbook_c4 : (fun (P : Program) (s : ChangeSpec) (c : OpenClaim) => namedTie P c.named s.vars) Tryz.prog Rows.fnExactYardUnbookSpec Rows.fnExactYardUnbookRow = true := by kernel_rfl
theorem fnExactYardUnbook_c5 : (fun (c : OpenClaim) => (c.stops == [])) Rows.fnExactYardUnbookRow = true := by kernel_rfl
theorem fnExactYardUnbook_c7 : (fun (c : OpenClaim) => (c.knobs == [])) Rows.fnExactYardUnbookRow = true := by kernel_rfl
theorem fnExactYardUnbook_c9 : (fun (P : Program) (f : FuncId) (c : OpenClaim) => (c.inPlace == P.inPlace f)) Tryz.prog 8 Rows.fnExactYardUnbookRow = true := by kernel_rfl
theorem fnExactYardUnbook_c10 : (fun (P : Program) (f : FuncId) (c : OpenClaim) => (c.unfollowed == P.unfollowed f)) Tryz.prog 8 Rows.fnExactYardUnbookRow = true := by kernel_rfl
theorem fnExactYardUnbook_c11 : (fun (P : Program) (f : FuncId) (c : OpenClaim) => (c.recurses == P.recurses f)) Tryz.prog 8 Rows.fnExactYardUnbookRow = true := by kernel_rfl
theorem fnExactYardUnbook_c12 : (fun (P : Program) (f : FuncId) (c : OpenClaim) => (c.named == P.varsNamed f)) Tryz.prog 8 Rows.fnExactYardUnbookRow = true := by kernel_rfl
theorem fnExactYardUnbook_c13 : (fun (P : Program) (fn : Func) (s : ChangeSpec) (c : OpenClaim) => (c.maps == (fn.params.toList ++ s.plain.varTypes P).any (P.mapsRec ·))) Tryz.prog Tryz.f8 Rows.fnExactYardUnbookSpec Rows.fnExactYardUnbookRow = true := by kernel_rfl
theorem fnExactYardUnbook_c14 : (fun (P : Program) (fn : Func) (s : ChangeSpec) (c : OpenClaim) => (c.ifaces == (fn.params.toList ++ s.plain.varTypes P).any (P.ifacesRec ·))) Tryz.prog Tryz.f8 Rows.fnExactYardUnbookSpec Rows.fnExactYardUnbookRow = true := by kernel_rfl
theorem fnExactYardUnbook_c15 : (fun (P : Program) (fn : Func) (c : OpenClaim) => (c.mapsOut == P.mapsAmong fn.resultTypes.toList)) Tryz.prog Tryz.f8 Rows.fnExactYardUnbookRow = true := by kernel_rfl
theorem fnExactYardUnbook_c16 : (fun (P : Program) (fn : Func) (s : ChangeSpec) (c : OpenClaim) => (c.loops == (fn.params.toList ++ s.plain.varTypes P).any (P.loopsFrom ·))) Tryz.prog Tryz.f8 Rows.fnExactYardUnbookSpec Rows.fnExactYardUnbookRow = true := by kernel_rfl
theorem fnExactYardUnbook_c17 : (fun (P : Program) (fn : Func) (s : ChangeSpec) (c : OpenClaim) => (c.wideKeys == (fn.params.toList ++ s.plain.varTypes P ++ fn.resultTypes.toList).any (P.wideKeysFrom ·))) Tryz.prog Tryz.f8 Rows.fnExactYardUnbookSpec Rows.fnExactYardUnbookRow = true := by kernel_rfl
theorem fnExactYardUnbook_c18 : (fun (P : Program) (s : ChangeSpec) => s.vars.all (P.varReadable ·)) Tryz.prog Rows.fnExactYardUnbookSpec = true := by kernel_rfl
theorem fnExactYardUnbook_c19 : (fun (P : Program) (fn : Func) => fn.resultTypes.all (fun t => P.readableRec t && decide (t < P.types.size))) Tryz.prog Tryz.f8 = true := by kernel_rfl
theorem fnExactYardUnbook_c20 : (fun (P : Program) (fn : Func) (c : OpenClaim) => (c.ifacesOut == fn.resultTypes.toList.any (P.ifacesRec ·))) Tryz.prog Tryz.f8 Rows.fnExactYardUnbookRow = true := by kernel_rfl
theorem fnExactYardUnbook_c21 : (fun (P : Program) (fn : Func) (c : OpenClaim) => (c.loopsOut == fn.resultTypes.toList.any (P.loopsFrom ·))) Tryz.prog Tryz.f8 Rows.fnExactYardUnbookRow = true := by kernel_rfl
theorem fnExactYardUnbook_c22 : (fun (P : Program) (c : OpenClaim) => (c.plainKeys == P.plainKeys)) Tryz.prog Rows.fnExactYardUnbookRow = true := by kernel_rfl
theorem fnExactYardUnbook_c23 : (fun (c : OpenClaim) => c.shortTexts.isNone) Rows.fnExactYardUnbookRow = true := by kernel_rfl
theorem fnExactYardUnbook_c26 : (fun (P : Program) (c : OpenClaim) => (c.lifted == P.liftsFinal)) Tryz.prog Rows.fnExactYardUnbookRow = true := by kernel_rfl
theorem fnExactYardUnbook_c27 : (fun (P : Program) (c : OpenClaim) => (P.make == some c.make)) Tryz.prog Rows.fnExactYardUnbookRow = true := by kernel_rfl
theorem fnExactYardUnbook_c28 : (fun (P : Program) (fn : Func) (c : OpenClaim) => (c.kinds == (if c.domain.isEmpty then [] else fn.params.toList.map fun t => match P.underlying t with | some (.int k) => some k | _ => none))) Tryz.prog Tryz.f8 Rows.fnExactYardUnbookRow = true := by kernel_rfl
theorem fnExactYardUnbook_c29 : (fun (c : OpenClaim) => (c.pinned == c.pinnedBy)) Rows.fnExactYardUnbookRow = true := by kernel_rfl
theorem fnExactYardUnbook_c30 : (fun (P : Program) (fn : Func) (s : ChangeSpec) (c : OpenClaim) => (c.veiled == (fn.params.toList ++ s.plain.varTypes P ++ fn.resultTypes.toList).any (P.veiledRec ·))) Tryz.prog Tryz.f8 Rows.fnExactYardUnbookSpec Rows.fnExactYardUnbookRow = true := by kernel_rfl
theorem fnExactYardUnbook_c31 : (fun (P : Program) (fn : Func) (s : ChangeSpec) (c : OpenClaim) => c.veiledFits P fn.params.toList (fn.params.toList ++ s.plain.varTypes P ++ fn.resultTypes.toList)) Tryz.prog Tryz.f8 Rows.fnExactYardUnbookSpec Rows.fnExactYardUnbookRow = true := by kernel_rfl
set_option maxRecDepth 100000 in
theorem fnExactYardUnbook_closed : joinedFacts Tryz.prog 8 Tryz.f8 Rows.fnExactYardUnbookSpec Rows.fnExactYardUnbookRow = true := andT (andT (andT (andT (andT (andT (andT (andT (andT (andT (andT (andT (andT (andT (andT (andT (andT (andT (andT (andT (andT (andT (andT (andT (andT (andT (andT (andT (andT (andT (andT fnExactYardUnbook_c0 seat1) seat2) fnExactYardUnbook_c3) fnExactYardUnbook_c4) fnExactYardUnbook_c5) seat6) fnExactYardUnbook_c7) seat8) fnExactYardUnbook_c9) fnExactYardUnbook_c10) fnExactYardUnbook_c11) fnExactYardUnbook_c12) fnExactYardUnbook_c13) fnExactYardUnbook_c14) fnExactYardUnbook_c15) fnExactYardUnbook_c16) fnExactYardUnbook_c17) fnExactYardUnbook_c18) fnExactYardUnbook_c19) fnExactYardUnbook_c20) fnExactYardUnbook_c21) fnExactYardUnbook_c22) fnExactYardUnbook_c23) seat24) seat25) fnExactYardUnbook_c26) fnExactYardUnbook_c27) fnExactYardUnbook_c28) fnExactYardUnbook_c29) fnExactYardUnbook_c30) fnExactYardUnbook_c31
end Go.Proofs.YtngldifgcgblpaaGreat
