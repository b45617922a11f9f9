/- The closed facts of the row of FnExactYardBook, part by part. Printed by wip/closed.py. -/
import Derived.Test.YtngldifgcgblpaaGreatKS
namespace Go.Proofs.YtngldifgcgblpaaGreat
open Go
theorem fnExactYardBook_c0 : (fun (s : ChangeSpec) (c : OpenClaim) => c.wf (OpenSpec.ofChange s)) Rows.fnExactYardBookSpec Rows.fnExactYardBookRow = true := by kernel_rfl
theorem fnExactYardBook_c3 : (fun (P : Program) (fn : Func) => fn.params.all (P.readableRec ·)) Tryz.prog Tryz.f10 = true := by kernel_rfl
theorem fnExactYardBook_c4 : (fun (P : Program) (s : ChangeSpec) (c : OpenClaim) => namedTie P c.named s.vars) Tryz.prog Rows.fnExactYardBookSpec Rows.fnExactYardBookRow = true := by kernel_rfl
theorem fnExactYardBook_c5 : (fun (c : OpenClaim) => (c.stops == [])) Rows.fnExactYardBookRow = true := by kernel_rfl
theorem fnExactYardBook_c7 : (fun (c : OpenClaim) => (c.knobs == [])) Rows.fnExactYardBookRow = true := by kernel_rfl
theorem fnExactYardBook_c9 : (fun (P : Program) (f : FuncId) (c : OpenClaim) => (c.inPlace == P.inPlace f)) Tryz.prog 10 Rows.fnExactYardBookRow = true := by kernel_rfl
theorem fnExactYardBook_c10 : (fun (P : Program) (f : FuncId) (c : OpenClaim) => (c.unfollowed == P.unfollowed f)) Tryz.prog 10 Rows.fnExactYardBookRow = true := by kernel_rfl
theorem fnExactYardBook_c11 : (fun (P : Program) (f : FuncId) (c : OpenClaim) => (c.recurses == P.recurses f)) Tryz.prog 10 Rows.fnExactYardBookRow = true := by kernel_rfl
theorem fnExactYardBook_c12 : (fun (P : Program) (f : FuncId) (c : OpenClaim) => (c.named == P.varsNamed f)) Tryz.prog 10 Rows.fnExactYardBookRow = true := by kernel_rfl
theorem fnExactYardBook_c13 : (fun (P : Program) (fn : Func) (s : ChangeSpec) (c : OpenClaim) => (c.maps == (fn.params.toList ++ s.plain.varTypes P).any (P.mapsRec ·))) Tryz.prog Tryz.f10 Rows.fnExactYardBookSpec Rows.fnExactYardBookRow = true := by kernel_rfl
theorem fnExactYardBook_c14 : (fun (P : Program) (fn : Func) (s : ChangeSpec) (c : OpenClaim) => (c.ifaces == (fn.params.toList ++ s.plain.varTypes P).any (P.ifacesRec ·))) Tryz.prog Tryz.f10 Rows.fnExactYardBookSpec Rows.fnExactYardBookRow = true := by kernel_rfl
theorem fnExactYardBook_c15 : (fun (P : Program) (fn : Func) (c : OpenClaim) => (c.mapsOut == P.mapsAmong fn.resultTypes.toList)) Tryz.prog Tryz.f10 Rows.fnExactYardBookRow = true := by kernel_rfl
theorem fnExactYardBook_c16 : (fun (P : Program) (fn : Func) (s : ChangeSpec) (c : OpenClaim) => (c.loops == (fn.params.toList ++ s.plain.varTypes P).any (P.loopsFrom ·))) Tryz.prog Tryz.f10 Rows.fnExactYardBookSpec Rows.fnExactYardBookRow = true := by kernel_rfl
theorem fnExactYardBook_c17 : (fun (P : Program) (fn : Func) (s : ChangeSpec) (c : OpenClaim) => (c.wideKeys == (fn.params.toList ++ s.plain.varTypes P ++ fn.resultTypes.toList).any (P.wideKeysFrom ·))) Tryz.prog Tryz.f10 Rows.fnExactYardBookSpec Rows.fnExactYardBookRow = true := by kernel_rfl
theorem fnExactYardBook_c18 : (fun (P : Program) (s : ChangeSpec) => s.vars.all (P.varReadable ·)) Tryz.prog Rows.fnExactYardBookSpec = true := by kernel_rfl
theorem fnExactYardBook_c19 : (fun (P : Program) (fn : Func) => fn.resultTypes.all (fun t => P.readableRec t && decide (t < P.types.size))) Tryz.prog Tryz.f10 = true := by kernel_rfl
theorem fnExactYardBook_c20 : (fun (P : Program) (fn : Func) (c : OpenClaim) => (c.ifacesOut == fn.resultTypes.toList.any (P.ifacesRec ·))) Tryz.prog Tryz.f10 Rows.fnExactYardBookRow = true := by kernel_rfl
theorem fnExactYardBook_c21 : (fun (P : Program) (fn : Func) (c : OpenClaim) => (c.loopsOut == fn.resultTypes.toList.any (P.loopsFrom ·))) Tryz.prog Tryz.f10 Rows.fnExactYardBookRow = true := by kernel_rfl
theorem fnExactYardBook_c22 : (fun (P : Program) (c : OpenClaim) => (c.plainKeys == P.plainKeys)) Tryz.prog Rows.fnExactYardBookRow = true := by kernel_rfl
theorem fnExactYardBook_c23 : (fun (c : OpenClaim) => c.shortTexts.isNone) Rows.fnExactYardBookRow = true := by kernel_rfl
theorem fnExactYardBook_c26 : (fun (P : Program) (c : OpenClaim) => (c.lifted == P.liftsFinal)) Tryz.prog Rows.fnExactYardBookRow = true := by kernel_rfl
theorem fnExactYardBook_c27 : (fun (P : Program) (c : OpenClaim) => (P.make == some c.make)) Tryz.prog Rows.fnExactYardBookRow = true := by kernel_rfl
theorem fnExactYardBook_c28 : (fun (P : Program) (fn : Func) (c : OpenClaim) => (c.kinds == (if c.domain.isEmpty then [] else fn.params.toList.map fun t => match P.underlying t with | some (.int k) => some k | _ => none))) Tryz.prog Tryz.f10 Rows.fnExactYardBookRow = true := by kernel_rfl
theorem fnExactYardBook_c29 : (fun (c : OpenClaim) => (c.pinned == c.pinnedBy)) Rows.fnExactYardBookRow = true := by kernel_rfl
theorem fnExactYardBook_c30 : (fun (P : Program) (fn : Func) (s : ChangeSpec) (c : OpenClaim) => (c.veiled == (fn.params.toList ++ s.plain.varTypes P ++ fn.resultTypes.toList).any (P.veiledRec ·))) Tryz.prog Tryz.f10 Rows.fnExactYardBookSpec Rows.fnExactYardBookRow = true := by kernel_rfl
theorem fnExactYardBook_c31 : (fun (P : Program) (fn : Func) (s : ChangeSpec) (c : OpenClaim) => c.veiledFits P fn.params.toList (fn.params.toList ++ s.plain.varTypes P ++ fn.resultTypes.toList)) Tryz.prog Tryz.f10 Rows.fnExactYardBookSpec Rows.fnExactYardBookRow = true := by kernel_rfl
set_option maxRecDepth 100000 in
theorem fnExactYardBook_closed : joinedFacts Tryz.prog 10 Tryz.f10 Rows.fnExactYardBookSpec Rows.fnExactYardBookRow = true := andT (andT (andT (andT (andT (andT (andT (andT (andT (andT (andT (andT (andT (andT (andT (andT (andT (andT (andT (andT (andT (andT (andT (andT (andT (andT (andT (andT (andT (andT (andT fnExactYardBook_c0 seat1) seat2) fnExactYardBook_c3) fnExactYardBook_c4) fnExactYardBook_c5) seat6) fnExactYardBook_c7) seat8) fnExactYardBook_c9) fnExactYardBook_c10) fnExactYardBook_c11) fnExactYardBook_c12) fnExactYardBook_c13) fnExactYardBook_c14) fnExactYardBook_c15) fnExactYardBook_c16) fnExactYardBook_c17) fnExactYardBook_c18) fnExactYardBook_c19) fnExactYardBook_c20) fnExactYardBook_c21) fnExactYardBook_c22) fnExactYardBook_c23) seat24) seat25) fnExactYardBook_c26) fnExactYardBook_c27) fnExactYardBook_c28) fnExactYardBook_c29) fnExactYardBook_c30) fnExactYardBook_c31
end Go.Proofs.YtngldifgcgblpaaGreat
