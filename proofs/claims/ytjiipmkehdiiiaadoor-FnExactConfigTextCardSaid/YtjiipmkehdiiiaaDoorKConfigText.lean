/- The closed facts of the row of FnExactConfigText, part by part. Printed by wip/closed.py. -/
import Derived.Test.YtjiipmkehdiiiaaDoorKS
namespace Go.Proofs.YtjiipmkehdiiiaaDoor
open Go
theorem fnExactConfigText_c0 : (fun (s : ChangeSpec) (c : OpenClaim) => c.wf (OpenSpec.ofChange s)) Rows.fnExactConfigTextSpec Rows.fnExactConfigTextRow = true := by kernel_rfl
theorem fnExactConfigText_c3 : (fun (P : Program) (fn : Func) => fn.params.all (P.readableRec ·)) Tryd.prog Tryd.f3 = true := by kernel_rfl
theorem fnExactConfigText_c4 : (fun (P : Program) (s : ChangeSpec) (c : OpenClaim) => namedTie P c.named s.vars) Tryd.prog Rows.fnExactConfigTextSpec Rows.fnExactConfigTextRow = true := by kernel_rfl
theorem fnExactConfigText_c5 : (fun (c : OpenClaim) => (c.stops == [])) Rows.fnExactConfigTextRow = true := by kernel_rfl
theorem fnExactConfigText_c7 : (fun (c : OpenClaim) => (c.knobs == [])) Rows.fnExactConfigTextRow = true := by kernel_rfl
theorem fnExactConfigText_c9 : (fun (P : Program) (f : FuncId) (c : OpenClaim) => (c.inPlace == P.inPlace f)) Tryd.prog 3 Rows.fnExactConfigTextRow = true := by kernel_rfl
theorem fnExactConfigText_c10 : (fun (P : Program) (f : FuncId) (c : OpenClaim) => (c.unfollowed == P.unfollowed f)) Tryd.prog 3 Rows.fnExactConfigTextRow = true := by kernel_rfl
theorem fnExactConfigText_c11 : (fun (P : Program) (f : FuncId) (c : OpenClaim) => (c.recurses == P.recurses f)) Tryd.prog 3 Rows.fnExactConfigTextRow = true := by kernel_rfl
theorem fnExactConfigText_c12 : (fun (P : Program) (f : FuncId) (c : OpenClaim) => (c.named == P.varsNamed f)) Tryd.prog 3 Rows.fnExactConfigTextRow = true := by kernel_rfl
theorem fnExactConfigText_c13 : (fun (P : Program) (fn : Func) (s : ChangeSpec) (c : OpenClaim) => (c.maps == (fn.params.toList ++ s.plain.varTypes P).any (P.mapsRec ·))) Tryd.prog Tryd.f3 Rows.fnExactConfigTextSpec Rows.fnExactConfigTextRow = true := by kernel_rfl
theorem fnExactConfigText_c14 : (fun (P : Program) (fn : Func) (s : ChangeSpec) (c : OpenClaim) => (c.ifaces == (fn.params.toList ++ s.plain.varTypes P).any (P.ifacesRec ·))) Tryd.prog Tryd.f3 Rows.fnExactConfigTextSpec Rows.fnExactConfigTextRow = true := by kernel_rfl
theorem fnExactConfigText_c15 : (fun (P : Program) (fn : Func) (c : OpenClaim) => (c.mapsOut == P.mapsAmong fn.resultTypes.toList)) Tryd.prog Tryd.f3 Rows.fnExactConfigTextRow = true := by kernel_rfl
theorem fnExactConfigText_c16 : (fun (P : Program) (fn : Func) (s : ChangeSpec) (c : OpenClaim) => (c.loops == (fn.params.toList ++ s.plain.varTypes P).any (P.loopsFrom ·))) Tryd.prog Tryd.f3 Rows.fnExactConfigTextSpec Rows.fnExactConfigTextRow = true := by kernel_rfl
theorem fnExactConfigText_c17 : (fun (P : Program) (fn : Func) (s : ChangeSpec) (c : OpenClaim) => (c.wideKeys == (fn.params.toList ++ s.plain.varTypes P ++ fn.resultTypes.toList).any (P.wideKeysFrom ·))) Tryd.prog Tryd.f3 Rows.fnExactConfigTextSpec Rows.fnExactConfigTextRow = true := by kernel_rfl
theorem fnExactConfigText_c18 : (fun (P : Program) (s : ChangeSpec) => s.vars.all (P.varReadable ·)) Tryd.prog Rows.fnExactConfigTextSpec = true := by kernel_rfl
theorem fnExactConfigText_c19 : (fun (P : Program) (fn : Func) => fn.resultTypes.all (fun t => P.readableRec t && decide (t < P.types.size))) Tryd.prog Tryd.f3 = true := by kernel_rfl
theorem fnExactConfigText_c20 : (fun (P : Program) (fn : Func) (c : OpenClaim) => (c.ifacesOut == fn.resultTypes.toList.any (P.ifacesRec ·))) Tryd.prog Tryd.f3 Rows.fnExactConfigTextRow = true := by kernel_rfl
theorem fnExactConfigText_c21 : (fun (P : Program) (fn : Func) (c : OpenClaim) => (c.loopsOut == fn.resultTypes.toList.any (P.loopsFrom ·))) Tryd.prog Tryd.f3 Rows.fnExactConfigTextRow = true := by kernel_rfl
theorem fnExactConfigText_c22 : (fun (P : Program) (c : OpenClaim) => (c.plainKeys == P.plainKeys)) Tryd.prog Rows.fnExactConfigTextRow = true := by kernel_rfl
theorem fnExactConfigText_c23 : (fun (c : OpenClaim) => c.shortTexts.isNone) Rows.fnExactConfigTextRow = true := by kernel_rfl
theorem fnExactConfigText_c26 : (fun (P : Program) (c : OpenClaim) => (c.lifted == P.liftsFinal)) Tryd.prog Rows.fnExactConfigTextRow = true := by kernel_rfl
theorem fnExactConfigText_c27 : (fun (P : Program) (c : OpenClaim) => (P.make == some c.make)) Tryd.prog Rows.fnExactConfigTextRow = true := by kernel_rfl
theorem fnExactConfigText_c28 : (fun (P : Program) (fn : Func) (c : OpenClaim) => (c.kinds == (if c.domain.isEmpty then [] else fn.params.toList.map fun t => match P.underlying t with | some (.int k) => some k | _ => none))) Tryd.prog Tryd.f3 Rows.fnExactConfigTextRow = true := by kernel_rfl
theorem fnExactConfigText_c29 : (fun (c : OpenClaim) => (c.pinned == c.pinnedBy)) Rows.fnExactConfigTextRow = true := by kernel_rfl
theorem fnExactConfigText_c30 : (fun (P : Program) (fn : Func) (s : ChangeSpec) (c : OpenClaim) => (c.veiled == (fn.params.toList ++ s.plain.varTypes P ++ fn.resultTypes.toList).any (P.veiledRec ·))) Tryd.prog Tryd.f3 Rows.fnExactConfigTextSpec Rows.fnExactConfigTextRow = true := by kernel_rfl
theorem fnExactConfigText_c31 : (fun (P : Program) (fn : Func) (s : ChangeSpec) (c : OpenClaim) => c.veiledFits P fn.params.toList (fn.params.toList ++ s.plain.varTypes P ++ fn.resultTypes.toList)) Tryd.prog Tryd.f3 Rows.fnExactConfigTextSpec Rows.fnExactConfigTextRow = true := by kernel_rfl
set_option maxRecDepth 100000 in
theorem fnExactConfigText_closed : joinedFacts Tryd.prog 3 Tryd.f3 Rows.fnExactConfigTextSpec Rows.fnExactConfigTextRow = true := andT (andT (andT (andT (andT (andT (andT (andT (andT (andT (andT (andT (andT (andT (andT (andT (andT (andT (andT (andT (andT (andT (andT (andT (andT (andT (andT (andT (andT (andT (andT fnExactConfigText_c0 seat1) seat2) fnExactConfigText_c3) fnExactConfigText_c4) fnExactConfigText_c5) seat6) fnExactConfigText_c7) seat8) fnExactConfigText_c9) fnExactConfigText_c10) fnExactConfigText_c11) fnExactConfigText_c12) fnExactConfigText_c13) fnExactConfigText_c14) fnExactConfigText_c15) fnExactConfigText_c16) fnExactConfigText_c17) fnExactConfigText_c18) fnExactConfigText_c19) fnExactConfigText_c20) fnExactConfigText_c21) fnExactConfigText_c22) fnExactConfigText_c23) seat24) seat25) fnExactConfigText_c26) fnExactConfigText_c27) fnExactConfigText_c28) fnExactConfigText_c29) fnExactConfigText_c30) fnExactConfigText_c31
end Go.Proofs.YtjiipmkehdiiiaaDoor
