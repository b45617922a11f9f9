/- The closed facts of the row of FnExactBookCut, part by part. Printed by wip/closed.py. -/
import Derived.Test.YtalnbddpkkkpeaaKS
namespace Go.Proofs.Ytalnbddpkkkpeaa
open Go
theorem fnExactBookCut_c0 : (fun (s : ChangeSpec) (c : OpenClaim) => c.wf (OpenSpec.ofChange s)) Rows.fnExactBookCutSpec Rows.fnExactBookCutRow = true := by kernel_rfl
theorem fnExactBookCut_c3 : (fun (P : Program) (fn : Func) => fn.params.all (P.readableRec ·)) Try.prog Try.f12 = true := by kernel_rfl
theorem fnExactBookCut_c4 : (fun (P : Program) (s : ChangeSpec) (c : OpenClaim) => namedTie P c.named s.vars) Try.prog Rows.fnExactBookCutSpec Rows.fnExactBookCutRow = true := by kernel_rfl
theorem fnExactBookCut_c5 : (fun (c : OpenClaim) => (c.stops == [])) Rows.fnExactBookCutRow = true := by kernel_rfl
theorem fnExactBookCut_c7 : (fun (c : OpenClaim) => (c.knobs == [])) Rows.fnExactBookCutRow = true := by kernel_rfl
theorem fnExactBookCut_c9 : (fun (P : Program) (f : FuncId) (c : OpenClaim) => (c.inPlace == P.inPlace f)) Try.prog 12 Rows.fnExactBookCutRow = true := by kernel_rfl
theorem fnExactBookCut_c10 : (fun (P : Program) (f : FuncId) (c : OpenClaim) => (c.unfollowed == P.unfollowed f)) Try.prog 12 Rows.fnExactBookCutRow = true := by kernel_rfl
theorem fnExactBookCut_c11 : (fun (P : Program) (f : FuncId) (c : OpenClaim) => (c.recurses == P.recurses f)) Try.prog 12 Rows.fnExactBookCutRow = true := by kernel_rfl
theorem fnExactBookCut_c12 : (fun (P : Program) (f : FuncId) (c : OpenClaim) => (c.named == P.varsNamed f)) Try.prog 12 Rows.fnExactBookCutRow = true := by kernel_rfl
theorem fnExactBookCut_c13 : (fun (P : Program) (fn : Func) (s : ChangeSpec) (c : OpenClaim) => (c.maps == (fn.params.toList ++ s.plain.varTypes P).any (P.mapsRec ·))) Try.prog Try.f12 Rows.fnExactBookCutSpec Rows.fnExactBookCutRow = true := by kernel_rfl
theorem fnExactBookCut_c14 : (fun (P : Program) (fn : Func) (s : ChangeSpec) (c : OpenClaim) => (c.ifaces == (fn.params.toList ++ s.plain.varTypes P).any (P.ifacesRec ·))) Try.prog Try.f12 Rows.fnExactBookCutSpec Rows.fnExactBookCutRow = true := by kernel_rfl
theorem fnExactBookCut_c15 : (fun (P : Program) (fn : Func) (c : OpenClaim) => (c.mapsOut == P.mapsAmong fn.resultTypes.toList)) Try.prog Try.f12 Rows.fnExactBookCutRow = true := by kernel_rfl
theorem fnExactBookCut_c16 : (fun (P : Program) (fn : Func) (s : ChangeSpec) (c : OpenClaim) => (c.loops == (fn.params.toList ++ s.plain.varTypes P).any (P.loopsFrom ·))) Try.prog Try.f12 Rows.fnExactBookCutSpec Rows.fnExactBookCutRow = true := by kernel_rfl
theorem fnExactBookCut_c17 : (fun (P : Program) (fn : Func) (s : ChangeSpec) (c : OpenClaim) => (c.wideKeys == (fn.params.toList ++ s.plain.varTypes P ++ fn.resultTypes.toList).any (P.wideKeysFrom ·))) Try.prog Try.f12 Rows.fnExactBookCutSpec Rows.fnExactBookCutRow = true := by kernel_rfl
theorem fnExactBookCut_c18 : (fun (P : Program) (s : ChangeSpec) => s.vars.all (P.varReadable ·)) Try.prog Rows.fnExactBookCutSpec = true := by kernel_rfl
theorem fnExactBookCut_c19 : (fun (P : Program) (fn : Func) => fn.resultTypes.all (fun t => P.readableRec t && decide (t < P.types.size))) Try.prog Try.f12 = true := by kernel_rfl
theorem fnExactBookCut_c20 : (fun (P : Program) (fn : Func) (c : OpenClaim) => (c.ifacesOut == fn.resultTypes.toList.any (P.ifacesRec ·))) Try.prog Try.f12 Rows.fnExactBookCutRow = true := by kernel_rfl
theorem fnExactBookCut_c21 : (fun (P : Program) (fn : Func) (c : OpenClaim) => (c.loopsOut == fn.resultTypes.toList.any (P.loopsFrom ·))) Try.prog Try.f12 Rows.fnExactBookCutRow = true := by kernel_rfl
theorem fnExactBookCut_c22 : (fun (P : Program) (c : OpenClaim) => (c.plainKeys == P.plainKeys)) Try.prog Rows.fnExactBookCutRow = true := by kernel_rfl
theorem fnExactBookCut_c23 : (fun (c : OpenClaim) => c.shortTexts.isNone) Rows.fnExactBookCutRow = true := by kernel_rfl
theorem fnExactBookCut_c26 : (fun (P : Program) (c : OpenClaim) => (c.lifted == P.liftsFinal)) Try.prog Rows.fnExactBookCutRow = true := by kernel_rfl
theorem fnExactBookCut_c27 : (fun (P : Program) (c : OpenClaim) => (P.make == some c.make)) Try.prog Rows.fnExactBookCutRow = true := by kernel_rfl
theorem fnExactBookCut_c28 : (fun (P : Program) (fn : Func) (c : OpenClaim) => (c.kinds == (if c.domain.isEmpty then [] else fn.params.toList.map fun t => match P.underlying t with | some (.int k) => some k | _ => none))) Try.prog Try.f12 Rows.fnExactBookCutRow = true := by kernel_rfl
theorem fnExactBookCut_c29 : (fun (c : OpenClaim) => (c.pinned == c.pinnedBy)) Rows.fnExactBookCutRow = true := by kernel_rfl
theorem fnExactBookCut_c30 : (fun (P : Program) (fn : Func) (s : ChangeSpec) (c : OpenClaim) => (c.veiled == (fn.params.toList ++ s.plain.varTypes P ++ fn.resultTypes.toList).any (P.veiledRec ·))) Try.prog Try.f12 Rows.fnExactBookCutSpec Rows.fnExactBookCutRow = true := by kernel_rfl
theorem fnExactBookCut_c31 : (fun (P : Program) (fn : Func) (s : ChangeSpec) (c : OpenClaim) => c.veiledFits P fn.params.toList (fn.params.toList ++ s.plain.varTypes P ++ fn.resultTypes.toList)) Try.prog Try.f12 Rows.fnExactBookCutSpec Rows.fnExactBookCutRow = true := by kernel_rfl
set_option maxRecDepth 100000 in
theorem fnExactBookCut_closed : joinedFacts Try.prog 12 Try.f12 Rows.fnExactBookCutSpec Rows.fnExactBookCutRow = true := andT (andT (andT (andT (andT (andT (andT (andT (andT (andT (andT (andT (andT (andT (andT (andT (andT (andT (andT (andT (andT (andT (andT (andT (andT (andT (andT (andT (andT (andT (andT fnExactBookCut_c0 seat1) seat2) fnExactBookCut_c3) fnExactBookCut_c4) fnExactBookCut_c5) seat6) fnExactBookCut_c7) seat8) fnExactBookCut_c9) fnExactBookCut_c10) fnExactBookCut_c11) fnExactBookCut_c12) fnExactBookCut_c13) fnExactBookCut_c14) fnExactBookCut_c15) fnExactBookCut_c16) fnExactBookCut_c17) fnExactBookCut_c18) fnExactBookCut_c19) fnExactBookCut_c20) fnExactBookCut_c21) fnExactBookCut_c22) fnExactBookCut_c23) seat24) seat25) fnExactBookCut_c26) fnExactBookCut_c27) fnExactBookCut_c28) fnExactBookCut_c29) fnExactBookCut_c30) fnExactBookCut_c31
end Go.Proofs.Ytalnbddpkkkpeaa
