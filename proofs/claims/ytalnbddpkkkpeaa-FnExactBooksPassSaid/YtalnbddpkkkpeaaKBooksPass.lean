/- The closed facts of the row of FnExactBooksPass, part by part. Printed by wip/closed.py. -/
import Derived.Test.YtalnbddpkkkpeaaKS
namespace Go.Proofs.Ytalnbddpkkkpeaa
open Go
theorem fnExactBooksPass_c0 : (fun (s : ChangeSpec) (c : OpenClaim) => c.wf (OpenSpec.ofChange s)) Rows.fnExactBooksPassSpec Rows.fnExactBooksPassRow = true := by kernel_rfl
theorem fnExactBooksPass_c3 : (fun (P : Program) (fn : Func) => fn.params.all (P.readableRec ·)) Try.prog Try.f6 = true := by kernel_rfl
theorem fnExactBooksPass_c4 : (fun (P : Program) (s : ChangeSpec) (c : OpenClaim) => namedTie P c.named s.vars) Try.prog Rows.fnExactBooksPassSpec Rows.fnExactBooksPassRow = true := by kernel_rfl
theorem fnExactBooksPass_c5 : (fun (c : OpenClaim) => (c.stops == [])) Rows.fnExactBooksPassRow = true := by kernel_rfl
theorem fnExactBooksPass_c7 : (fun (c : OpenClaim) => (c.knobs == [])) Rows.fnExactBooksPassRow = true := by kernel_rfl
theorem fnExactBooksPass_c9 : (fun (P : Program) (f : FuncId) (c : OpenClaim) => (c.inPlace == P.inPlace f)) Try.prog 6 Rows.fnExactBooksPassRow = true := by kernel_rfl
theorem fnExactBooksPass_c10 : (fun (P : Program) (f : FuncId) (c : OpenClaim) => (c.unfollowed == P.unfollowed f)) Try.prog 6 Rows.fnExactBooksPassRow = true := by kernel_rfl
theorem fnExactBooksPass_c11 : (fun (P : Program) (f : FuncId) (c : OpenClaim) => (c.recurses == P.recurses f)) Try.prog 6 Rows.fnExactBooksPassRow = true := by kernel_rfl
theorem fnExactBooksPass_c12 : (fun (P : Program) (f : FuncId) (c : OpenClaim) => (c.named == P.varsNamed f)) Try.prog 6 Rows.fnExactBooksPassRow = true := by kernel_rfl
theorem fnExactBooksPass_c13 : (fun (P : Program) (fn : Func) (s : ChangeSpec) (c : OpenClaim) => (c.maps == (fn.params.toList ++ s.plain.varTypes P).any (P.mapsRec ·))) Try.prog Try.f6 Rows.fnExactBooksPassSpec Rows.fnExactBooksPassRow = true := by kernel_rfl
theorem fnExactBooksPass_c14 : (fun (P : Program) (fn : Func) (s : ChangeSpec) (c : OpenClaim) => (c.ifaces == (fn.params.toList ++ s.plain.varTypes P).any (P.ifacesRec ·))) Try.prog Try.f6 Rows.fnExactBooksPassSpec Rows.fnExactBooksPassRow = true := by kernel_rfl
theorem fnExactBooksPass_c15 : (fun (P : Program) (fn : Func) (c : OpenClaim) => (c.mapsOut == P.mapsAmong fn.resultTypes.toList)) Try.prog Try.f6 Rows.fnExactBooksPassRow = true := by kernel_rfl
theorem fnExactBooksPass_c16 : (fun (P : Program) (fn : Func) (s : ChangeSpec) (c : OpenClaim) => (c.loops == (fn.params.toList ++ s.plain.varTypes P).any (P.loopsFrom ·))) Try.prog Try.f6 Rows.fnExactBooksPassSpec Rows.fnExactBooksPassRow = true := by kernel_rfl
theorem fnExactBooksPass_c17 : (fun (P : Program) (fn : Func) (s : ChangeSpec) (c : OpenClaim) => (c.wideKeys == (fn.params.toList ++ s.plain.varTypes P ++ fn.resultTypes.toList).any (P.wideKeysFrom ·))) Try.prog Try.f6 Rows.fnExactBooksPassSpec Rows.fnExactBooksPassRow = true := by kernel_rfl
theorem fnExactBooksPass_c18 : (fun (P : Program) (s : ChangeSpec) => s.vars.all (P.varReadable ·)) Try.prog Rows.fnExactBooksPassSpec = true := by kernel_rfl
theorem fnExactBooksPass_c19 : (fun (P : Program) (fn : Func) => fn.resultTypes.all (fun t => P.readableRec t && decide (t < P.types.size))) Try.prog Try.f6 = true := by kernel_rfl
theorem fnExactBooksPass_c20 : (fun (P : Program) (fn : Func) (c : OpenClaim) => (c.ifacesOut == fn.resultTypes.toList.any (P.ifacesRec ·))) Try.prog Try.f6 Rows.fnExactBooksPassRow = true := by kernel_rfl
theorem fnExactBooksPass_c21 : (fun (P : Program) (fn : Func) (c : OpenClaim) => (c.loopsOut == fn.resultTypes.toList.any (P.loopsFrom ·))) Try.prog Try.f6 Rows.fnExactBooksPassRow = true := by kernel_rfl
theorem fnExactBooksPass_c22 : (fun (P : Program) (c : OpenClaim) => (c.plainKeys == P.plainKeys)) Try.prog Rows.fnExactBooksPassRow = true := by kernel_rfl
theorem fnExactBooksPass_c23 : (fun (c : OpenClaim) => c.shortTexts.isNone) Rows.fnExactBooksPassRow = true := by kernel_rfl
theorem fnExactBooksPass_c26 : (fun (P : Program) (c : OpenClaim) => (c.lifted == P.liftsFinal)) Try.prog Rows.fnExactBooksPassRow = true := by kernel_rfl
theorem fnExactBooksPass_c27 : (fun (P : Program) (c : OpenClaim) => (P.make == some c.make)) Try.prog Rows.fnExactBooksPassRow = true := by kernel_rfl
theorem fnExactBooksPass_c28 : (fun (P : Program) (fn : Func) (c : OpenClaim) => (c.kinds == (if c.domain.isEmpty then [] else fn.params.toList.map fun t => match P.underlying t with | some (.int k) => some k | _ => none))) Try.prog Try.f6 Rows.fnExactBooksPassRow = true := by kernel_rfl
theorem fnExactBooksPass_c29 : (fun (c : OpenClaim) => (c.pinned == c.pinnedBy)) Rows.fnExactBooksPassRow = true := by kernel_rfl
theorem fnExactBooksPass_c30 : (fun (P : Program) (fn : Func) (s : ChangeSpec) (c : OpenClaim) => (c.veiled == (fn.params.toList ++ s.plain.varTypes P ++ fn.resultTypes.toList).any (P.veiledRec ·))) Try.prog Try.f6 Rows.fnExactBooksPassSpec Rows.fnExactBooksPassRow = true := by kernel_rfl
theorem fnExactBooksPass_c31 : (fun (P : Program) (fn : Func) (s : ChangeSpec) (c : OpenClaim) => c.veiledFits P fn.params.toList (fn.params.toList ++ s.plain.varTypes P ++ fn.resultTypes.toList)) Try.prog Try.f6 Rows.fnExactBooksPassSpec Rows.fnExactBooksPassRow = true := by kernel_rfl
set_option maxRecDepth 100000 in
theorem fnExactBooksPass_closed : joinedFacts Try.prog 6 Try.f6 Rows.fnExactBooksPassSpec Rows.fnExactBooksPassRow = true := andT (andT (andT (andT (andT (andT (andT (andT (andT (andT (andT (andT (andT (andT (andT (andT (andT (andT (andT (andT (andT (andT (andT (andT (andT (andT (andT (andT (andT (andT (andT fnExactBooksPass_c0 seat1) seat2) fnExactBooksPass_c3) fnExactBooksPass_c4) fnExactBooksPass_c5) seat6) fnExactBooksPass_c7) seat8) fnExactBooksPass_c9) fnExactBooksPass_c10) fnExactBooksPass_c11) fnExactBooksPass_c12) fnExactBooksPass_c13) fnExactBooksPass_c14) fnExactBooksPass_c15) fnExactBooksPass_c16) fnExactBooksPass_c17) fnExactBooksPass_c18) fnExactBooksPass_c19) fnExactBooksPass_c20) fnExactBooksPass_c21) fnExactBooksPass_c22) fnExactBooksPass_c23) seat24) seat25) fnExactBooksPass_c26) fnExactBooksPass_c27) fnExactBooksPass_c28) fnExactBooksPass_c29) fnExactBooksPass_c30) fnExactBooksPass_c31
end Go.Proofs.Ytalnbddpkkkpeaa
