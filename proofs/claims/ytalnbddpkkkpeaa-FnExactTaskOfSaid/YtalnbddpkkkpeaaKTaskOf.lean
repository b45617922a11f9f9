/- The closed facts of the row of FnExactTaskOf, part by part. Printed by wip/closed.py. -/
import Derived.Test.YtalnbddpkkkpeaaKS
namespace Go.Proofs.Ytalnbddpkkkpeaa
open Go
theorem fnExactTaskOf_c0 : (fun (s : ChangeSpec) (c : OpenClaim) => c.wf (OpenSpec.ofChange s)) Rows.fnExactTaskOfSpec Rows.fnExactTaskOfRow = true := by kernel_rfl
theorem fnExactTaskOf_c3 : (fun (P : Program) (fn : Func) => fn.params.all (P.readableRec ·)) Try.prog Try.f9 = true := by kernel_rfl
theorem fnExactTaskOf_c4 : (fun (P : Program) (s : ChangeSpec) (c : OpenClaim) => namedTie P c.named s.vars) Try.prog Rows.fnExactTaskOfSpec Rows.fnExactTaskOfRow = true := by kernel_rfl
theorem fnExactTaskOf_c5 : (fun (c : OpenClaim) => (c.stops == [])) Rows.fnExactTaskOfRow = true := by kernel_rfl
theorem fnExactTaskOf_c7 : (fun (c : OpenClaim) => (c.knobs == [])) Rows.fnExactTaskOfRow = true := by kernel_rfl
theorem fnExactTaskOf_c9 : (fun (P : Program) (f : FuncId) (c : OpenClaim) => (c.inPlace == P.inPlace f)) Try.prog 9 Rows.fnExactTaskOfRow = true := by kernel_rfl
theorem fnExactTaskOf_c10 : (fun (P : Program) (f : FuncId) (c : OpenClaim) => (c.unfollowed == P.unfollowed f)) Try.prog 9 Rows.fnExactTaskOfRow = true := by kernel_rfl
theorem fnExactTaskOf_c11 : (fun (P : Program) (f : FuncId) (c : OpenClaim) => (c.recurses == P.recurses f)) Try.prog 9 Rows.fnExactTaskOfRow = true := by kernel_rfl
theorem fnExactTaskOf_c12 : (fun (P : Program) (f : FuncId) (c : OpenClaim) => (c.named == P.varsNamed f)) Try.prog 9 Rows.fnExactTaskOfRow = true := by kernel_rfl
theorem fnExactTaskOf_c13 : (fun (P : Program) (fn : Func) (s : ChangeSpec) (c : OpenClaim) => (c.maps == (fn.params.toList ++ s.plain.varTypes P).any (P.mapsRec ·))) Try.prog Try.f9 Rows.fnExactTaskOfSpec Rows.fnExactTaskOfRow = true := by kernel_rfl
theorem fnExactTaskOf_c14 : (fun (P : Program) (fn : Func) (s : ChangeSpec) (c : OpenClaim) => (c.ifaces == (fn.params.toList ++ s.plain.varTypes P).any (P.ifacesRec ·))) Try.prog Try.f9 Rows.fnExactTaskOfSpec Rows.fnExactTaskOfRow = true := by kernel_rfl
theorem fnExactTaskOf_c15 : (fun (P : Program) (fn : Func) (c : OpenClaim) => (c.mapsOut == P.mapsAmong fn.resultTypes.toList)) Try.prog Try.f9 Rows.fnExactTaskOfRow = true := by kernel_rfl
theorem fnExactTaskOf_c16 : (fun (P : Program) (fn : Func) (s : ChangeSpec) (c : OpenClaim) => (c.loops == (fn.params.toList ++ s.plain.varTypes P).any (P.loopsFrom ·))) Try.prog Try.f9 Rows.fnExactTaskOfSpec Rows.fnExactTaskOfRow = true := by kernel_rfl
theorem fnExactTaskOf_c17 : (fun (P : Program) (fn : Func) (s : ChangeSpec) (c : OpenClaim) => (c.wideKeys == (fn.params.toList ++ s.plain.varTypes P ++ fn.resultTypes.toList).any (P.wideKeysFrom ·))) Try.prog Try.f9 Rows.fnExactTaskOfSpec Rows.fnExactTaskOfRow = true := by kernel_rfl
theorem fnExactTaskOf_c18 : (fun (P : Program) (s : ChangeSpec) => s.vars.all (P.varReadable ·)) Try.prog Rows.fnExactTaskOfSpec = true := by kernel_rfl
theorem fnExactTaskOf_c19 : (fun (P : Program) (fn : Func) => fn.resultTypes.all (fun t => P.readableRec t && decide (t < P.types.size))) Try.prog Try.f9 = true := by kernel_rfl
theorem fnExactTaskOf_c20 : (fun (P : Program) (fn : Func) (c : OpenClaim) => (c.ifacesOut == fn.resultTypes.toList.any (P.ifacesRec ·))) Try.prog Try.f9 Rows.fnExactTaskOfRow = true := by kernel_rfl
theorem fnExactTaskOf_c21 : (fun (P : Program) (fn : Func) (c : OpenClaim) => (c.loopsOut == fn.resultTypes.toList.any (P.loopsFrom ·))) Try.prog Try.f9 Rows.fnExactTaskOfRow = true := by kernel_rfl
theorem fnExactTaskOf_c22 : (fun (P : Program) (c : OpenClaim) => (c.plainKeys == P.plainKeys)) Try.prog Rows.fnExactTaskOfRow = true := by kernel_rfl
theorem fnExactTaskOf_c23 : (fun (c : OpenClaim) => c.shortTexts.isNone) Rows.fnExactTaskOfRow = true := by kernel_rfl
theorem fnExactTaskOf_c26 : (fun (P : Program) (c : OpenClaim) => (c.lifted == P.liftsFinal)) Try.prog Rows.fnExactTaskOfRow = true := by kernel_rfl
theorem fnExactTaskOf_c27 : (fun (P : Program) (c : OpenClaim) => (P.make == some c.make)) Try.prog Rows.fnExactTaskOfRow = true := by kernel_rfl
theorem fnExactTaskOf_c28 : (fun (P : Program) (fn : Func) (c : OpenClaim) => (c.kinds == (if c.domain.isEmpty then [] else fn.params.toList.map fun t => match P.underlying t with | some (.int k) => some k | _ => none))) Try.prog Try.f9 Rows.fnExactTaskOfRow = true := by kernel_rfl
theorem fnExactTaskOf_c29 : (fun (c : OpenClaim) => (c.pinned == c.pinnedBy)) Rows.fnExactTaskOfRow = true := by kernel_rfl
theorem fnExactTaskOf_c30 : (fun (P : Program) (fn : Func) (s : ChangeSpec) (c : OpenClaim) => (c.veiled == (fn.params.toList ++ s.plain.varTypes P ++ fn.resultTypes.toList).any (P.veiledRec ·))) Try.prog Try.f9 Rows.fnExactTaskOfSpec Rows.fnExactTaskOfRow = true := by kernel_rfl
theorem fnExactTaskOf_c31 : (fun (P : Program) (fn : Func) (s : ChangeSpec) (c : OpenClaim) => c.veiledFits P fn.params.toList (fn.params.toList ++ s.plain.varTypes P ++ fn.resultTypes.toList)) Try.prog Try.f9 Rows.fnExactTaskOfSpec Rows.fnExactTaskOfRow = true := by kernel_rfl
set_option maxRecDepth 100000 in
theorem fnExactTaskOf_closed : joinedFacts Try.prog 9 Try.f9 Rows.fnExactTaskOfSpec Rows.fnExactTaskOfRow = true := andT (andT (andT (andT (andT (andT (andT (andT (andT (andT (andT (andT (andT (andT (andT (andT (andT (andT (andT (andT (andT (andT (andT (andT (andT (andT (andT (andT (andT (andT (andT fnExactTaskOf_c0 seat1) seat2) fnExactTaskOf_c3) fnExactTaskOf_c4) fnExactTaskOf_c5) seat6) fnExactTaskOf_c7) seat8) fnExactTaskOf_c9) fnExactTaskOf_c10) fnExactTaskOf_c11) fnExactTaskOf_c12) fnExactTaskOf_c13) fnExactTaskOf_c14) fnExactTaskOf_c15) fnExactTaskOf_c16) fnExactTaskOf_c17) fnExactTaskOf_c18) fnExactTaskOf_c19) fnExactTaskOf_c20) fnExactTaskOf_c21) fnExactTaskOf_c22) fnExactTaskOf_c23) seat24) seat25) fnExactTaskOf_c26) fnExactTaskOf_c27) fnExactTaskOf_c28) fnExactTaskOf_c29) fnExactTaskOf_c30) fnExactTaskOf_c31
end Go.Proofs.Ytalnbddpkkkpeaa
