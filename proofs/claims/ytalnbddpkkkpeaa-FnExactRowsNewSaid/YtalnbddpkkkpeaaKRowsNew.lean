/- The closed facts of the row of FnExactRowsNew, part by part. Printed by wip/closed.py. -/
import Derived.Test.YtalnbddpkkkpeaaKS
namespace Go.Proofs.Ytalnbddpkkkpeaa
open Go
theorem fnExactRowsNew_c0 : (fun (s : ChangeSpec) (c : OpenClaim) => c.wf (OpenSpec.ofChange s)) Rows.fnExactRowsNewSpec Rows.fnExactRowsNewRow = true := by kernel_rfl
theorem fnExactRowsNew_c3 : (fun (P : Program) (fn : Func) => fn.params.all (P.readableRec ·)) Try.prog Try.f5 = true := by kernel_rfl
theorem fnExactRowsNew_c4 : (fun (P : Program) (s : ChangeSpec) (c : OpenClaim) => namedTie P c.named s.vars) Try.prog Rows.fnExactRowsNewSpec Rows.fnExactRowsNewRow = true := by kernel_rfl
theorem fnExactRowsNew_c5 : (fun (c : OpenClaim) => (c.stops == [])) Rows.fnExactRowsNewRow = true := by kernel_rfl
theorem fnExactRowsNew_c7 : (fun (c : OpenClaim) => (c.knobs == [])) Rows.fnExactRowsNewRow = true := by kernel_rfl
theorem fnExactRowsNew_c9 : (fun (P : Program) (f : FuncId) (c : OpenClaim) => (c.inPlace == P.inPlace f)) Try.prog 5 Rows.fnExactRowsNewRow = true := by kernel_rfl
theorem fnExactRowsNew_c10 : (fun (P : Program) (f : FuncId) (c : OpenClaim) => (c.unfollowed == P.unfollowed f)) Try.prog 5 Rows.fnExactRowsNewRow = true := by kernel_rfl
theorem fnExactRowsNew_c11 : (fun (P : Program) (f : FuncId) (c : OpenClaim) => (c.recurses == P.recurses f)) Try.prog 5 Rows.fnExactRowsNewRow = true := by kernel_rfl
theorem fnExactRowsNew_c12 : (fun (P : Program) (f : FuncId) (c : OpenClaim) => (c.named == P.varsNamed f)) Try.prog 5 Rows.fnExactRowsNewRow = true := by kernel_rfl
theorem fnExactRowsNew_c13 : (fun (P : Program) (fn : Func) (s : ChangeSpec) (c : OpenClaim) => (c.maps == (fn.params.toList ++ s.plain.varTypes P).any (P.mapsRec ·))) Try.prog Try.f5 Rows.fnExactRowsNewSpec Rows.fnExactRowsNewRow = true := by kernel_rfl
theorem fnExactRowsNew_c14 : (fun (P : Program) (fn : Func) (s : ChangeSpec) (c : OpenClaim) => (c.ifaces == (fn.params.toList ++ s.plain.varTypes P).any (P.ifacesRec ·))) Try.prog Try.f5 Rows.fnExactRowsNewSpec Rows.fnExactRowsNewRow = true := by kernel_rfl
theorem fnExactRowsNew_c15 : (fun (P : Program) (fn : Func) (c : OpenClaim) => (c.mapsOut == P.mapsAmong fn.resultTypes.toList)) Try.prog Try.f5 Rows.fnExactRowsNewRow = true := by kernel_rfl
theorem fnExactRowsNew_c16 : (fun (P : Program) (fn : Func) (s : ChangeSpec) (c : OpenClaim) => (c.loops == (fn.params.toList ++ s.plain.varTypes P).any (P.loopsFrom ·))) Try.prog Try.f5 Rows.fnExactRowsNewSpec Rows.fnExactRowsNewRow = true := by kernel_rfl
theorem fnExactRowsNew_c17 : (fun (P : Program) (fn : Func) (s : ChangeSpec) (c : OpenClaim) => (c.wideKeys == (fn.params.toList ++ s.plain.varTypes P ++ fn.resultTypes.toList).any (P.wideKeysFrom ·))) Try.prog Try.f5 Rows.fnExactRowsNewSpec Rows.fnExactRowsNewRow = true := by kernel_rfl
theorem fnExactRowsNew_c18 : (fun (P : Program) (s : ChangeSpec) => s.vars.all (P.varReadable ·)) Try.prog Rows.fnExactRowsNewSpec = true := by kernel_rfl
theorem fnExactRowsNew_c19 : (fun (P : Program) (fn : Func) => fn.resultTypes.all (fun t => P.readableRec t && decide (t < P.types.size))) Try.prog Try.f5 = true := by kernel_rfl
theorem fnExactRowsNew_c20 : (fun (P : Program) (fn : Func) (c : OpenClaim) => (c.ifacesOut == fn.resultTypes.toList.any (P.ifacesRec ·))) Try.prog Try.f5 Rows.fnExactRowsNewRow = true := by kernel_rfl
theorem fnExactRowsNew_c21 : (fun (P : Program) (fn : Func) (c : OpenClaim) => (c.loopsOut == fn.resultTypes.toList.any (P.loopsFrom ·))) Try.prog Try.f5 Rows.fnExactRowsNewRow = true := by kernel_rfl
theorem fnExactRowsNew_c22 : (fun (P : Program) (c : OpenClaim) => (c.plainKeys == P.plainKeys)) Try.prog Rows.fnExactRowsNewRow = true := by kernel_rfl
theorem fnExactRowsNew_c23 : (fun (c : OpenClaim) => c.shortTexts.isNone) Rows.fnExactRowsNewRow = true := by kernel_rfl
theorem fnExactRowsNew_c26 : (fun (P : Program) (c : OpenClaim) => (c.lifted == P.liftsFinal)) Try.prog Rows.fnExactRowsNewRow = true := by kernel_rfl
theorem fnExactRowsNew_c27 : (fun (P : Program) (c : OpenClaim) => (P.make == some c.make)) Try.prog Rows.fnExactRowsNewRow = true := by kernel_rfl
theorem fnExactRowsNew_c28 : (fun (P : Program) (fn : Func) (c : OpenClaim) => (c.kinds == (if c.domain.isEmpty then [] else fn.params.toList.map fun t => match P.underlying t with | some (.int k) => some k | _ => none))) Try.prog Try.f5 Rows.fnExactRowsNewRow = true := by kernel_rfl
theorem fnExactRowsNew_c29 : (fun (c : OpenClaim) => (c.pinned == c.pinnedBy)) Rows.fnExactRowsNewRow = true := by kernel_rfl
theorem fnExactRowsNew_c30 : (fun (P : Program) (fn : Func) (s : ChangeSpec) (c : OpenClaim) => (c.veiled == (fn.params.toList ++ s.plain.varTypes P ++ fn.resultTypes.toList).any (P.veiledRec ·))) Try.prog Try.f5 Rows.fnExactRowsNewSpec Rows.fnExactRowsNewRow = true := by kernel_rfl
theorem fnExactRowsNew_c31 : (fun (P : Program) (fn : Func) (s : ChangeSpec) (c : OpenClaim) => c.veiledFits P fn.params.toList (fn.params.toList ++ s.plain.varTypes P ++ fn.resultTypes.toList)) Try.prog Try.f5 Rows.fnExactRowsNewSpec Rows.fnExactRowsNewRow = true := by kernel_rfl
set_option maxRecDepth 100000 in
theorem fnExactRowsNew_closed : joinedFacts Try.prog 5 Try.f5 Rows.fnExactRowsNewSpec Rows.fnExactRowsNewRow = true := andT (andT (andT (andT (andT (andT (andT (andT (andT (andT (andT (andT (andT (andT (andT (andT (andT (andT (andT (andT (andT (andT (andT (andT (andT (andT (andT (andT (andT (andT (andT fnExactRowsNew_c0 seat1) seat2) fnExactRowsNew_c3) fnExactRowsNew_c4) fnExactRowsNew_c5) seat6) fnExactRowsNew_c7) seat8) fnExactRowsNew_c9) fnExactRowsNew_c10) fnExactRowsNew_c11) fnExactRowsNew_c12) fnExactRowsNew_c13) fnExactRowsNew_c14) fnExactRowsNew_c15) fnExactRowsNew_c16) fnExactRowsNew_c17) fnExactRowsNew_c18) fnExactRowsNew_c19) fnExactRowsNew_c20) fnExactRowsNew_c21) fnExactRowsNew_c22) fnExactRowsNew_c23) seat24) seat25) fnExactRowsNew_c26) fnExactRowsNew_c27) fnExactRowsNew_c28) fnExactRowsNew_c29) fnExactRowsNew_c30) fnExactRowsNew_c31
end Go.Proofs.Ytalnbddpkkkpeaa
