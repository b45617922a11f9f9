/- The closed facts of the row of FnExactRowsHard, part by part. Printed by wip/closed.py. -/
import Derived.Test.YtalnbddpkkkpeaaKS
namespace Go.Proofs.Ytalnbddpkkkpeaa
open Go
theorem fnExactRowsHard_c0 : (fun (s : ChangeSpec) (c : OpenClaim) => c.wf (OpenSpec.ofChange s)) Rows.fnExactRowsHardSpec Rows.fnExactRowsHardRow = true := by kernel_rfl
theorem fnExactRowsHard_c3 : (fun (P : Program) (fn : Func) => fn.params.all (P.readableRec ·)) Try.prog Try.f4 = true := by kernel_rfl
theorem fnExactRowsHard_c4 : (fun (P : Program) (s : ChangeSpec) (c : OpenClaim) => namedTie P c.named s.vars) Try.prog Rows.fnExactRowsHardSpec Rows.fnExactRowsHardRow = true := by kernel_rfl
theorem fnExactRowsHard_c5 : (fun (c : OpenClaim) => (c.stops == [])) Rows.fnExactRowsHardRow = true := by kernel_rfl
theorem fnExactRowsHard_c7 : (fun (c : OpenClaim) => (c.knobs == [])) Rows.fnExactRowsHardRow = true := by kernel_rfl
theorem fnExactRowsHard_c9 : (fun (P : Program) (f : FuncId) (c : OpenClaim) => (c.inPlace == P.inPlace f)) Try.prog 4 Rows.fnExactRowsHardRow = true := by kernel_rfl
theorem fnExactRowsHard_c10 : (fun (P : Program) (f : FuncId) (c : OpenClaim) => (c.unfollowed == P.unfollowed f)) Try.prog 4 Rows.fnExactRowsHardRow = true := by kernel_rfl
theorem fnExactRowsHard_c11 : (fun (P : Program) (f : FuncId) (c : OpenClaim) => (c.recurses == P.recurses f)) Try.prog 4 Rows.fnExactRowsHardRow = true := by kernel_rfl
theorem fnExactRowsHard_c12 : (fun (P : Program) (f : FuncId) (c : OpenClaim) => (c.named == P.varsNamed f)) Try.prog 4 Rows.fnExactRowsHardRow = true := by kernel_rfl
theorem fnExactRowsHard_c13 : (fun (P : Program) (fn : Func) (s : ChangeSpec) (c : OpenClaim) => (c.maps == (fn.params.toList ++ s.plain.varTypes P).any (P.mapsRec ·))) Try.prog Try.f4 Rows.fnExactRowsHardSpec Rows.fnExactRowsHardRow = true := by kernel_rfl
theorem fnExactRowsHard_c14 : (fun (P : Program) (fn : Func) (s : ChangeSpec) (c : OpenClaim) => (c.ifaces == (fn.params.toList ++ s.plain.varTypes P).any (P.ifacesRec ·))) Try.prog Try.f4 Rows.fnExactRowsHardSpec Rows.fnExactRowsHardRow = true := by kernel_rfl
theorem fnExactRowsHard_c15 : (fun (P : Program) (fn : Func) (c : OpenClaim) => (c.mapsOut == P.mapsAmong fn.resultTypes.toList)) Try.prog Try.f4 Rows.fnExactRowsHardRow = true := by kernel_rfl
theorem fnExactRowsHard_c16 : (fun (P : Program) (fn : Func) (s : ChangeSpec) (c : OpenClaim) => (c.loops == (fn.params.toList ++ s.plain.varTypes P).any (P.loopsFrom ·))) Try.prog Try.f4 Rows.fnExactRowsHardSpec Rows.fnExactRowsHardRow = true := by kernel_rfl
theorem fnExactRowsHard_c17 : (fun (P : Program) (fn : Func) (s : ChangeSpec) (c : OpenClaim) => (c.wideKeys == (fn.params.toList ++ s.plain.varTypes P ++ fn.resultTypes.toList).any (P.wideKeysFrom ·))) Try.prog Try.f4 Rows.fnExactRowsHardSpec Rows.fnExactRowsHardRow = true := by kernel_rfl
theorem fnExactRowsHard_c18 : (fun (P : Program) (s : ChangeSpec) => s.vars.all (P.varReadable ·)) Try.prog Rows.fnExactRowsHardSpec = true := by kernel_rfl
theorem fnExactRowsHard_c19 : (fun (P : Program) (fn : Func) => fn.resultTypes.all (fun t => P.readableRec t && decide (t < P.types.size))) Try.prog Try.f4 = true := by kernel_rfl
theorem fnExactRowsHard_c20 : (fun (P : Program) (fn : Func) (c : OpenClaim) => (c.ifacesOut == fn.resultTypes.toList.any (P.ifacesRec ·))) Try.prog Try.f4 Rows.fnExactRowsHardRow = true := by kernel_rfl
theorem fnExactRowsHard_c21 : (fun (P : Program) (fn : Func) (c : OpenClaim) => (c.loopsOut == fn.resultTypes.toList.any (P.loopsFrom ·))) Try.prog Try.f4 Rows.fnExactRowsHardRow = true := by kernel_rfl
theorem fnExactRowsHard_c22 : (fun (P : Program) (c : OpenClaim) => (c.plainKeys == P.plainKeys)) Try.prog Rows.fnExactRowsHardRow = true := by kernel_rfl
theorem fnExactRowsHard_c23 : (fun (c : OpenClaim) => c.shortTexts.isNone) Rows.fnExactRowsHardRow = true := by kernel_rfl
theorem fnExactRowsHard_c26 : (fun (P : Program) (c : OpenClaim) => (c.lifted == P.liftsFinal)) Try.prog Rows.fnExactRowsHardRow = true := by kernel_rfl
theorem fnExactRowsHard_c27 : (fun (P : Program) (c : OpenClaim) => (P.make == some c.make)) Try.prog Rows.fnExactRowsHardRow = true := by kernel_rfl
theorem fnExactRowsHard_c28 : (fun (P : Program) (fn : Func) (c : OpenClaim) => (c.kinds == (if c.domain.isEmpty then [] else fn.params.toList.map fun t => match P.underlying t with | some (.int k) => some k | _ => none))) Try.prog Try.f4 Rows.fnExactRowsHardRow = true := by kernel_rfl
theorem fnExactRowsHard_c29 : (fun (c : OpenClaim) => (c.pinned == c.pinnedBy)) Rows.fnExactRowsHardRow = true := by kernel_rfl
theorem fnExactRowsHard_c30 : (fun (P : Program) (fn : Func) (s : ChangeSpec) (c : OpenClaim) => (c.veiled == (fn.params.toList ++ s.plain.varTypes P ++ fn.resultTypes.toList).any (P.veiledRec ·))) Try.prog Try.f4 Rows.fnExactRowsHardSpec Rows.fnExactRowsHardRow = true := by kernel_rfl
theorem fnExactRowsHard_c31 : (fun (P : Program) (fn : Func) (s : ChangeSpec) (c : OpenClaim) => c.veiledFits P fn.params.toList (fn.params.toList ++ s.plain.varTypes P ++ fn.resultTypes.toList)) Try.prog Try.f4 Rows.fnExactRowsHardSpec Rows.fnExactRowsHardRow = true := by kernel_rfl
set_option maxRecDepth 100000 in
theorem fnExactRowsHard_closed : joinedFacts Try.prog 4 Try.f4 Rows.fnExactRowsHardSpec Rows.fnExactRowsHardRow = true := andT (andT (andT (andT (andT (andT (andT (andT (andT (andT (andT (andT (andT (andT (andT (andT (andT (andT (andT (andT (andT (andT (andT (andT (andT (andT (andT (andT (andT (andT (andT fnExactRowsHard_c0 seat1) seat2) fnExactRowsHard_c3) fnExactRowsHard_c4) fnExactRowsHard_c5) seat6) fnExactRowsHard_c7) seat8) fnExactRowsHard_c9) fnExactRowsHard_c10) fnExactRowsHard_c11) fnExactRowsHard_c12) fnExactRowsHard_c13) fnExactRowsHard_c14) fnExactRowsHard_c15) fnExactRowsHard_c16) fnExactRowsHard_c17) fnExactRowsHard_c18) fnExactRowsHard_c19) fnExactRowsHard_c20) fnExactRowsHard_c21) fnExactRowsHard_c22) fnExactRowsHard_c23) seat24) seat25) fnExactRowsHard_c26) fnExactRowsHard_c27) fnExactRowsHard_c28) fnExactRowsHard_c29) fnExactRowsHard_c30) fnExactRowsHard_c31
end Go.Proofs.Ytalnbddpkkkpeaa
