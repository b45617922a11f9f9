/- The closed facts of the row of FnExactOrphans, part by part. Printed by wip/closed.py. -/
import Derived.Test.YtalnbddpkkkpeaaKS
namespace Go.Proofs.Ytalnbddpkkkpeaa
open Go
theorem fnExactOrphans_c0 : (fun (s : ChangeSpec) (c : OpenClaim) => c.wf (OpenSpec.ofChange s)) Rows.fnExactOrphansSpec Rows.fnExactOrphansRow = true := by kernel_rfl
theorem fnExactOrphans_c3 : (fun (P : Program) (fn : Func) => fn.params.all (P.readableRec ·)) Try.prog Try.f10 = true := by kernel_rfl
theorem fnExactOrphans_c4 : (fun (P : Program) (s : ChangeSpec) (c : OpenClaim) => namedTie P c.named s.vars) Try.prog Rows.fnExactOrphansSpec Rows.fnExactOrphansRow = true := by kernel_rfl
theorem fnExactOrphans_c5 : (fun (c : OpenClaim) => (c.stops == [])) Rows.fnExactOrphansRow = true := by kernel_rfl
theorem fnExactOrphans_c7 : (fun (c : OpenClaim) => (c.knobs == [])) Rows.fnExactOrphansRow = true := by kernel_rfl
theorem fnExactOrphans_c9 : (fun (P : Program) (f : FuncId) (c : OpenClaim) => (c.inPlace == P.inPlace f)) Try.prog 10 Rows.fnExactOrphansRow = true := by kernel_rfl
theorem fnExactOrphans_c10 : (fun (P : Program) (f : FuncId) (c : OpenClaim) => (c.unfollowed == P.unfollowed f)) Try.prog 10 Rows.fnExactOrphansRow = true := by kernel_rfl
theorem fnExactOrphans_c11 : (fun (P : Program) (f : FuncId) (c : OpenClaim) => (c.recurses == P.recurses f)) Try.prog 10 Rows.fnExactOrphansRow = true := by kernel_rfl
theorem fnExactOrphans_c12 : (fun (P : Program) (f : FuncId) (c : OpenClaim) => (c.named == P.varsNamed f)) Try.prog 10 Rows.fnExactOrphansRow = true := by kernel_rfl
theorem fnExactOrphans_c13 : (fun (P : Program) (fn : Func) (s : ChangeSpec) (c : OpenClaim) => (c.maps == (fn.params.toList ++ s.plain.varTypes P).any (P.mapsRec ·))) Try.prog Try.f10 Rows.fnExactOrphansSpec Rows.fnExactOrphansRow = true := by kernel_rfl
theorem fnExactOrphans_c14 : (fun (P : Program) (fn : Func) (s : ChangeSpec) (c : OpenClaim) => (c.ifaces == (fn.params.toList ++ s.plain.varTypes P).any (P.ifacesRec ·))) Try.prog Try.f10 Rows.fnExactOrphansSpec Rows.fnExactOrphansRow = true := by kernel_rfl
theorem fnExactOrphans_c15 : (fun (P : Program) (fn : Func) (c : OpenClaim) => (c.mapsOut == P.mapsAmong fn.resultTypes.toList)) Try.prog Try.f10 Rows.fnExactOrphansRow = true := by kernel_rfl
theorem fnExactOrphans_c16 : (fun (P : Program) (fn : Func) (s : ChangeSpec) (c : OpenClaim) => (c.loops == (fn.params.toList ++ s.plain.varTypes P).any (P.loopsFrom ·))) Try.prog Try.f10 Rows.fnExactOrphansSpec Rows.fnExactOrphansRow = true := by kernel_rfl
theorem fnExactOrphans_c17 : (fun (P : Program) (fn : Func) (s : ChangeSpec) (c : OpenClaim) => (c.wideKeys == (fn.params.toList ++ s.plain.varTypes P ++ fn.resultTypes.toList).any (P.wideKeysFrom ·))) Try.prog Try.f10 Rows.fnExactOrphansSpec Rows.fnExactOrphansRow = true := by kernel_rfl
theorem fnExactOrphans_c18 : (fun (P : Program) (s : ChangeSpec) => s.vars.all (P.varReadable ·)) Try.prog Rows.fnExactOrphansSpec = true := by kernel_rfl
theorem fnExactOrphans_c19 : (fun (P : Program) (fn : Func) => fn.resultTypes.all (fun t => P.readableRec t && decide (t < P.types.size))) Try.prog Try.f10 = true := by kernel_rfl
theorem fnExactOrphans_c20 : (fun (P : Program) (fn : Func) (c : OpenClaim) => (c.ifacesOut == fn.resultTypes.toList.any (P.ifacesRec ·))) Try.prog Try.f10 Rows.fnExactOrphansRow = true := by kernel_rfl
theorem fnExactOrphans_c21 : (fun (P : Program) (fn : Func) (c : OpenClaim) => (c.loopsOut == fn.resultTypes.toList.any (P.loopsFrom ·))) Try.prog Try.f10 Rows.fnExactOrphansRow = true := by kernel_rfl
theorem fnExactOrphans_c22 : (fun (P : Program) (c : OpenClaim) => (c.plainKeys == P.plainKeys)) Try.prog Rows.fnExactOrphansRow = true := by kernel_rfl
theorem fnExactOrphans_c23 : (fun (c : OpenClaim) => c.shortTexts.isNone) Rows.fnExactOrphansRow = true := by kernel_rfl
theorem fnExactOrphans_c26 : (fun (P : Program) (c : OpenClaim) => (c.lifted == P.liftsFinal)) Try.prog Rows.fnExactOrphansRow = true := by kernel_rfl
theorem fnExactOrphans_c27 : (fun (P : Program) (c : OpenClaim) => (P.make == some c.make)) Try.prog Rows.fnExactOrphansRow = true := by kernel_rfl
theorem fnExactOrphans_c28 : (fun (P : Program) (fn : Func) (c : OpenClaim) => (c.kinds == (if c.domain.isEmpty then [] else fn.params.toList.map fun t => match P.underlying t with | some (.int k) => some k | _ => none))) Try.prog Try.f10 Rows.fnExactOrphansRow = true := by kernel_rfl
theorem fnExactOrphans_c29 : (fun (c : OpenClaim) => (c.pinned == c.pinnedBy)) Rows.fnExactOrphansRow = true := by kernel_rfl
theorem fnExactOrphans_c30 : (fun (P : Program) (fn : Func) (s : ChangeSpec) (c : OpenClaim) => (c.veiled == (fn.params.toList ++ s.plain.varTypes P ++ fn.resultTypes.toList).any (P.veiledRec ·))) Try.prog Try.f10 Rows.fnExactOrphansSpec Rows.fnExactOrphansRow = true := by kernel_rfl
theorem fnExactOrphans_c31 : (fun (P : Program) (fn : Func) (s : ChangeSpec) (c : OpenClaim) => c.veiledFits P fn.params.toList (fn.params.toList ++ s.plain.varTypes P ++ fn.resultTypes.toList)) Try.prog Try.f10 Rows.fnExactOrphansSpec Rows.fnExactOrphansRow = true := by kernel_rfl
set_option maxRecDepth 100000 in
theorem fnExactOrphans_closed : joinedFacts Try.prog 10 Try.f10 Rows.fnExactOrphansSpec Rows.fnExactOrphansRow = true := andT (andT (andT (andT (andT (andT (andT (andT (andT (andT (andT (andT (andT (andT (andT (andT (andT (andT (andT (andT (andT (andT (andT (andT (andT (andT (andT (andT (andT (andT (andT fnExactOrphans_c0 seat1) seat2) fnExactOrphans_c3) fnExactOrphans_c4) fnExactOrphans_c5) seat6) fnExactOrphans_c7) seat8) fnExactOrphans_c9) fnExactOrphans_c10) fnExactOrphans_c11) fnExactOrphans_c12) fnExactOrphans_c13) fnExactOrphans_c14) fnExactOrphans_c15) fnExactOrphans_c16) fnExactOrphans_c17) fnExactOrphans_c18) fnExactOrphans_c19) fnExactOrphans_c20) fnExactOrphans_c21) fnExactOrphans_c22) fnExactOrphans_c23) seat24) seat25) fnExactOrphans_c26) fnExactOrphans_c27) fnExactOrphans_c28) fnExactOrphans_c29) fnExactOrphans_c30) fnExactOrphans_c31
end Go.Proofs.Ytalnbddpkkkpeaa
