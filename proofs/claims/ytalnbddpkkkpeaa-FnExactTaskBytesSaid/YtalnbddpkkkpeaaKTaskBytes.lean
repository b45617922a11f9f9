/- The closed facts of the row of FnExactTaskBytes, part by part. Printed by wip/closed.py. -/
import Derived.Test.YtalnbddpkkkpeaaKS
namespace Go.Proofs.Ytalnbddpkkkpeaa
open Go
theorem fnExactTaskBytes_c0 : (fun (s : ChangeSpec) (c : OpenClaim) => c.wf (OpenSpec.ofChange s)) Rows.fnExactTaskBytesSpec Rows.fnExactTaskBytesRow = true := by kernel_rfl
theorem fnExactTaskBytes_c3 : (fun (P : Program) (fn : Func) => fn.params.all (P.readableRec ·)) Try.prog Try.f7 = true := by kernel_rfl
theorem fnExactTaskBytes_c4 : (fun (P : Program) (s : ChangeSpec) (c : OpenClaim) => namedTie P c.named s.vars) Try.prog Rows.fnExactTaskBytesSpec Rows.fnExactTaskBytesRow = true := by kernel_rfl
theorem fnExactTaskBytes_c5 : (fun (c : OpenClaim) => (c.stops == [])) Rows.fnExactTaskBytesRow = true := by kernel_rfl
theorem fnExactTaskBytes_c7 : (fun (c : OpenClaim) => (c.knobs == [])) Rows.fnExactTaskBytesRow = true := by kernel_rfl
theorem fnExactTaskBytes_c9 : (fun (P : Program) (f : FuncId) (c : OpenClaim) => (c.inPlace == P.inPlace f)) Try.prog 7 Rows.fnExactTaskBytesRow = true := by kernel_rfl
theorem fnExactTaskBytes_c10 : (fun (P : Program) (f : FuncId) (c : OpenClaim) => (c.unfollowed == P.unfollowed f)) Try.prog 7 Rows.fnExactTaskBytesRow = true := by kernel_rfl
theorem fnExactTaskBytes_c11 : (fun (P : Program) (f : FuncId) (c : OpenClaim) => (c.recurses == P.recurses f)) Try.prog 7 Rows.fnExactTaskBytesRow = true := by kernel_rfl
theorem fnExactTaskBytes_c12 : (fun (P : Program) (f : FuncId) (c : OpenClaim) => (c.named == P.varsNamed f)) Try.prog 7 Rows.fnExactTaskBytesRow = true := by kernel_rfl
theorem fnExactTaskBytes_c13 : (fun (P : Program) (fn : Func) (s : ChangeSpec) (c : OpenClaim) => (c.maps == (fn.params.toList ++ s.plain.varTypes P).any (P.mapsRec ·))) Try.prog Try.f7 Rows.fnExactTaskBytesSpec Rows.fnExactTaskBytesRow = true := by kernel_rfl
theorem fnExactTaskBytes_c14 : (fun (P : Program) (fn : Func) (s : ChangeSpec) (c : OpenClaim) => (c.ifaces == (fn.params.toList ++ s.plain.varTypes P).any (P.ifacesRec ·))) Try.prog Try.f7 Rows.fnExactTaskBytesSpec Rows.fnExactTaskBytesRow = true := by kernel_rfl
theorem fnExactTaskBytes_c15 : (fun (P : Program) (fn : Func) (c : OpenClaim) => (c.mapsOut == P.mapsAmong fn.resultTypes.toList)) Try.prog Try.f7 Rows.fnExactTaskBytesRow = true := by kernel_rfl
theorem fnExactTaskBytes_c16 : (fun (P : Program) (fn : Func) (s : ChangeSpec) (c : OpenClaim) => (c.loops == (fn.params.toList ++ s.plain.varTypes P).any (P.loopsFrom ·))) Try.prog Try.f7 Rows.fnExactTaskBytesSpec Rows.fnExactTaskBytesRow = true := by kernel_rfl
theorem fnExactTaskBytes_c17 : (fun (P : Program) (fn : Func) (s : ChangeSpec) (c : OpenClaim) => (c.wideKeys == (fn.params.toList ++ s.plain.varTypes P ++ fn.resultTypes.toList).any (P.wideKeysFrom ·))) Try.prog Try.f7 Rows.fnExactTaskBytesSpec Rows.fnExactTaskBytesRow = true := by kernel_rfl
theorem fnExactTaskBytes_c18 : (fun (P : Program) (s : ChangeSpec) => s.vars.all (P.varReadable ·)) Try.prog Rows.fnExactTaskBytesSpec = true := by kernel_rfl
theorem fnExactTaskBytes_c19 : (fun (P : Program) (fn : Func) => fn.resultTypes.all (fun t => P.readableRec t && decide (t < P.types.size))) Try.prog Try.f7 = true := by kernel_rfl
theorem fnExactTaskBytes_c20 : (fun (P : Program) (fn : Func) (c : OpenClaim) => (c.ifacesOut == fn.resultTypes.toList.any (P.ifacesRec ·))) Try.prog Try.f7 Rows.fnExactTaskBytesRow = true := by kernel_rfl
theorem fnExactTaskBytes_c21 : (fun (P : Program) (fn : Func) (c : OpenClaim) => (c.loopsOut == fn.resultTypes.toList.any (P.loopsFrom ·))) Try.prog Try.f7 Rows.fnExactTaskBytesRow = true := by kernel_rfl
theorem fnExactTaskBytes_c22 : (fun (P : Program) (c : OpenClaim) => (c.plainKeys == P.plainKeys)) Try.prog Rows.fnExactTaskBytesRow = true := by kernel_rfl
theorem fnExactTaskBytes_c23 : (fun (c : OpenClaim) => c.shortTexts.isNone) Rows.fnExactTaskBytesRow = true := by kernel_rfl
theorem fnExactTaskBytes_c26 : (fun (P : Program) (c : OpenClaim) => (c.lifted == P.liftsFinal)) Try.prog Rows.fnExactTaskBytesRow = true := by kernel_rfl
theorem fnExactTaskBytes_c27 : (fun (P : Program) (c : OpenClaim) => (P.make == some c.make)) Try.prog Rows.fnExactTaskBytesRow = true := by kernel_rfl
theorem fnExactTaskBytes_c28 : (fun (P : Program) (fn : Func) (c : OpenClaim) => (c.kinds == (if c.domain.isEmpty then [] else fn.params.toList.map fun t => match P.underlying t with | some (.int k) => some k | _ => none))) Try.prog Try.f7 Rows.fnExactTaskBytesRow = true := by kernel_rfl
theorem fnExactTaskBytes_c29 : (fun (c : OpenClaim) => (c.pinned == c.pinnedBy)) Rows.fnExactTaskBytesRow = true := by kernel_rfl
theorem fnExactTaskBytes_c30 : (fun (P : Program) (fn : Func) (s : ChangeSpec) (c : OpenClaim) => (c.veiled == (fn.params.toList ++ s.plain.varTypes P ++ fn.resultTypes.toList).any (P.veiledRec ·))) Try.prog Try.f7 Rows.fnExactTaskBytesSpec Rows.fnExactTaskBytesRow = true := by kernel_rfl
theorem fnExactTaskBytes_c31 : (fun (P : Program) (fn : Func) (s : ChangeSpec) (c : OpenClaim) => c.veiledFits P fn.params.toList (fn.params.toList ++ s.plain.varTypes P ++ fn.resultTypes.toList)) Try.prog Try.f7 Rows.fnExactTaskBytesSpec Rows.fnExactTaskBytesRow = true := by kernel_rfl
set_option maxRecDepth 100000 in
theorem fnExactTaskBytes_closed : joinedFacts Try.prog 7 Try.f7 Rows.fnExactTaskBytesSpec Rows.fnExactTaskBytesRow = true := andT (andT (andT (andT (andT (andT (andT (andT (andT (andT (andT (andT (andT (andT (andT (andT (andT (andT (andT (andT (andT (andT (andT (andT (andT (andT (andT (andT (andT (andT (andT fnExactTaskBytes_c0 seat1) seat2) fnExactTaskBytes_c3) fnExactTaskBytes_c4) fnExactTaskBytes_c5) seat6) fnExactTaskBytes_c7) seat8) fnExactTaskBytes_c9) fnExactTaskBytes_c10) fnExactTaskBytes_c11) fnExactTaskBytes_c12) fnExactTaskBytes_c13) fnExactTaskBytes_c14) fnExactTaskBytes_c15) fnExactTaskBytes_c16) fnExactTaskBytes_c17) fnExactTaskBytes_c18) fnExactTaskBytes_c19) fnExactTaskBytes_c20) fnExactTaskBytes_c21) fnExactTaskBytes_c22) fnExactTaskBytes_c23) seat24) seat25) fnExactTaskBytes_c26) fnExactTaskBytes_c27) fnExactTaskBytes_c28) fnExactTaskBytes_c29) fnExactTaskBytes_c30) fnExactTaskBytes_c31
end Go.Proofs.Ytalnbddpkkkpeaa
