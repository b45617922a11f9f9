/- The closed facts of the row of FnExactMailRight, part by part. Printed by wip/closed.py. -/
import Derived.Test.YtdhcbbbmajjehaaKS
namespace Go.Proofs.Ytdhcbbbmajjehaa
open Go
theorem fnExactMailRight_c0 : (fun (s : ChangeSpec) (c : OpenClaim) => c.wf (OpenSpec.ofChange s)) Rows.fnExactMailRightSpec Rows.fnExactMailRightRow = true := by kernel_rfl
theorem fnExactMailRight_c3 : (fun (P : Program) (fn : Func) => fn.params.all (P.readableRec ·)) Try.prog Try.f7 = true := by kernel_rfl
theorem fnExactMailRight_c4 : (fun (P : Program) (s : ChangeSpec) (c : OpenClaim) => namedTie P c.named s.vars) Try.prog Rows.fnExactMailRightSpec Rows.fnExactMailRightRow = true := by kernel_rfl
theorem fnExactMailRight_c5 : (fun (c : OpenClaim) => (c.stops == [])) Rows.fnExactMailRightRow = true := by kernel_rfl
theorem fnExactMailRight_c7 : (fun (c : OpenClaim) => (c.knobs == [])) Rows.fnExactMailRightRow = true := by kernel_rfl
theorem fnExactMailRight_c9 : (fun (P : Program) (f : FuncId) (c : OpenClaim) => (c.inPlace == P.inPlace f)) Try.prog 7 Rows.fnExactMailRightRow = true := by kernel_rfl
theorem fnExactMailRight_c10 : (fun (P : Program) (f : FuncId) (c : OpenClaim) => (c.unfollowed == P.unfollowed f)) Try.prog 7 Rows.fnExactMailRightRow = true := by kernel_rfl
theorem fnExactMailRight_c11 : (fun (P : Program) (f : FuncId) (c : OpenClaim) => (c.recurses == P.recurses f)) Try.prog 7 Rows.fnExactMailRightRow = true := by kernel_rfl
theorem fnExactMailRight_c12 : (fun (P : Program) (f : FuncId) (c : OpenClaim) => (c.named == P.varsNamed f)) Try.prog 7 Rows.fnExactMailRightRow = true := by kernel_rfl
theorem fnExactMailRight_c13 : (fun (P : Program) (fn : Func) (s : ChangeSpec) (c : OpenClaim) => (c.maps == (fn.params.toList ++ s.plain.varTypes P).any (P.mapsRec ·))) Try.prog Try.f7 Rows.fnExactMailRightSpec Rows.fnExactMailRightRow = true := by kernel_rfl
theorem fnExactMailRight_c14 : (fun (P : Program) (fn : Func) (s : ChangeSpec) (c : OpenClaim) => (c.ifaces == (fn.params.toList ++ s.plain.varTypes P).any (P.ifacesRec ·))) Try.prog Try.f7 Rows.fnExactMailRightSpec Rows.fnExactMailRightRow = true := by kernel_rfl
theorem fnExactMailRight_c15 : (fun (P : Program) (fn : Func) (c : OpenClaim) => (c.mapsOut == P.mapsAmong fn.resultTypes.toList)) Try.prog Try.f7 Rows.fnExactMailRightRow = true := by kernel_rfl
theorem fnExactMailRight_c16 : (fun (P : Program) (fn : Func) (s : ChangeSpec) (c : OpenClaim) => (c.loops == (fn.params.toList ++ s.plain.varTypes P).any (P.loopsFrom ·))) Try.prog Try.f7 Rows.fnExactMailRightSpec Rows.fnExactMailRightRow = true := by kernel_rfl
theorem fnExactMailRight_c17 : (fun (P : Program) (fn : Func) (s : ChangeSpec) (c : OpenClaim) => (c.wideKeys == (fn.params.toList ++ s.plain.varTypes P ++ fn.resultTypes.toList).any (P.wideKeysFrom ·))) Try.prog Try.f7 Rows.fnExactMailRightSpec Rows.fnExactMailRightRow = true := by kernel_rfl
theorem fnExactMailRight_c18 : (fun (P : Program) (s : ChangeSpec) => s.vars.all (P.varReadable ·)) Try.prog Rows.fnExactMailRightSpec = true := by kernel_rfl
theorem fnExactMailRight_c19 : (fun (P : Program) (fn : Func) => fn.resultTypes.all (fun t => P.readableRec t && decide (t < P.types.size))) Try.prog Try.f7 = true := by kernel_rfl
theorem fnExactMailRight_c20 : (fun (P : Program) (fn : Func) (c : OpenClaim) => (c.ifacesOut == fn.resultTypes.toList.any (P.ifacesRec ·))) Try.prog Try.f7 Rows.fnExactMailRightRow = true := by kernel_rfl
theorem fnExactMailRight_c21 : (fun (P : Program) (fn : Func) (c : OpenClaim) => (c.loopsOut == fn.resultTypes.toList.any (P.loopsFrom ·))) Try.prog Try.f7 Rows.fnExactMailRightRow = true := by kernel_rfl
theorem fnExactMailRight_c22 : (fun (P : Program) (c : OpenClaim) => (c.plainKeys == P.plainKeys)) Try.prog Rows.fnExactMailRightRow = true := by kernel_rfl
theorem fnExactMailRight_c23 : (fun (c : OpenClaim) => c.shortTexts.isNone) Rows.fnExactMailRightRow = true := by kernel_rfl
theorem fnExactMailRight_c26 : (fun (P : Program) (c : OpenClaim) => (c.lifted == P.liftsFinal)) Try.prog Rows.fnExactMailRightRow = true := by kernel_rfl
theorem fnExactMailRight_c27 : (fun (P : Program) (c : OpenClaim) => (P.make == some c.make)) Try.prog Rows.fnExactMailRightRow = true := by kernel_rfl
theorem fnExactMailRight_c28 : (fun (P : Program) (fn : Func) (c : OpenClaim) => (c.kinds == (if c.domain.isEmpty then [] else fn.params.toList.map fun t => match P.underlying t with | some (.int k) => some k | _ => none))) Try.prog Try.f7 Rows.fnExactMailRightRow = true := by kernel_rfl
theorem fnExactMailRight_c29 : (fun (c : OpenClaim) => (c.pinned == c.pinnedBy)) Rows.fnExactMailRightRow = true := by kernel_rfl
theorem fnExactMailRight_c30 : (fun (P : Program) (fn : Func) (s : ChangeSpec) (c : OpenClaim) => (c.veiled == (fn.params.toList ++ s.plain.varTypes P ++ fn.resultTypes.toList).any (P.veiledRec ·))) Try.prog Try.f7 Rows.fnExactMailRightSpec Rows.fnExactMailRightRow = true := by kernel_rfl
theorem fnExactMailRight_c31 : (fun (P : Program) (fn : Func) (s : ChangeSpec) (c : OpenClaim) => c.veiledFits P fn.params.toList (fn.params.toList ++ s.plain.varTypes P ++ fn.resultTypes.toList)) Try.prog Try.f7 Rows.fnExactMailRightSpec Rows.fnExactMailRightRow = true := by kernel_rfl
set_option maxRecDepth 100000 in
theorem fnExactMailRight_closed : joinedFacts Try.prog 7 Try.f7 Rows.fnExactMailRightSpec Rows.fnExactMailRightRow = true := andT (andT (andT (andT (andT (andT (andT (andT (andT (andT (andT (andT (andT (andT (andT (andT (andT (andT (andT (andT (andT (andT (andT (andT (andT (andT (andT (andT (andT (andT (andT fnExactMailRight_c0 seat1) seat2) fnExactMailRight_c3) fnExactMailRight_c4) fnExactMailRight_c5) seat6) fnExactMailRight_c7) seat8) fnExactMailRight_c9) fnExactMailRight_c10) fnExactMailRight_c11) fnExactMailRight_c12) fnExactMailRight_c13) fnExactMailRight_c14) fnExactMailRight_c15) fnExactMailRight_c16) fnExactMailRight_c17) fnExactMailRight_c18) fnExactMailRight_c19) fnExactMailRight_c20) fnExactMailRight_c21) fnExactMailRight_c22) fnExactMailRight_c23) seat24) seat25) fnExactMailRight_c26) fnExactMailRight_c27) fnExactMailRight_c28) fnExactMailRight_c29) fnExactMailRight_c30) fnExactMailRight_c31
end Go.Proofs.Ytdhcbbbmajjehaa
