/- The closed facts of the row of FnExactClearFor, part by part. Printed by wip/closed.py. -/
import Derived.Test.YtdhcbbbmajjehaaKS
namespace Go.Proofs.Ytdhcbbbmajjehaa
open Go
theorem fnExactClearFor_c0 : (fun (s : ChangeSpec) (c : OpenClaim) => c.wf (OpenSpec.ofChange s)) Rows.fnExactClearForSpec Rows.fnExactClearForRow = true := by kernel_rfl
theorem fnExactClearFor_c3 : (fun (P : Program) (fn : Func) => fn.params.all (P.readableRec ·)) Try.prog Try.f6 = true := by kernel_rfl
theorem fnExactClearFor_c4 : (fun (P : Program) (s : ChangeSpec) (c : OpenClaim) => namedTie P c.named s.vars) Try.prog Rows.fnExactClearForSpec Rows.fnExactClearForRow = true := by kernel_rfl
theorem fnExactClearFor_c5 : (fun (c : OpenClaim) => (c.stops == [])) Rows.fnExactClearForRow = true := by kernel_rfl
theorem fnExactClearFor_c7 : (fun (c : OpenClaim) => (c.knobs == [])) Rows.fnExactClearForRow = true := by kernel_rfl
theorem fnExactClearFor_c9 : (fun (P : Program) (f : FuncId) (c : OpenClaim) => (c.inPlace == P.inPlace f)) Try.prog 6 Rows.fnExactClearForRow = true := by kernel_rfl
theorem fnExactClearFor_c10 : (fun (P : Program) (f : FuncId) (c : OpenClaim) => (c.unfollowed == P.unfollowed f)) Try.prog 6 Rows.fnExactClearForRow = true := by kernel_rfl
theorem fnExactClearFor_c11 : (fun (P : Program) (f : FuncId) (c : OpenClaim) => (c.recurses == P.recurses f)) Try.prog 6 Rows.fnExactClearForRow = true := by kernel_rfl
theorem fnExactClearFor_c12 : (fun (P : Program) (f : FuncId) (c : OpenClaim) => (c.named == P.varsNamed f)) Try.prog 6 Rows.fnExactClearForRow = true := by kernel_rfl
theorem fnExactClearFor_c13 : (fun (P : Program) (fn : Func) (s : ChangeSpec) (c : OpenClaim) => (c.maps == (fn.params.toList ++ s.plain.varTypes P).any (P.mapsRec ·))) Try.prog Try.f6 Rows.fnExactClearForSpec Rows.fnExactClearForRow = true := by kernel_rfl
theorem fnExactClearFor_c14 : (fun (P : Program) (fn : Func) (s : ChangeSpec) (c : OpenClaim) => (c.ifaces == (fn.params.toList ++ s.plain.varTypes P).any (P.ifacesRec ·))) Try.prog Try.f6 Rows.fnExactClearForSpec Rows.fnExactClearForRow = true := by kernel_rfl
theorem fnExactClearFor_c15 : (fun (P : Program) (fn : Func) (c : OpenClaim) => (c.mapsOut == P.mapsAmong fn.resultTypes.toList)) Try.prog Try.f6 Rows.fnExactClearForRow = true := by kernel_rfl
theorem fnExactClearFor_c16 : (fun (P : Program) (fn : Func) (s : ChangeSpec) (c : OpenClaim) => (c.loops == (fn.params.toList ++ s.plain.varTypes P).any (P.loopsFrom ·))) Try.prog Try.f6 Rows.fnExactClearForSpec Rows.fnExactClearForRow = true := by kernel_rfl
theorem fnExactClearFor_c17 : (fun (P : Program) (fn : Func) (s : ChangeSpec) (c : OpenClaim) => (c.wideKeys == (fn.params.toList ++ s.plain.varTypes P ++ fn.resultTypes.toList).any (P.wideKeysFrom ·))) Try.prog Try.f6 Rows.fnExactClearForSpec Rows.fnExactClearForRow = true := by kernel_rfl
theorem fnExactClearFor_c18 : (fun (P : Program) (s : ChangeSpec) => s.vars.all (P.varReadable ·)) Try.prog Rows.fnExactClearForSpec = true := by kernel_rfl
theorem fnExactClearFor_c19 : (fun (P : Program) (fn : Func) => fn.resultTypes.all (fun t => P.readableRec t && decide (t < P.types.size))) Try.prog Try.f6 = true := by kernel_rfl
theorem fnExactClearFor_c20 : (fun (P : Program) (fn : Func) (c : OpenClaim) => (c.ifacesOut == fn.resultTypes.toList.any (P.ifacesRec ·))) Try.prog Try.f6 Rows.fnExactClearForRow = true := by kernel_rfl
theorem fnExactClearFor_c21 : (fun (P : Program) (fn : Func) (c : OpenClaim) => (c.loopsOut == fn.resultTypes.toList.any (P.loopsFrom ·))) Try.prog Try.f6 Rows.fnExactClearForRow = true := by kernel_rfl
theorem fnExactClearFor_c22 : (fun (P : Program) (c : OpenClaim) => (c.plainKeys == P.plainKeys)) Try.prog Rows.fnExactClearForRow = true := by kernel_rfl
theorem fnExactClearFor_c23 : (fun (c : OpenClaim) => c.shortTexts.isNone) Rows.fnExactClearForRow = true := by kernel_rfl
theorem fnExactClearFor_c26 : (fun (P : Program) (c : OpenClaim) => (c.lifted == P.liftsFinal)) Try.prog Rows.fnExactClearForRow = true := by kernel_rfl
theorem fnExactClearFor_c27 : (fun (P : Program) (c : OpenClaim) => (P.make == some c.make)) Try.prog Rows.fnExactClearForRow = true := by kernel_rfl
theorem fnExactClearFor_c28 : (fun (P : Program) (fn : Func) (c : OpenClaim) => (c.kinds == (if c.domain.isEmpty then [] else fn.params.toList.map fun t => match P.underlying t with | some (.int k) => some k | _ => none))) Try.prog Try.f6 Rows.fnExactClearForRow = true := by kernel_rfl
theorem fnExactClearFor_c29 : (fun (c : OpenClaim) => (c.pinned == c.pinnedBy)) Rows.fnExactClearForRow = true := by kernel_rfl
theorem fnExactClearFor_c30 : (fun (P : Program) (fn : Func) (s : ChangeSpec) (c : OpenClaim) => (c.veiled == (fn.params.toList ++ s.plain.varTypes P ++ fn.resultTypes.toList).any (P.veiledRec ·))) Try.prog Try.f6 Rows.fnExactClearForSpec Rows.fnExactClearForRow = true := by kernel_rfl
theorem fnExactClearFor_c31 : (fun (P : Program) (fn : Func) (s : ChangeSpec) (c : OpenClaim) => c.veiledFits P fn.params.toList (fn.params.toList ++ s.plain.varTypes P ++ fn.resultTypes.toList)) Try.prog Try.f6 Rows.fnExactClearForSpec Rows.fnExactClearForRow = true := by kernel_rfl
set_option maxRecDepth 100000 in
theorem fnExactClearFor_closed : joinedFacts Try.prog 6 Try.f6 Rows.fnExactClearForSpec Rows.fnExactClearForRow = true := andT (andT (andT (andT (andT (andT (andT (andT (andT (andT (andT (andT (andT (andT (andT (andT (andT (andT (andT (andT (andT (andT (andT (andT (andT (andT (andT (andT (andT (andT (andT fnExactClearFor_c0 seat1) seat2) fnExactClearFor_c3) fnExactClearFor_c4) fnExactClearFor_c5) seat6) fnExactClearFor_c7) seat8) fnExactClearFor_c9) fnExactClearFor_c10) fnExactClearFor_c11) fnExactClearFor_c12) fnExactClearFor_c13) fnExactClearFor_c14) fnExactClearFor_c15) fnExactClearFor_c16) fnExactClearFor_c17) fnExactClearFor_c18) fnExactClearFor_c19) fnExactClearFor_c20) fnExactClearFor_c21) fnExactClearFor_c22) fnExactClearFor_c23) seat24) seat25) fnExactClearFor_c26) fnExactClearFor_c27) fnExactClearFor_c28) fnExactClearFor_c29) fnExactClearFor_c30) fnExactClearFor_c31
end Go.Proofs.Ytdhcbbbmajjehaa
