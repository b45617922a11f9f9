/- The closed facts of the row of FnExactUseAdd, part by part. Printed by wip/closed.py. -/
import Derived.Test.YtikiipahmgpamaaKS
namespace Go.Proofs.Ytikiipahmgpamaa
open Go
theorem fnExactUseAdd_c0 : (fun (s : ChangeSpec) (c : OpenClaim) => c.wf (OpenSpec.ofChange s)) Rows.fnExactUseAddSpec Rows.fnExactUseAddRow = true := by kernel_rfl
theorem fnExactUseAdd_c3 : (fun (P : Program) (fn : Func) => fn.params.all (P.readableRec ·)) Try.prog Try.f5 = true := by kernel_rfl
theorem fnExactUseAdd_c4 : (fun (P : Program) (s : ChangeSpec) (c : OpenClaim) => namedTie P c.named s.vars) Try.prog Rows.fnExactUseAddSpec Rows.fnExactUseAddRow = true := by kernel_rfl
theorem fnExactUseAdd_c5 : (fun (c : OpenClaim) => (c.stops == [])) Rows.fnExactUseAddRow = true := by kernel_rfl
theorem fnExactUseAdd_c7 : (fun (c : OpenClaim) => (c.knobs == [])) Rows.fnExactUseAddRow = true := by kernel_rfl
theorem fnExactUseAdd_c9 : (fun (P : Program) (f : FuncId) (c : OpenClaim) => (c.inPlace == P.inPlace f)) Try.prog 5 Rows.fnExactUseAddRow = true := by kernel_rfl
theorem fnExactUseAdd_c10 : (fun (P : Program) (f : FuncId) (c : OpenClaim) => (c.unfollowed == P.unfollowed f)) Try.prog 5 Rows.fnExactUseAddRow = true := by kernel_rfl
theorem fnExactUseAdd_c11 : (fun (P : Program) (f : FuncId) (c : OpenClaim) => (c.recurses == P.recurses f)) Try.prog 5 Rows.fnExactUseAddRow = true := by kernel_rfl
theorem fnExactUseAdd_c12 : (fun (P : Program) (f : FuncId) (c : OpenClaim) => (c.named == P.varsNamed f)) Try.prog 5 Rows.fnExactUseAddRow = true := by kernel_rfl
theorem fnExactUseAdd_c13 : (fun (P : Program) (fn : Func) (s : ChangeSpec) (c : OpenClaim) => (c.maps == (fn.params.toList ++ s.plain.varTypes P).any (P.mapsRec ·))) Try.prog Try.f5 Rows.fnExactUseAddSpec Rows.fnExactUseAddRow = true := by kernel_rfl
theorem fnExactUseAdd_c14 : (fun (P : Program) (fn : Func) (s : ChangeSpec) (c : OpenClaim) => (c.ifaces == (fn.params.toList ++ s.plain.varTypes P).any (P.ifacesRec ·))) Try.prog Try.f5 Rows.fnExactUseAddSpec Rows.fnExactUseAddRow = true := by kernel_rfl
theorem fnExactUseAdd_c15 : (fun (P : Program) (fn : Func) (c : OpenClaim) => (c.mapsOut == P.mapsAmong fn.resultTypes.toList)) Try.prog Try.f5 Rows.fnExactUseAddRow = true := by kernel_rfl
theorem fnExactUseAdd_c16 : (fun (P : Program) (fn : Func) (s : ChangeSpec) (c : OpenClaim) => (c.loops == (fn.params.toList ++ s.plain.varTypes P).any (P.loopsFrom ·))) Try.prog Try.f5 Rows.fnExactUseAddSpec Rows.fnExactUseAddRow = true := by kernel_rfl
theorem fnExactUseAdd_c17 : (fun (P : Program) (fn : Func) (s : ChangeSpec) (c : OpenClaim) => (c.wideKeys == (fn.params.toList ++ s.plain.varTypes P ++ fn.resultTypes.toList).any (P.wideKeysFrom ·))) Try.prog Try.f5 Rows.fnExactUseAddSpec Rows.fnExactUseAddRow = true := by kernel_rfl
theorem fnExactUseAdd_c18 : (fun (P : Program) (s : ChangeSpec) => s.vars.all (P.varReadable ·)) Try.prog Rows.fnExactUseAddSpec = true := by kernel_rfl
theorem fnExactUseAdd_c19 : (fun (P : Program) (fn : Func) => fn.resultTypes.all (fun t => P.readableRec t && decide (t < P.types.size))) Try.prog Try.f5 = true := by kernel_rfl
theorem fnExactUseAdd_c20 : (fun (P : Program) (fn : Func) (c : OpenClaim) => (c.ifacesOut == fn.resultTypes.toList.any (P.ifacesRec ·))) Try.prog Try.f5 Rows.fnExactUseAddRow = true := by kernel_rfl
theorem fnExactUseAdd_c21 : (fun (P : Program) (fn : Func) (c : OpenClaim) => (c.loopsOut == fn.resultTypes.toList.any (P.loopsFrom ·))) Try.prog Try.f5 Rows.fnExactUseAddRow = true := by kernel_rfl
theorem fnExactUseAdd_c22 : (fun (P : Program) (c : OpenClaim) => (c.plainKeys == P.plainKeys)) Try.prog Rows.fnExactUseAddRow = true := by kernel_rfl
theorem fnExactUseAdd_c23 : (fun (c : OpenClaim) => c.shortTexts.isNone) Rows.fnExactUseAddRow = true := by kernel_rfl
theorem fnExactUseAdd_c26 : (fun (P : Program) (c : OpenClaim) => (c.lifted == P.liftsFinal)) Try.prog Rows.fnExactUseAddRow = true := by kernel_rfl
theorem fnExactUseAdd_c27 : (fun (P : Program) (c : OpenClaim) => (P.make == some c.make)) Try.prog Rows.fnExactUseAddRow = true := by kernel_rfl
theorem fnExactUseAdd_c28 : (fun (P : Program) (fn : Func) (c : OpenClaim) => (c.kinds == (if c.domain.isEmpty then [] else fn.params.toList.map fun t => match P.underlying t with | some (.int k) => some k | _ => none))) Try.prog Try.f5 Rows.fnExactUseAddRow = true := by kernel_rfl
theorem fnExactUseAdd_c29 : (fun (c : OpenClaim) => (c.pinned == c.pinnedBy)) Rows.fnExactUseAddRow = true := by kernel_rfl
theorem fnExactUseAdd_c30 : (fun (P : Program) (fn : Func) (s : ChangeSpec) (c : OpenClaim) => (c.veiled == (fn.params.toList ++ s.plain.varTypes P ++ fn.resultTypes.toList).any (P.veiledRec ·))) Try.prog Try.f5 Rows.fnExactUseAddSpec Rows.fnExactUseAddRow = true := by kernel_rfl
theorem fnExactUseAdd_c31 : (fun (P : Program) (fn : Func) (s : ChangeSpec) (c : OpenClaim) => c.veiledFits P fn.params.toList (fn.params.toList ++ s.plain.varTypes P ++ fn.resultTypes.toList)) Try.prog Try.f5 Rows.fnExactUseAddSpec Rows.fnExactUseAddRow = true := by kernel_rfl
set_option maxRecDepth 100000 in
theorem fnExactUseAdd_closed : joinedFacts Try.prog 5 Try.f5 Rows.fnExactUseAddSpec Rows.fnExactUseAddRow = true := andT (andT (andT (andT (andT (andT (andT (andT (andT (andT (andT (andT (andT (andT (andT (andT (andT (andT (andT (andT (andT (andT (andT (andT (andT (andT (andT (andT (andT (andT (andT fnExactUseAdd_c0 seat1) seat2) fnExactUseAdd_c3) fnExactUseAdd_c4) fnExactUseAdd_c5) seat6) fnExactUseAdd_c7) seat8) fnExactUseAdd_c9) fnExactUseAdd_c10) fnExactUseAdd_c11) fnExactUseAdd_c12) fnExactUseAdd_c13) fnExactUseAdd_c14) fnExactUseAdd_c15) fnExactUseAdd_c16) fnExactUseAdd_c17) fnExactUseAdd_c18) fnExactUseAdd_c19) fnExactUseAdd_c20) fnExactUseAdd_c21) fnExactUseAdd_c22) fnExactUseAdd_c23) seat24) seat25) fnExactUseAdd_c26) fnExactUseAdd_c27) fnExactUseAdd_c28) fnExactUseAdd_c29) fnExactUseAdd_c30) fnExactUseAdd_c31
end Go.Proofs.Ytikiipahmgpamaa
