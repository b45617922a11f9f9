/- The closed facts of the row of FnExactBookPut, part by part. Printed by wip/closed.py. -/
import Derived.Test.YtikiipahmgpamaaKS
namespace Go.Proofs.Ytikiipahmgpamaa
open Go
theorem fnExactBookPut_c0 : (fun (s : ChangeSpec) (c : OpenClaim) => c.wf (OpenSpec.ofChange s)) Rows.fnExactBookPutSpec Rows.fnExactBookPutRow = true := by kernel_rfl
theorem fnExactBookPut_c3 : (fun (P : Program) (fn : Func) => fn.params.all (P.readableRec ·)) Try.prog Try.f3 = true := by kernel_rfl
theorem fnExactBookPut_c4 : (fun (P : Program) (s : ChangeSpec) (c : OpenClaim) => namedTie P c.named s.vars) Try.prog Rows.fnExactBookPutSpec Rows.fnExactBookPutRow = true := by kernel_rfl
theorem fnExactBookPut_c5 : (fun (c : OpenClaim) => (c.stops == [])) Rows.fnExactBookPutRow = true := by kernel_rfl
theorem fnExactBookPut_c7 : (fun (c : OpenClaim) => (c.knobs == [])) Rows.fnExactBookPutRow = true := by kernel_rfl
theorem fnExactBookPut_c9 : (fun (P : Program) (f : FuncId) (c : OpenClaim) => (c.inPlace == P.inPlace f)) Try.prog 3 Rows.fnExactBookPutRow = true := by kernel_rfl
theorem fnExactBookPut_c10 : (fun (P : Program) (f : FuncId) (c : OpenClaim) => (c.unfollowed == P.unfollowed f)) Try.prog 3 Rows.fnExactBookPutRow = true := by kernel_rfl
theorem fnExactBookPut_c11 : (fun (P : Program) (f : FuncId) (c : OpenClaim) => (c.recurses == P.recurses f)) Try.prog 3 Rows.fnExactBookPutRow = true := by kernel_rfl
theorem fnExactBookPut_c12 : (fun (P : Program) (f : FuncId) (c : OpenClaim) => (c.named == P.varsNamed f)) Try.prog 3 Rows.fnExactBookPutRow = true := by kernel_rfl
theorem fnExactBookPut_c13 : (fun (P : Program) (fn : Func) (s : ChangeSpec) (c : OpenClaim) => (c.maps == (fn.params.toList ++ s.plain.varTypes P).any (P.mapsRec ·))) Try.prog Try.f3 Rows.fnExactBookPutSpec Rows.fnExactBookPutRow = true := by kernel_rfl
theorem fnExactBookPut_c14 : (fun (P : Program) (fn : Func) (s : ChangeSpec) (c : OpenClaim) => (c.ifaces == (fn.params.toList ++ s.plain.varTypes P).any (P.ifacesRec ·))) Try.prog Try.f3 Rows.fnExactBookPutSpec Rows.fnExactBookPutRow = true := by kernel_rfl
theorem fnExactBookPut_c15 : (fun (P : Program) (fn : Func) (c : OpenClaim) => (c.mapsOut == P.mapsAmong fn.resultTypes.toList)) Try.prog Try.f3 Rows.fnExactBookPutRow = true := by kernel_rfl
theorem fnExactBookPut_c16 : (fun (P : Program) (fn : Func) (s : ChangeSpec) (c : OpenClaim) => (c.loops == (fn.params.toList ++ s.plain.varTypes P).any (P.loopsFrom ·))) Try.prog Try.f3 Rows.fnExactBookPutSpec Rows.fnExactBookPutRow = true := by kernel_rfl
theorem fnExactBookPut_c17 : (fun (P : Program) (fn : Func) (s : ChangeSpec) (c : OpenClaim) => (c.wideKeys == (fn.params.toList ++ s.plain.varTypes P ++ fn.resultTypes.toList).any (P.wideKeysFrom ·))) Try.prog Try.f3 Rows.fnExactBookPutSpec Rows.fnExactBookPutRow = true := by kernel_rfl
theorem fnExactBookPut_c18 : (fun (P : Program) (s : ChangeSpec) => s.vars.all (P.varReadable ·)) Try.prog Rows.fnExactBookPutSpec = true := by kernel_rfl
theorem fnExactBookPut_c19 : (fun (P : Program) (fn : Func) => fn.resultTypes.all (fun t => P.readableRec t && decide (t < P.types.size))) Try.prog Try.f3 = true := by kernel_rfl
theorem fnExactBookPut_c20 : (fun (P : Program) (fn : Func) (c : OpenClaim) => (c.ifacesOut == fn.resultTypes.toList.any (P.ifacesRec ·))) Try.prog Try.f3 Rows.fnExactBookPutRow = true := by kernel_rfl
theorem fnExactBookPut_c21 : (fun (P : Program) (fn : Func) (c : OpenClaim) => (c.loopsOut == fn.resultTypes.toList.any (P.loopsFrom ·))) Try.prog Try.f3 Rows.fnExactBookPutRow = true := by kernel_rfl
theorem fnExactBookPut_c22 : (fun (P : Program) (c : OpenClaim) => (c.plainKeys == P.plainKeys)) Try.prog Rows.fnExactBookPutRow = true := by kernel_rfl
theorem fnExactBookPut_c23 : (fun (c : OpenClaim) => c.shortTexts.isNone) Rows.fnExactBookPutRow = true := by kernel_rfl
theorem fnExactBookPut_c26 : (fun (P : Program) (c : OpenClaim) => (c.lifted == P.liftsFinal)) Try.prog Rows.fnExactBookPutRow = true := by kernel_rfl
theorem fnExactBookPut_c27 : (fun (P : Program) (c : OpenClaim) => (P.make == some c.make)) Try.prog Rows.fnExactBookPutRow = true := by kernel_rfl
theorem fnExactBookPut_c28 : (fun (P : Program) (fn : Func) (c : OpenClaim) => (c.kinds == (if c.domain.isEmpty then [] else fn.params.toList.map fun t => match P.underlying t with | some (.int k) => some k | _ => none))) Try.prog Try.f3 Rows.fnExactBookPutRow = true := by kernel_rfl
theorem fnExactBookPut_c29 : (fun (c : OpenClaim) => (c.pinned == c.pinnedBy)) Rows.fnExactBookPutRow = true := by kernel_rfl
theorem fnExactBookPut_c30 : (fun (P : Program) (fn : Func) (s : ChangeSpec) (c : OpenClaim) => (c.veiled == (fn.params.toList ++ s.plain.varTypes P ++ fn.resultTypes.toList).any (P.veiledRec ·))) Try.prog Try.f3 Rows.fnExactBookPutSpec Rows.fnExactBookPutRow = true := by kernel_rfl
theorem fnExactBookPut_c31 : (fun (P : Program) (fn : Func) (s : ChangeSpec) (c : OpenClaim) => c.veiledFits P fn.params.toList (fn.params.toList ++ s.plain.varTypes P ++ fn.resultTypes.toList)) Try.prog Try.f3 Rows.fnExactBookPutSpec Rows.fnExactBookPutRow = true := by kernel_rfl
set_option maxRecDepth 100000 in
theorem fnExactBookPut_closed : joinedFacts Try.prog 3 Try.f3 Rows.fnExactBookPutSpec Rows.fnExactBookPutRow = true := andT (andT (andT (andT (andT (andT (andT (andT (andT (andT (andT (andT (andT (andT (andT (andT (andT (andT (andT (andT (andT (andT (andT (andT (andT (andT (andT (andT (andT (andT (andT fnExactBookPut_c0 seat1) seat2) fnExactBookPut_c3) fnExactBookPut_c4) fnExactBookPut_c5) seat6) fnExactBookPut_c7) seat8) fnExactBookPut_c9) fnExactBookPut_c10) fnExactBookPut_c11) fnExactBookPut_c12) fnExactBookPut_c13) fnExactBookPut_c14) fnExactBookPut_c15) fnExactBookPut_c16) fnExactBookPut_c17) fnExactBookPut_c18) fnExactBookPut_c19) fnExactBookPut_c20) fnExactBookPut_c21) fnExactBookPut_c22) fnExactBookPut_c23) seat24) seat25) fnExactBookPut_c26) fnExactBookPut_c27) fnExactBookPut_c28) fnExactBookPut_c29) fnExactBookPut_c30) fnExactBookPut_c31
end Go.Proofs.Ytikiipahmgpamaa
