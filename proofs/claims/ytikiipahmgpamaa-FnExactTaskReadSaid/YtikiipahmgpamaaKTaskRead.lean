/- The closed facts of the row of FnExactTaskRead, part by part. Printed by wip/closed.py. -/
import Derived.Test.YtikiipahmgpamaaKS
namespace Go.Proofs.Ytikiipahmgpamaa
open Go
theorem fnExactTaskRead_c0 : (fun (s : ChangeSpec) (c : OpenClaim) => c.wf (OpenSpec.ofChange s)) Rows.fnExactTaskReadSpec Rows.fnExactTaskReadRow = true := by kernel_rfl
theorem fnExactTaskRead_c3 : (fun (P : Program) (fn : Func) => fn.params.all (P.readableRec ·)) Try.prog Try.f4 = true := by kernel_rfl
theorem fnExactTaskRead_c4 : (fun (P : Program) (s : ChangeSpec) (c : OpenClaim) => namedTie P c.named s.vars) Try.prog Rows.fnExactTaskReadSpec Rows.fnExactTaskReadRow = true := by kernel_rfl
theorem fnExactTaskRead_c5 : (fun (c : OpenClaim) => (c.stops == [])) Rows.fnExactTaskReadRow = true := by kernel_rfl
theorem fnExactTaskRead_c7 : (fun (c : OpenClaim) => (c.knobs == [])) Rows.fnExactTaskReadRow = true := by kernel_rfl
theorem fnExactTaskRead_c9 : (fun (P : Program) (f : FuncId) (c : OpenClaim) => (c.inPlace == P.inPlace f)) Try.prog 4 Rows.fnExactTaskReadRow = true := by kernel_rfl
theorem fnExactTaskRead_c10 : (fun (P : Program) (f : FuncId) (c : OpenClaim) => (c.unfollowed == P.unfollowed f)) Try.prog 4 Rows.fnExactTaskReadRow = true := by kernel_rfl
theorem fnExactTaskRead_c11 : (fun (P : Program) (f : FuncId) (c : OpenClaim) => (c.recurses == P.recurses f)) Try.prog 4 Rows.fnExactTaskReadRow = true := by kernel_rfl
theorem fnExactTaskRead_c12 : (fun (P : Program) (f : FuncId) (c : OpenClaim) => (c.named == P.varsNamed f)) Try.prog 4 Rows.fnExactTaskReadRow = true := by kernel_rfl
theorem fnExactTaskRead_c13 : (fun (P : Program) (fn : Func) (s : ChangeSpec) (c : OpenClaim) => (c.maps == (fn.params.toList ++ s.plain.varTypes P).any (P.mapsRec ·))) Try.prog Try.f4 Rows.fnExactTaskReadSpec Rows.fnExactTaskReadRow = true := by kernel_rfl
theorem fnExactTaskRead_c14 : (fun (P : Program) (fn : Func) (s : ChangeSpec) (c : OpenClaim) => (c.ifaces == (fn.params.toList ++ s.plain.varTypes P).any (P.ifacesRec ·))) Try.prog Try.f4 Rows.fnExactTaskReadSpec Rows.fnExactTaskReadRow = true := by kernel_rfl
theorem fnExactTaskRead_c15 : (fun (P : Program) (fn : Func) (c : OpenClaim) => (c.mapsOut == P.mapsAmong fn.resultTypes.toList)) Try.prog Try.f4 Rows.fnExactTaskReadRow = true := by kernel_rfl
theorem fnExactTaskRead_c16 : (fun (P : Program) (fn : Func) (s : ChangeSpec) (c : OpenClaim) => (c.loops == (fn.params.toList ++ s.plain.varTypes P).any (P.loopsFrom ·))) Try.prog Try.f4 Rows.fnExactTaskReadSpec Rows.fnExactTaskReadRow = true := by kernel_rfl
theorem fnExactTaskRead_c17 : (fun (P : Program) (fn : Func) (s : ChangeSpec) (c : OpenClaim) => (c.wideKeys == (fn.params.toList ++ s.plain.varTypes P ++ fn.resultTypes.toList).any (P.wideKeysFrom ·))) Try.prog Try.f4 Rows.fnExactTaskReadSpec Rows.fnExactTaskReadRow = true := by kernel_rfl
theorem fnExactTaskRead_c18 : (fun (P : Program) (s : ChangeSpec) => s.vars.all (P.varReadable ·)) Try.prog Rows.fnExactTaskReadSpec = true := by kernel_rfl
theorem fnExactTaskRead_c19 : (fun (P : Program) (fn : Func) => fn.resultTypes.all (fun t => P.readableRec t && decide (t < P.types.size))) Try.prog Try.f4 = true := by kernel_rfl
theorem fnExactTaskRead_c20 : (fun (P : Program) (fn : Func) (c : OpenClaim) => (c.ifacesOut == fn.resultTypes.toList.any (P.ifacesRec ·))) Try.prog Try.f4 Rows.fnExactTaskReadRow = true := by kernel_rfl
theorem fnExactTaskRead_c21 : (fun (P : Program) (fn : Func) (c : OpenClaim) => (c.loopsOut == fn.resultTypes.toList.any (P.loopsFrom ·))) Try.prog Try.f4 Rows.fnExactTaskReadRow = true := by kernel_rfl
theorem fnExactTaskRead_c22 : (fun (P : Program) (c : OpenClaim) => (c.plainKeys == P.plainKeys)) Try.prog Rows.fnExactTaskReadRow = true := by kernel_rfl
theorem fnExactTaskRead_c23 : (fun (c : OpenClaim) => c.shortTexts.isNone) Rows.fnExactTaskReadRow = true := by kernel_rfl
theorem fnExactTaskRead_c26 : (fun (P : Program) (c : OpenClaim) => (c.lifted == P.liftsFinal)) Try.prog Rows.fnExactTaskReadRow = true := by kernel_rfl
theorem fnExactTaskRead_c27 : (fun (P : Program) (c : OpenClaim) => (P.make == some c.make)) Try.prog Rows.fnExactTaskReadRow = true := by kernel_rfl
theorem fnExactTaskRead_c28 : (fun (P : Program) (fn : Func) (c : OpenClaim) => (c.kinds == (if c.domain.isEmpty then [] else fn.params.toList.map fun t => match P.underlying t with | some (.int k) => some k | _ => none))) Try.prog Try.f4 Rows.fnExactTaskReadRow = true := by kernel_rfl
theorem fnExactTaskRead_c29 : (fun (c : OpenClaim) => (c.pinned == c.pinnedBy)) Rows.fnExactTaskReadRow = true := by kernel_rfl
theorem fnExactTaskRead_c30 : (fun (P : Program) (fn : Func) (s : ChangeSpec) (c : OpenClaim) => (c.veiled == (fn.params.toList ++ s.plain.varTypes P ++ fn.resultTypes.toList).any (P.veiledRec ·))) Try.prog Try.f4 Rows.fnExactTaskReadSpec Rows.fnExactTaskReadRow = true := by kernel_rfl
theorem fnExactTaskRead_c31 : (fun (P : Program) (fn : Func) (s : ChangeSpec) (c : OpenClaim) => c.veiledFits P fn.params.toList (fn.params.toList ++ s.plain.varTypes P ++ fn.resultTypes.toList)) Try.prog Try.f4 Rows.fnExactTaskReadSpec Rows.fnExactTaskReadRow = true := by kernel_rfl
set_option maxRecDepth 100000 in
theorem fnExactTaskRead_closed : joinedFacts Try.prog 4 Try.f4 Rows.fnExactTaskReadSpec Rows.fnExactTaskReadRow = true := andT (andT (andT (andT (andT (andT (andT (andT (andT (andT (andT (andT (andT (andT (andT (andT (andT (andT (andT (andT (andT (andT (andT (andT (andT (andT (andT (andT (andT (andT (andT fnExactTaskRead_c0 seat1) seat2) fnExactTaskRead_c3) fnExactTaskRead_c4) fnExactTaskRead_c5) seat6) fnExactTaskRead_c7) seat8) fnExactTaskRead_c9) fnExactTaskRead_c10) fnExactTaskRead_c11) fnExactTaskRead_c12) fnExactTaskRead_c13) fnExactTaskRead_c14) fnExactTaskRead_c15) fnExactTaskRead_c16) fnExactTaskRead_c17) fnExactTaskRead_c18) fnExactTaskRead_c19) fnExactTaskRead_c20) fnExactTaskRead_c21) fnExactTaskRead_c22) fnExactTaskRead_c23) seat24) seat25) fnExactTaskRead_c26) fnExactTaskRead_c27) fnExactTaskRead_c28) fnExactTaskRead_c29) fnExactTaskRead_c30) fnExactTaskRead_c31
end Go.Proofs.Ytikiipahmgpamaa
