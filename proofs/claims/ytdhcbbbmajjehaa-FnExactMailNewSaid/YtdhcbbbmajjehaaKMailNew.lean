/- The closed facts of the row of FnExactMailNew, part by part. Printed by wip/closed.py. -/
import Derived.Test.YtdhcbbbmajjehaaKS
namespace Go.Proofs.Ytdhcbbbmajjehaa
open Go
theorem fnExactMailNew_c0 : (fun (s : ChangeSpec) (c : OpenClaim) => c.wf (OpenSpec.ofChange s)) Rows.fnExactMailNewSpec Rows.fnExactMailNewRow = true := by kernel_rfl
theorem fnExactMailNew_c3 : (fun (P : Program) (fn : Func) => fn.params.all (P.readableRec ·)) Try.prog Try.f8 = true := by kernel_rfl
theorem fnExactMailNew_c4 : (fun (P : Program) (s : ChangeSpec) (c : OpenClaim) => namedTie P c.named s.vars) Try.prog Rows.fnExactMailNewSpec Rows.fnExactMailNewRow = true := by kernel_rfl
theorem fnExactMailNew_c5 : (fun (c : OpenClaim) => (c.stops == [])) Rows.fnExactMailNewRow = true := by kernel_rfl
theorem fnExactMailNew_c7 : (fun (c : OpenClaim) => (c.knobs == [])) Rows.fnExactMailNewRow = true := by kernel_rfl
theorem fnExactMailNew_c9 : (fun (P : Program) (f : FuncId) (c : OpenClaim) => (c.inPlace == P.inPlace f)) Try.prog 8 Rows.fnExactMailNewRow = true := by kernel_rfl
theorem fnExactMailNew_c10 : (fun (P : Program) (f : FuncId) (c : OpenClaim) => (c.unfollowed == P.unfollowed f)) Try.prog 8 Rows.fnExactMailNewRow = true := by kernel_rfl
theorem fnExactMailNew_c11 : (fun (P : Program) (f : FuncId) (c : OpenClaim) => (c.recurses == P.recurses f)) Try.prog 8 Rows.fnExactMailNewRow = true := by kernel_rfl
theorem fnExactMailNew_c12 : (fun (P : Program) (f : FuncId) (c : OpenClaim) => (c.named == P.varsNamed f)) Try.prog 8 Rows.fnExactMailNewRow = true := by kernel_rfl
theorem fnExactMailNew_c13 : (fun (P : Program) (fn : Func) (s : ChangeSpec) (c : OpenClaim) => (c.maps == (fn.params.toList ++ s.plain.varTypes P).any (P.mapsRec ·))) Try.prog Try.f8 Rows.fnExactMailNewSpec Rows.fnExactMailNewRow = true := by kernel_rfl
theorem fnExactMailNew_c14 : (fun (P : Program) (fn : Func) (s : ChangeSpec) (c : OpenClaim) => (c.ifaces == (fn.params.toList ++ s.plain.varTypes P).any (P.ifacesRec ·))) Try.prog Try.f8 Rows.fnExactMailNewSpec Rows.fnExactMailNewRow = true := by kernel_rfl
theorem fnExactMailNew_c15 : (fun (P : Program) (fn : Func) (c : OpenClaim) => (c.mapsOut == P.mapsAmong fn.resultTypes.toList)) Try.prog Try.f8 Rows.fnExactMailNewRow = true := by kernel_rfl
theorem fnExactMailNew_c16 : (fun (P : Program) (fn : Func) (s : ChangeSpec) (c : OpenClaim) => (c.loops == (fn.params.toList ++ s.plain.varTypes P).any (P.loopsFrom ·))) Try.prog Try.f8 Rows.fnExactMailNewSpec Rows.fnExactMailNewRow = true := by kernel_rfl
theorem fnExactMailNew_c17 : (fun (P : Program) (fn : Func) (s : ChangeSpec) (c : OpenClaim) => (c.wideKeys == (fn.params.toList ++ s.plain.varTypes P ++ fn.resultTypes.toList).any (P.wideKeysFrom ·))) Try.prog Try.f8 Rows.fnExactMailNewSpec Rows.fnExactMailNewRow = true := by kernel_rfl
theorem fnExactMailNew_c18 : (fun (P : Program) (s : ChangeSpec) => s.vars.all (P.varReadable ·)) Try.prog Rows.fnExactMailNewSpec = true := by kernel_rfl
theorem fnExactMailNew_c19 : (fun (P : Program) (fn : Func) => fn.resultTypes.all (fun t => P.readableRec t && decide (t < P.types.size))) Try.prog Try.f8 = true := by kernel_rfl
theorem fnExactMailNew_c20 : (fun (P : Program) (fn : Func) (c : OpenClaim) => (c.ifacesOut == fn.resultTypes.toList.any (P.ifacesRec ·))) Try.prog Try.f8 Rows.fnExactMailNewRow = true := by kernel_rfl
theorem fnExactMailNew_c21 : (fun (P : Program) (fn : Func) (c : OpenClaim) => (c.loopsOut == fn.resultTypes.toList.any (P.loopsFrom ·))) Try.prog Try.f8 Rows.fnExactMailNewRow = true := by kernel_rfl
theorem fnExactMailNew_c22 : (fun (P : Program) (c : OpenClaim) => (c.plainKeys == P.plainKeys)) Try.prog Rows.fnExactMailNewRow = true := by kernel_rfl
theorem fnExactMailNew_c23 : (fun (c : OpenClaim) => c.shortTexts.isNone) Rows.fnExactMailNewRow = true := by kernel_rfl
theorem fnExactMailNew_c26 : (fun (P : Program) (c : OpenClaim) => (c.lifted == P.liftsFinal)) Try.prog Rows.fnExactMailNewRow = true := by kernel_rfl
theorem fnExactMailNew_c27 : (fun (P : Program) (c : OpenClaim) => (P.make == some c.make)) Try.prog Rows.fnExactMailNewRow = true := by kernel_rfl
theorem fnExactMailNew_c28 : (fun (P : Program) (fn : Func) (c : OpenClaim) => (c.kinds == (if c.domain.isEmpty then [] else fn.params.toList.map fun t => match P.underlying t with | some (.int k) => some k | _ => none))) Try.prog Try.f8 Rows.fnExactMailNewRow = true := by kernel_rfl
theorem fnExactMailNew_c29 : (fun (c : OpenClaim) => (c.pinned == c.pinnedBy)) Rows.fnExactMailNewRow = true := by kernel_rfl
theorem fnExactMailNew_c30 : (fun (P : Program) (fn : Func) (s : ChangeSpec) (c : OpenClaim) => (c.veiled == (fn.params.toList ++ s.plain.varTypes P ++ fn.resultTypes.toList).any (P.veiledRec ·))) Try.prog Try.f8 Rows.fnExactMailNewSpec Rows.fnExactMailNewRow = true := by kernel_rfl
theorem fnExactMailNew_c31 : (fun (P : Program) (fn : Func) (s : ChangeSpec) (c : OpenClaim) => c.veiledFits P fn.params.toList (fn.params.toList ++ s.plain.varTypes P ++ fn.resultTypes.toList)) Try.prog Try.f8 Rows.fnExactMailNewSpec Rows.fnExactMailNewRow = true := by kernel_rfl
set_option maxRecDepth 100000 in
theorem fnExactMailNew_closed : joinedFacts Try.prog 8 Try.f8 Rows.fnExactMailNewSpec Rows.fnExactMailNewRow = true := andT (andT (andT (andT (andT (andT (andT (andT (andT (andT (andT (andT (andT (andT (andT (andT (andT (andT (andT (andT (andT (andT (andT (andT (andT (andT (andT (andT (andT (andT (andT fnExactMailNew_c0 seat1) seat2) fnExactMailNew_c3) fnExactMailNew_c4) fnExactMailNew_c5) seat6) fnExactMailNew_c7) seat8) fnExactMailNew_c9) fnExactMailNew_c10) fnExactMailNew_c11) fnExactMailNew_c12) fnExactMailNew_c13) fnExactMailNew_c14) fnExactMailNew_c15) fnExactMailNew_c16) fnExactMailNew_c17) fnExactMailNew_c18) fnExactMailNew_c19) fnExactMailNew_c20) fnExactMailNew_c21) fnExactMailNew_c22) fnExactMailNew_c23) seat24) seat25) fnExactMailNew_c26) fnExactMailNew_c27) fnExactMailNew_c28) fnExactMailNew_c29) fnExactMailNew_c30) fnExactMailNew_c31
end Go.Proofs.Ytdhcbbbmajjehaa
