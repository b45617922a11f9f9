/- The closed facts of the row of FnExactMailView, part by part. Printed by wip/closed.py. -/
import Derived.Test.YtdhcbbbmajjehaaGreatKS
namespace Go.Proofs.YtdhcbbbmajjehaaGreat
open Go
theorem fnExactMailView_c0 : (fun (s : ChangeSpec) (c : OpenClaim) => c.wf (OpenSpec.ofChange s)) Rows.fnExactMailViewSpec Rows.fnExactMailViewRow = true := by kernel_rfl
theorem fnExactMailView_c3 : (fun (P : Program) (fn : Func) => fn.params.all (P.readableRec ·)) Tryz.prog Tryz.f3 = true := by kernel_rfl
theorem fnExactMailView_c4 : (fun (P : Program) (s : ChangeSpec) (c : OpenClaim) => namedTie P c.named s.vars) Tryz.prog Rows.fnExactMailViewSpec Rows.fnExactMailViewRow = true := by kernel_rfl
theorem fnExactMailView_c5 : (fun (c : OpenClaim) => (c.stops == [])) Rows.fnExactMailViewRow = true := by kernel_rfl
theorem fnExactMailView_c7 : (fun (c : OpenClaim) => (c.knobs == [])) Rows.fnExactMailViewRow = true := by kernel_rfl
theorem fnExactMailView_c9 : (fun (P : Program) (f : FuncId) (c : OpenClaim) => (c.inPlace == P.inPlace f)) Tryz.prog 3 Rows.fnExactMailViewRow = true := by kernel_rfl
theorem fnExactMailView_c10 : (fun (P : Program) (f : FuncId) (c : OpenClaim) => (c.unfollowed == P.unfollowed f)) Tryz.prog 3 Rows.fnExactMailViewRow = true := by kernel_rfl
theorem fnExactMailView_c11 : (fun (P : Program) (f : FuncId) (c : OpenClaim) => (c.recurses == P.recurses f)) Tryz.prog 3 Rows.fnExactMailViewRow = true := by kernel_rfl
theorem fnExactMailView_c12 : (fun (P : Program) (f : FuncId) (c : OpenClaim) => (c.named == P.varsNamed f)) Tryz.prog 3 Rows.fnExactMailViewRow = true := by kernel_rfl
theorem fnExactMailView_c13 : (fun (P : Program) (fn : Func) (s : ChangeSpec) (c : OpenClaim) => (c.maps == (fn.params.toList ++ s.plain.varTypes P).any (P.mapsRec ·))) Tryz.prog Tryz.f3 Rows.fnExactMailViewSpec Rows.fnExactMailViewRow = true := by kernel_rfl
theorem fnExactMailView_c14 : (fun (P : Program) (fn : Func) (s : ChangeSpec) (c : OpenClaim) => (c.ifaces == (fn.params.toList ++ s.plain.varTypes P).any (P.ifacesRec ·))) Tryz.prog Tryz.f3 Rows.fnExactMailViewSpec Rows.fnExactMailViewRow = true := by kernel_rfl
theorem fnExactMailView_c15 : (fun (P : Program) (fn : Func) (c : OpenClaim) => (c.mapsOut == P.mapsAmong fn.resultTypes.toList)) Tryz.prog Tryz.f3 Rows.fnExactMailViewRow = true := by kernel_rfl
theorem fnExactMailView_c16 : (fun (P : Program) (fn : Func) (s : ChangeSpec) (c : OpenClaim) => (c.loops == (fn.params.toList ++ s.plain.varTypes P).any (P.loopsFrom ·))) Tryz.prog Tryz.f3 Rows.fnExactMailViewSpec Rows.fnExactMailViewRow = true := by kernel_rfl
theorem fnExactMailView_c17 : (fun (P : Program) (fn : Func) (s : ChangeSpec) (c : OpenClaim) => (c.wideKeys == (fn.params.toList ++ s.plain.varTypes P ++ fn.resultTypes.toList).any (P.wideKeysFrom ·))) Tryz.prog Tryz.f3 Rows.fnExactMailViewSpec Rows.fnExactMailViewRow = true := by kernel_rfl
theorem fnExactMailView_c18 : (fun (P : Program) (s : ChangeSpec) => s.vars.all (P.varReadable ·)) Tryz.prog Rows.fnExactMailViewSpec = true := by kernel_rfl
theorem fnExactMailView_c19 : (fun (P : Program) (fn : Func) => fn.resultTypes.all (fun t => P.readableRec t && decide (t < P.types.size))) Tryz.prog Tryz.f3 = true := by kernel_rfl
theorem fnExactMailView_c20 : (fun (P : Program) (fn : Func) (c : OpenClaim) => (c.ifacesOut == fn.resultTypes.toList.any (P.ifacesRec ·))) Tryz.prog Tryz.f3 Rows.fnExactMailViewRow = true := by kernel_rfl
theorem fnExactMailView_c21 : (fun (P : Program) (fn : Func) (c : OpenClaim) => (c.loopsOut == fn.resultTypes.toList.any (P.loopsFrom ·))) Tryz.prog Tryz.f3 Rows.fnExactMailViewRow = true := by kernel_rfl
theorem fnExactMailView_c22 : (fun (P : Program) (c : OpenClaim) => (c.plainKeys == P.plainKeys)) Tryz.prog Rows.fnExactMailViewRow = true := by kernel_rfl
theorem fnExactMailView_c23 : (fun (c : OpenClaim) => c.shortTexts.isNone) Rows.fnExactMailViewRow = true := by kernel_rfl
theorem fnExactMailView_c26 : (fun (P : Program) (c : OpenClaim) => (c.lifted == P.liftsFinal)) Tryz.prog Rows.fnExactMailViewRow = true := by kernel_rfl
theorem fnExactMailView_c27 : (fun (P : Program) (c : OpenClaim) => (P.make == some c.make)) Tryz.prog Rows.fnExactMailViewRow = true := by kernel_rfl
theorem fnExactMailView_c28 : (fun (P : Program) (fn : Func) (c : OpenClaim) => (c.kinds == (if c.domain.isEmpty then [] else fn.params.toList.map fun t => match P.underlying t with | some (.int k) => some k | _ => none))) Tryz.prog Tryz.f3 Rows.fnExactMailViewRow = true := by kernel_rfl
theorem fnExactMailView_c29 : (fun (c : OpenClaim) => (c.pinned == c.pinnedBy)) Rows.fnExactMailViewRow = true := by kernel_rfl
theorem fnExactMailView_c30 : (fun (P : Program) (fn : Func) (s : ChangeSpec) (c : OpenClaim) => (c.veiled == (fn.params.toList ++ s.plain.varTypes P ++ fn.resultTypes.toList).any (P.veiledRec ·))) Tryz.prog Tryz.f3 Rows.fnExactMailViewSpec Rows.fnExactMailViewRow = true := by kernel_rfl
theorem fnExactMailView_c31 : (fun (P : Program) (fn : Func) (s : ChangeSpec) (c : OpenClaim) => c.veiledFits P fn.params.toList (fn.params.toList ++ s.plain.varTypes P ++ fn.resultTypes.toList)) Tryz.prog Tryz.f3 Rows.fnExactMailViewSpec Rows.fnExactMailViewRow = true := by kernel_rfl
set_option maxRecDepth 100000 in
theorem fnExactMailView_closed : joinedFacts Tryz.prog 3 Tryz.f3 Rows.fnExactMailViewSpec Rows.fnExactMailViewRow = true := andT (andT (andT (andT (andT (andT (andT (andT (andT (andT (andT (andT (andT (andT (andT (andT (andT (andT (andT (andT (andT (andT (andT (andT (andT (andT (andT (andT (andT (andT (andT fnExactMailView_c0 seat1) seat2) fnExactMailView_c3) fnExactMailView_c4) fnExactMailView_c5) seat6) fnExactMailView_c7) seat8) fnExactMailView_c9) fnExactMailView_c10) fnExactMailView_c11) fnExactMailView_c12) fnExactMailView_c13) fnExactMailView_c14) fnExactMailView_c15) fnExactMailView_c16) fnExactMailView_c17) fnExactMailView_c18) fnExactMailView_c19) fnExactMailView_c20) fnExactMailView_c21) fnExactMailView_c22) fnExactMailView_c23) seat24) seat25) fnExactMailView_c26) fnExactMailView_c27) fnExactMailView_c28) fnExactMailView_c29) fnExactMailView_c30) fnExactMailView_c31
end Go.Proofs.YtdhcbbbmajjehaaGreat
