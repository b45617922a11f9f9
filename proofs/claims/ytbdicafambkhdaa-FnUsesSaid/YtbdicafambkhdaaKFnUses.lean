/- The closed facts of the row of FnUses, part by part. Printed by wip/closed.py. -/
import Derived.Test.YtbdicafambkhdaaKS
namespace Go.Proofs.Ytbdicafambkhdaa
open Go
theorem fnUses_c0 : (fun (s : ChangeSpec) (c : OpenClaim) => c.wf (OpenSpec.ofChange s)) Rows.fnUsesSpec Rows.fnUsesRow = true := by kernel_rfl
theorem fnUses_c3 : (fun (P : Program) (fn : Func) => fn.params.all (P.readableRec ·)) Try.prog Try.f5 = true := by kernel_rfl
theorem fnUses_c4 : (fun (P : Program) (s : ChangeSpec) (c : OpenClaim) => namedTie P c.named s.vars) Try.prog Rows.fnUsesSpec Rows.fnUsesRow = true := by kernel_rfl
theorem fnUses_c5 : (fun (c : OpenClaim) => (c.stops == [])) Rows.fnUsesRow = true := by kernel_rfl
theorem fnUses_c7 : (fun (c : OpenClaim) => (c.knobs == [])) Rows.fnUsesRow = true := by kernel_rfl
theorem fnUses_c9 : (fun (P : Program) (f : FuncId) (c : OpenClaim) => (c.inPlace == P.inPlace f)) Try.prog 5 Rows.fnUsesRow = true := by kernel_rfl
theorem fnUses_c10 : (fun (P : Program) (f : FuncId) (c : OpenClaim) => (c.unfollowed == P.unfollowed f)) Try.prog 5 Rows.fnUsesRow = true := by kernel_rfl
theorem fnUses_c11 : (fun (P : Program) (f : FuncId) (c : OpenClaim) => (c.recurses == P.recurses f)) Try.prog 5 Rows.fnUsesRow = true := by kernel_rfl
theorem fnUses_c12 : (fun (P : Program) (f : FuncId) (c : OpenClaim) => (c.named == P.varsNamed f)) Try.prog 5 Rows.fnUsesRow = true := by kernel_rfl
theorem fnUses_c13 : (fun (P : Program) (fn : Func) (s : ChangeSpec) (c : OpenClaim) => (c.maps == (fn.params.toList ++ s.plain.varTypes P).any (P.mapsRec ·))) Try.prog Try.f5 Rows.fnUsesSpec Rows.fnUsesRow = true := by kernel_rfl
theorem fnUses_c14 : (fun (P : Program) (fn : Func) (s : ChangeSpec) (c : OpenClaim) => (c.ifaces == (fn.params.toList ++ s.plain.varTypes P).any (P.ifacesRec ·))) Try.prog Try.f5 Rows.fnUsesSpec Rows.fnUsesRow = true := by kernel_rfl
theorem fnUses_c15 : (fun (P : Program) (fn : Func) (c : OpenClaim) => (c.mapsOut == P.mapsAmong fn.resultTypes.toList)) Try.prog Try.f5 Rows.fnUsesRow = true := by kernel_rfl
theorem fnUses_c16 : (fun (P : Program) (fn : Func) (s : ChangeSpec) (c : OpenClaim) => (c.loops == (fn.params.toList ++ s.plain.varTypes P).any (P.loopsFrom ·))) Try.prog Try.f5 Rows.fnUsesSpec Rows.fnUsesRow = true := by kernel_rfl
theorem fnUses_c17 : (fun (P : Program) (fn : Func) (s : ChangeSpec) (c : OpenClaim) => (c.wideKeys == (fn.params.toList ++ s.plain.varTypes P ++ fn.resultTypes.toList).any (P.wideKeysFrom ·))) Try.prog Try.f5 Rows.fnUsesSpec Rows.fnUsesRow = true := by kernel_rfl
theorem fnUses_c18 : (fun (P : Program) (s : ChangeSpec) => s.vars.all (P.varReadable ·)) Try.prog Rows.fnUsesSpec = true := by kernel_rfl
theorem fnUses_c19 : (fun (P : Program) (fn : Func) => fn.resultTypes.all (fun t => P.readableRec t && decide (t < P.types.size))) Try.prog Try.f5 = true := by kernel_rfl
theorem fnUses_c20 : (fun (P : Program) (fn : Func) (c : OpenClaim) => (c.ifacesOut == fn.resultTypes.toList.any (P.ifacesRec ·))) Try.prog Try.f5 Rows.fnUsesRow = true := by kernel_rfl
theorem fnUses_c21 : (fun (P : Program) (fn : Func) (c : OpenClaim) => (c.loopsOut == fn.resultTypes.toList.any (P.loopsFrom ·))) Try.prog Try.f5 Rows.fnUsesRow = true := by kernel_rfl
theorem fnUses_c22 : (fun (P : Program) (c : OpenClaim) => (c.plainKeys == P.plainKeys)) Try.prog Rows.fnUsesRow = true := by kernel_rfl
theorem fnUses_c23 : (fun (c : OpenClaim) => c.shortTexts.isNone) Rows.fnUsesRow = true := by kernel_rfl
theorem fnUses_c26 : (fun (P : Program) (c : OpenClaim) => (c.lifted == P.liftsFinal)) Try.prog Rows.fnUsesRow = true := by kernel_rfl
theorem fnUses_c27 : (fun (P : Program) (c : OpenClaim) => (P.make == some c.make)) Try.prog Rows.fnUsesRow = true := by kernel_rfl
theorem fnUses_c28 : (fun (P : Program) (fn : Func) (c : OpenClaim) => (c.kinds == (if c.domain.isEmpty then [] else fn.params.toList.map fun t => match P.underlying t with | some (.int k) => some k | _ => none))) Try.prog Try.f5 Rows.fnUsesRow = true := by kernel_rfl
theorem fnUses_c29 : (fun (c : OpenClaim) => (c.pinned == c.pinnedBy)) Rows.fnUsesRow = true := by kernel_rfl
theorem fnUses_c30 : (fun (P : Program) (fn : Func) (s : ChangeSpec) (c : OpenClaim) => (c.veiled == (fn.params.toList ++ s.plain.varTypes P ++ fn.resultTypes.toList).any (P.veiledRec ·))) Try.prog Try.f5 Rows.fnUsesSpec Rows.fnUsesRow = true := by kernel_rfl
theorem fnUses_c31 : (fun (P : Program) (fn : Func) (s : ChangeSpec) (c : OpenClaim) => c.veiledFits P fn.params.toList (fn.params.toList ++ s.plain.varTypes P ++ fn.resultTypes.toList)) Try.prog Try.f5 Rows.fnUsesSpec Rows.fnUsesRow = true := by kernel_rfl
set_option maxRecDepth 100000 in
theorem fnUses_closed : joinedFacts Try.prog 5 Try.f5 Rows.fnUsesSpec Rows.fnUsesRow = true := andT (andT (andT (andT (andT (andT (andT (andT (andT (andT (andT (andT (andT (andT (andT (andT (andT (andT (andT (andT (andT (andT (andT (andT (andT (andT (andT (andT (andT (andT (andT fnUses_c0 seat1) seat2) fnUses_c3) fnUses_c4) fnUses_c5) seat6) fnUses_c7) seat8) fnUses_c9) fnUses_c10) fnUses_c11) fnUses_c12) fnUses_c13) fnUses_c14) fnUses_c15) fnUses_c16) fnUses_c17) fnUses_c18) fnUses_c19) fnUses_c20) fnUses_c21) fnUses_c22) fnUses_c23) seat24) seat25) fnUses_c26) fnUses_c27) fnUses_c28) fnUses_c29) fnUses_c30) fnUses_c31
end Go.Proofs.Ytbdicafambkhdaa
