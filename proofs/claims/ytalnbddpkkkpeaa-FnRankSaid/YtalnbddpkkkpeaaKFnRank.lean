/- The closed facts of the row of FnRank, part by part. Printed by wip/closed.py. -/
import Derived.Test.YtalnbddpkkkpeaaKS
namespace Go.Proofs.Ytalnbddpkkkpeaa
open Go
theorem fnRank_c0 : (fun (s : ChangeSpec) (c : OpenClaim) => c.wf (OpenSpec.ofChange s)) Rows.fnRankSpec Rows.fnRankRow = true := by kernel_rfl
theorem fnRank_c3 : (fun (P : Program) (fn : Func) => fn.params.all (P.readableRec ·)) Try.prog Try.f8 = true := by kernel_rfl
theorem fnRank_c4 : (fun (P : Program) (s : ChangeSpec) (c : OpenClaim) => namedTie P c.named s.vars) Try.prog Rows.fnRankSpec Rows.fnRankRow = true := by kernel_rfl
theorem fnRank_c5 : (fun (c : OpenClaim) => (c.stops == [])) Rows.fnRankRow = true := by kernel_rfl
theorem fnRank_c7 : (fun (c : OpenClaim) => (c.knobs == [])) Rows.fnRankRow = true := by kernel_rfl
theorem fnRank_c9 : (fun (P : Program) (f : FuncId) (c : OpenClaim) => (c.inPlace == P.inPlace f)) Try.prog 8 Rows.fnRankRow = true := by kernel_rfl
theorem fnRank_c10 : (fun (P : Program) (f : FuncId) (c : OpenClaim) => (c.unfollowed == P.unfollowed f)) Try.prog 8 Rows.fnRankRow = true := by kernel_rfl
theorem fnRank_c11 : (fun (P : Program) (f : FuncId) (c : OpenClaim) => (c.recurses == P.recurses f)) Try.prog 8 Rows.fnRankRow = true := by kernel_rfl
theorem fnRank_c12 : (fun (P : Program) (f : FuncId) (c : OpenClaim) => (c.named == P.varsNamed f)) Try.prog 8 Rows.fnRankRow = true := by kernel_rfl
theorem fnRank_c13 : (fun (P : Program) (fn : Func) (s : ChangeSpec) (c : OpenClaim) => (c.maps == (fn.params.toList ++ s.plain.varTypes P).any (P.mapsRec ·))) Try.prog Try.f8 Rows.fnRankSpec Rows.fnRankRow = true := by kernel_rfl
theorem fnRank_c14 : (fun (P : Program) (fn : Func) (s : ChangeSpec) (c : OpenClaim) => (c.ifaces == (fn.params.toList ++ s.plain.varTypes P).any (P.ifacesRec ·))) Try.prog Try.f8 Rows.fnRankSpec Rows.fnRankRow = true := by kernel_rfl
theorem fnRank_c15 : (fun (P : Program) (fn : Func) (c : OpenClaim) => (c.mapsOut == P.mapsAmong fn.resultTypes.toList)) Try.prog Try.f8 Rows.fnRankRow = true := by kernel_rfl
theorem fnRank_c16 : (fun (P : Program) (fn : Func) (s : ChangeSpec) (c : OpenClaim) => (c.loops == (fn.params.toList ++ s.plain.varTypes P).any (P.loopsFrom ·))) Try.prog Try.f8 Rows.fnRankSpec Rows.fnRankRow = true := by kernel_rfl
theorem fnRank_c17 : (fun (P : Program) (fn : Func) (s : ChangeSpec) (c : OpenClaim) => (c.wideKeys == (fn.params.toList ++ s.plain.varTypes P ++ fn.resultTypes.toList).any (P.wideKeysFrom ·))) Try.prog Try.f8 Rows.fnRankSpec Rows.fnRankRow = true := by kernel_rfl
theorem fnRank_c18 : (fun (P : Program) (s : ChangeSpec) => s.vars.all (P.varReadable ·)) Try.prog Rows.fnRankSpec = true := by kernel_rfl
theorem fnRank_c19 : (fun (P : Program) (fn : Func) => fn.resultTypes.all (fun t => P.readableRec t && decide (t < P.types.size))) Try.prog Try.f8 = true := by kernel_rfl
theorem fnRank_c20 : (fun (P : Program) (fn : Func) (c : OpenClaim) => (c.ifacesOut == fn.resultTypes.toList.any (P.ifacesRec ·))) Try.prog Try.f8 Rows.fnRankRow = true := by kernel_rfl
theorem fnRank_c21 : (fun (P : Program) (fn : Func) (c : OpenClaim) => (c.loopsOut == fn.resultTypes.toList.any (P.loopsFrom ·))) Try.prog Try.f8 Rows.fnRankRow = true := by kernel_rfl
theorem fnRank_c22 : (fun (P : Program) (c : OpenClaim) => (c.plainKeys == P.plainKeys)) Try.prog Rows.fnRankRow = true := by kernel_rfl
theorem fnRank_c23 : (fun (c : OpenClaim) => c.shortTexts.isNone) Rows.fnRankRow = true := by kernel_rfl
theorem fnRank_c26 : (fun (P : Program) (c : OpenClaim) => (c.lifted == P.liftsFinal)) Try.prog Rows.fnRankRow = true := by kernel_rfl
theorem fnRank_c27 : (fun (P : Program) (c : OpenClaim) => (P.make == some c.make)) Try.prog Rows.fnRankRow = true := by kernel_rfl
theorem fnRank_c28 : (fun (P : Program) (fn : Func) (c : OpenClaim) => (c.kinds == (if c.domain.isEmpty then [] else fn.params.toList.map fun t => match P.underlying t with | some (.int k) => some k | _ => none))) Try.prog Try.f8 Rows.fnRankRow = true := by kernel_rfl
theorem fnRank_c29 : (fun (c : OpenClaim) => (c.pinned == c.pinnedBy)) Rows.fnRankRow = true := by kernel_rfl
theorem fnRank_c30 : (fun (P : Program) (fn : Func) (s : ChangeSpec) (c : OpenClaim) => (c.veiled == (fn.params.toList ++ s.plain.varTypes P ++ fn.resultTypes.toList).any (P.veiledRec ·))) Try.prog Try.f8 Rows.fnRankSpec Rows.fnRankRow = true := by kernel_rfl
theorem fnRank_c31 : (fun (P : Program) (fn : Func) (s : ChangeSpec) (c : OpenClaim) => c.veiledFits P fn.params.toList (fn.params.toList ++ s.plain.varTypes P ++ fn.resultTypes.toList)) Try.prog Try.f8 Rows.fnRankSpec Rows.fnRankRow = true := by kernel_rfl
set_option maxRecDepth 100000 in
theorem fnRank_closed : joinedFacts Try.prog 8 Try.f8 Rows.fnRankSpec Rows.fnRankRow = true := andT (andT (andT (andT (andT (andT (andT (andT (andT (andT (andT (andT (andT (andT (andT (andT (andT (andT (andT (andT (andT (andT (andT (andT (andT (andT (andT (andT (andT (andT (andT fnRank_c0 seat1) seat2) fnRank_c3) fnRank_c4) fnRank_c5) seat6) fnRank_c7) seat8) fnRank_c9) fnRank_c10) fnRank_c11) fnRank_c12) fnRank_c13) fnRank_c14) fnRank_c15) fnRank_c16) fnRank_c17) fnRank_c18) fnRank_c19) fnRank_c20) fnRank_c21) fnRank_c22) fnRank_c23) seat24) seat25) fnRank_c26) fnRank_c27) fnRank_c28) fnRank_c29) fnRank_c30) fnRank_c31
end Go.Proofs.Ytalnbddpkkkpeaa
