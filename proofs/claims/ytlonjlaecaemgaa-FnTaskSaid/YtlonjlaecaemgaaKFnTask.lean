/- The closed facts of the row of FnTask, part by part. Printed by wip/closed.py. -/
import Derived.Test.YtlonjlaecaemgaaKS
namespace Go.Proofs.Ytlonjlaecaemgaa
open Go
theorem fnTask_c0:(fun (s:ChangeSpec) (c:OpenClaim)=>c.wf (OpenSpec.ofChange s)) Rows.fnTaskSpec Rows.fnTaskRow=true:=by kernel_rfl
theorem fnTask_c3:(fun (P:Program) (fn:Func)=>fn.params.all (P.readableRec ·)) Try.prog Try.f3=true:=by kernel_rfl
theorem fnTask_c4:(fun (P:Program) (s:ChangeSpec) (c:OpenClaim)=>namedTie P c.named s.vars) Try.prog Rows.fnTaskSpec Rows.fnTaskRow=true:=by kernel_rfl
theorem fnTask_c5:(fun (c:OpenClaim)=>(c.stops == [])) Rows.fnTaskRow=true:=by kernel_rfl
theorem fnTask_c7:(fun (c:OpenClaim)=>(c.knobs == [])) Rows.fnTaskRow=true:=by kernel_rfl
theorem fnTask_c9:(fun (P:Program) (f:FuncId) (c:OpenClaim)=>(c.inPlace == P.inPlace f)) Try.prog 3 Rows.fnTaskRow=true:=by kernel_rfl
theorem fnTask_c10:(fun (P:Program) (f:FuncId) (c:OpenClaim)=>(c.unfollowed == P.unfollowed f)) Try.prog 3 Rows.fnTaskRow=true:=by kernel_rfl
theorem fnTask_c11:(fun (P:Program) (f:FuncId) (c:OpenClaim)=>(c.recurses == P.recurses f)) Try.prog 3 Rows.fnTaskRow=true:=by kernel_rfl
theorem fnTask_c12:(fun (P:Program) (f:FuncId) (c:OpenClaim)=>(c.named == P.varsNamed f)) Try.prog 3 Rows.fnTaskRow=true:=by kernel_rfl
theorem fnTask_c13:(fun (P:Program) (fn:Func) (s:ChangeSpec) (c:OpenClaim)=>(c.maps == (fn.params.toList ++ s.plain.varTypes P).any (P.mapsRec ·))) Try.prog Try.f3 Rows.fnTaskSpec Rows.fnTaskRow=true:=by kernel_rfl
theorem fnTask_c14:(fun (P:Program) (fn:Func) (s:ChangeSpec) (c:OpenClaim)=>(c.ifaces == (fn.params.toList ++ s.plain.varTypes P).any (P.ifacesRec ·))) Try.prog Try.f3 Rows.fnTaskSpec Rows.fnTaskRow=true:=by kernel_rfl
theorem fnTask_c15:(fun (P:Program) (fn:Func) (c:OpenClaim)=>(c.mapsOut == P.mapsAmong fn.resultTypes.toList)) Try.prog Try.f3 Rows.fnTaskRow=true:=by kernel_rfl
theorem fnTask_c16:(fun (P:Program) (fn:Func) (s:ChangeSpec) (c:OpenClaim)=>(c.loops == (fn.params.toList ++ s.plain.varTypes P).any (P.loopsFrom ·))) Try.prog Try.f3 Rows.fnTaskSpec Rows.fnTaskRow=true:=by kernel_rfl
theorem fnTask_c17:(fun (P:Program) (fn:Func) (s:ChangeSpec) (c:OpenClaim)=>(c.wideKeys == (fn.params.toList ++ s.plain.varTypes P ++ fn.resultTypes.toList).any (P.wideKeysFrom ·))) Try.prog Try.f3 Rows.fnTaskSpec Rows.fnTaskRow=true:=by kernel_rfl
theorem fnTask_c18:(fun (P:Program) (s:ChangeSpec)=>s.vars.all (P.varReadable ·)) Try.prog Rows.fnTaskSpec=true:=by kernel_rfl
theorem fnTask_c19:(fun (P:Program) (fn:Func)=>fn.resultTypes.all (fun t=>P.readableRec t && decide (t < P.types.size))) Try.prog Try.f3=true:=by kernel_rfl
theorem fnTask_c20:(fun (P:Program) (fn:Func) (c:OpenClaim)=>(c.ifacesOut == fn.resultTypes.toList.any (P.ifacesRec ·))) Try.prog Try.f3 Rows.fnTaskRow=true:=by kernel_rfl
theorem fnTask_c21:(fun (P:Program) (fn:Func) (c:OpenClaim)=>(c.loopsOut == fn.resultTypes.toList.any (P.loopsFrom ·))) Try.prog Try.f3 Rows.fnTaskRow=true:=by kernel_rfl
theorem fnTask_c22:(fun (P:Program) (c:OpenClaim)=>(c.plainKeys == P.plainKeys)) Try.prog Rows.fnTaskRow=true:=by kernel_rfl
theorem fnTask_c23:(fun (c:OpenClaim)=>c.shortTexts.isNone) Rows.fnTaskRow=true:=by kernel_rfl
theorem fnTask_c26:(fun (P:Program) (c:OpenClaim)=>(c.lifted == P.liftsFinal)) Try.prog Rows.fnTaskRow=true:=by kernel_rfl
theorem fnTask_c27:(fun (P:Program) (c:OpenClaim)=>(P.make == some c.make)) Try.prog Rows.fnTaskRow=true:=by kernel_rfl
theorem fnTask_c28:(fun (P:Program) (fn:Func) (c:OpenClaim)=>(c.kinds == (if c.domain.isEmpty then [] else fn.params.toList.map fun t=>match P.underlying t with | some (.int k)=>some k | _=>none))) Try.prog Try.f3 Rows.fnTaskRow=true:=by kernel_rfl
theorem fnTask_c29:(fun (c:OpenClaim)=>(c.pinned == c.pinnedBy)) Rows.fnTaskRow=true:=by kernel_rfl
theorem fnTask_c30:(fun (P:Program) (fn:Func) (s:ChangeSpec) (c:OpenClaim)=>(c.veiled == (fn.params.toList ++ s.plain.varTypes P ++ fn.resultTypes.toList).any (P.veiledRec ·))) Try.prog Try.f3 Rows.fnTaskSpec Rows.fnTaskRow=true:=by kernel_rfl
theorem fnTask_c31:(fun (P:Program) (fn:Func) (s:ChangeSpec) (c:OpenClaim)=>c.veiledFits P fn.params.toList (fn.params.toList ++ s.plain.varTypes P ++ fn.resultTypes.toList)) Try.prog Try.f3 Rows.fnTaskSpec Rows.fnTaskRow=true:=by kernel_rfl
set_option maxRecDepth 100000 in
theorem fnTask_closed:joinedFacts Try.prog 3 Try.f3 Rows.fnTaskSpec Rows.fnTaskRow=true:=andT (andT (andT (andT (andT (andT (andT (andT (andT (andT (andT (andT (andT (andT (andT (andT (andT (andT (andT (andT (andT (andT (andT (andT (andT (andT (andT (andT (andT (andT (andT fnTask_c0 seat1) seat2) fnTask_c3) fnTask_c4) fnTask_c5) seat6) fnTask_c7) seat8) fnTask_c9) fnTask_c10) fnTask_c11) fnTask_c12) fnTask_c13) fnTask_c14) fnTask_c15) fnTask_c16) fnTask_c17) fnTask_c18) fnTask_c19) fnTask_c20) fnTask_c21) fnTask_c22) fnTask_c23) seat24) seat25) fnTask_c26) fnTask_c27) fnTask_c28) fnTask_c29) fnTask_c30) fnTask_c31
end Go.Proofs.Ytlonjlaecaemgaa
