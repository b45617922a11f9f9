/- The closed facts of the row of FnShare, part by part. Printed by wip/closed.py. -/
import Derived.Test.YtoblacfjmcpbmaaGreatKS
namespace Go.Proofs.YtoblacfjmcpbmaaGreat
open Go
theorem fnShare_c0:(fun (s:ChangeSpec) (c:OpenClaim)=>c.wf (OpenSpec.ofChange s)) Rows.fnShareSpec Rows.fnShareRow=true:=by kernel_rfl
theorem fnShare_c3:(fun (P:Program) (fn:Func)=>fn.params.all (P.readableRec ·)) Tryz.prog Tryz.f3=true:=by kernel_rfl
theorem fnShare_c4:(fun (P:Program) (s:ChangeSpec) (c:OpenClaim)=>namedTie P c.named s.vars) Tryz.prog Rows.fnShareSpec Rows.fnShareRow=true:=by kernel_rfl
theorem fnShare_c5:(fun (c:OpenClaim)=>(c.stops == [])) Rows.fnShareRow=true:=by kernel_rfl
theorem fnShare_c7:(fun (c:OpenClaim)=>(c.knobs == [])) Rows.fnShareRow=true:=by kernel_rfl
theorem fnShare_c9:(fun (P:Program) (f:FuncId) (c:OpenClaim)=>(c.inPlace == P.inPlace f)) Tryz.prog 3 Rows.fnShareRow=true:=by kernel_rfl
theorem fnShare_c10:(fun (P:Program) (f:FuncId) (c:OpenClaim)=>(c.unfollowed == P.unfollowed f)) Tryz.prog 3 Rows.fnShareRow=true:=by kernel_rfl
theorem fnShare_c11:(fun (P:Program) (f:FuncId) (c:OpenClaim)=>(c.recurses == P.recurses f)) Tryz.prog 3 Rows.fnShareRow=true:=by kernel_rfl
theorem fnShare_c12:(fun (P:Program) (f:FuncId) (c:OpenClaim)=>(c.named == P.varsNamed f)) Tryz.prog 3 Rows.fnShareRow=true:=by kernel_rfl
theorem fnShare_c13:(fun (P:Program) (fn:Func) (s:ChangeSpec) (c:OpenClaim)=>(c.maps == (fn.params.toList ++ s.plain.varTypes P).any (P.mapsRec ·))) Tryz.prog Tryz.f3 Rows.fnShareSpec Rows.fnShareRow=true:=by kernel_rfl
theorem fnShare_c14:(fun (P:Program) (fn:Func) (s:ChangeSpec) (c:OpenClaim)=>(c.ifaces == (fn.params.toList ++ s.plain.varTypes P).any (P.ifacesRec ·))) Tryz.prog Tryz.f3 Rows.fnShareSpec Rows.fnShareRow=true:=by kernel_rfl
theorem fnShare_c15:(fun (P:Program) (fn:Func) (c:OpenClaim)=>(c.mapsOut == P.mapsAmong fn.resultTypes.toList)) Tryz.prog Tryz.f3 Rows.fnShareRow=true:=by kernel_rfl
theorem fnShare_c16:(fun (P:Program) (fn:Func) (s:ChangeSpec) (c:OpenClaim)=>(c.loops == (fn.params.toList ++ s.plain.varTypes P).any (P.loopsFrom ·))) Tryz.prog Tryz.f3 Rows.fnShareSpec Rows.fnShareRow=true:=by kernel_rfl
theorem fnShare_c17:(fun (P:Program) (fn:Func) (s:ChangeSpec) (c:OpenClaim)=>(c.wideKeys == (fn.params.toList ++ s.plain.varTypes P ++ fn.resultTypes.toList).any (P.wideKeysFrom ·))) Tryz.prog Tryz.f3 Rows.fnShareSpec Rows.fnShareRow=true:=by kernel_rfl
theorem fnShare_c18:(fun (P:Program) (s:ChangeSpec)=>s.vars.all (P.varReadable ·)) Tryz.prog Rows.fnShareSpec=true:=by kernel_rfl
theorem fnShare_c19:(fun (P:Program) (fn:Func)=>fn.resultTypes.all (fun t=>P.readableRec t && decide (t < P.types.size))) Tryz.prog Tryz.f3=true:=by kernel_rfl
theorem fnShare_c20:(fun (P:Program) (fn:Func) (c:OpenClaim)=>(c.ifacesOut == fn.resultTypes.toList.any (P.ifacesRec ·))) Tryz.prog Tryz.f3 Rows.fnShareRow=true:=by kernel_rfl
theorem fnShare_c21:(fun (P:Program) (fn:Func) (c:OpenClaim)=>(c.loopsOut == fn.resultTypes.toList.any (P.loopsFrom ·))) Tryz.prog Tryz.f3 Rows.fnShareRow=true:=by kernel_rfl
theorem fnShare_c22:(fun (P:Program) (c:OpenClaim)=>(c.plainKeys == P.plainKeys)) Tryz.prog Rows.fnShareRow=true:=by kernel_rfl
theorem fnShare_c23:(fun (c:OpenClaim)=>c.shortTexts.isNone) Rows.fnShareRow=true:=by kernel_rfl
theorem fnShare_c26:(fun (P:Program) (c:OpenClaim)=>(c.lifted == P.liftsFinal)) Tryz.prog Rows.fnShareRow=true:=by kernel_rfl
theorem fnShare_c27:(fun (P:Program) (c:OpenClaim)=>(P.make == some c.make)) Tryz.prog Rows.fnShareRow=true:=by kernel_rfl
theorem fnShare_c28:(fun (P:Program) (fn:Func) (c:OpenClaim)=>(c.kinds == (if c.domain.isEmpty then [] else fn.params.toList.map fun t=>match P.underlying t with | some (.int k)=>some k | _=>none))) Tryz.prog Tryz.f3 Rows.fnShareRow=true:=by kernel_rfl
theorem fnShare_c29:(fun (c:OpenClaim)=>(c.pinned == c.pinnedBy)) Rows.fnShareRow=true:=by kernel_rfl
theorem fnShare_c30:(fun (P:Program) (fn:Func) (s:ChangeSpec) (c:OpenClaim)=>(c.veiled == (fn.params.toList ++ s.plain.varTypes P ++ fn.resultTypes.toList).any (P.veiledRec ·))) Tryz.prog Tryz.f3 Rows.fnShareSpec Rows.fnShareRow=true:=by kernel_rfl
theorem fnShare_c31:(fun (P:Program) (fn:Func) (s:ChangeSpec) (c:OpenClaim)=>c.veiledFits P fn.params.toList (fn.params.toList ++ s.plain.varTypes P ++ fn.resultTypes.toList)) Tryz.prog Tryz.f3 Rows.fnShareSpec Rows.fnShareRow=true:=by kernel_rfl
set_option maxRecDepth 100000 in
theorem fnShare_closed:joinedFacts Tryz.prog 3 Tryz.f3 Rows.fnShareSpec Rows.fnShareRow=true:=andT (andT (andT (andT (andT (andT (andT (andT (andT (andT (andT (andT (andT (andT (andT (andT (andT (andT (andT (andT (andT (andT (andT (andT (andT (andT (andT (andT (andT (andT (andT fnShare_c0 seat1) seat2) fnShare_c3) fnShare_c4) fnShare_c5) seat6) fnShare_c7) seat8) fnShare_c9) fnShare_c10) fnShare_c11) fnShare_c12) fnShare_c13) fnShare_c14) fnShare_c15) fnShare_c16) fnShare_c17) fnShare_c18) fnShare_c19) fnShare_c20) fnShare_c21) fnShare_c22) fnShare_c23) seat24) seat25) fnShare_c26) fnShare_c27) fnShare_c28) fnShare_c29) fnShare_c30) fnShare_c31
end Go.Proofs.YtoblacfjmcpbmaaGreat
