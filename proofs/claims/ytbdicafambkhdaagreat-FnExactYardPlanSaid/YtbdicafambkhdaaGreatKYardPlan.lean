/- The closed facts of the row of FnExactYardPlan, part by part. Printed by wip/closed.py. -/
import Derived.Test.YtbdicafambkhdaaGreatKS
namespace Go.Proofs.YtbdicafambkhdaaGreat
open Go.Proofs.Tryz
open Go
theorem Dc:(fun (s:ChangeSpec) (c:OpenClaim)=>c.wf (OpenSpec.ofChange s)) Rows.fnExactYardPlanSpec Rows.fnExactYardPlanRow=true:=by kernel_rfl
theorem Df:(fun (P:Program) (fn:Func)=>fn.params.all (P.readableRec ·)) prog Tryz.f4=true:=by kernel_rfl
theorem Dh:(fun (P:Program) (s:ChangeSpec) (c:OpenClaim)=>namedTie P c.named s.vars) prog Rows.fnExactYardPlanSpec Rows.fnExactYardPlanRow=true:=by kernel_rfl
theorem Di:(fun (c:OpenClaim)=>(c.stops == [])) Rows.fnExactYardPlanRow=true:=by kernel_rfl
theorem Dj:(fun (c:OpenClaim)=>(c.knobs == [])) Rows.fnExactYardPlanRow=true:=by kernel_rfl
theorem Dk:(fun (P:Program) (f:FuncId) (c:OpenClaim)=>(c.inPlace == P.inPlace f)) prog 4 Rows.fnExactYardPlanRow=true:=by kernel_rfl
theorem AV:(fun (P:Program) (f:FuncId) (c:OpenClaim)=>(c.unfollowed == P.unfollowed f)) prog 4 Rows.fnExactYardPlanRow=true:=by kernel_rfl
theorem AY:(fun (P:Program) (f:FuncId) (c:OpenClaim)=>(c.recurses == P.recurses f)) prog 4 Rows.fnExactYardPlanRow=true:=by kernel_rfl
theorem AZ:(fun (P:Program) (f:FuncId) (c:OpenClaim)=>(c.named == P.varsNamed f)) prog 4 Rows.fnExactYardPlanRow=true:=by kernel_rfl
theorem Ba:(fun (P:Program) (fn:Func) (s:ChangeSpec) (c:OpenClaim)=>(c.maps == (fn.params.toList ++ s.plain.varTypes P).any (P.mapsRec ·))) prog Tryz.f4 Rows.fnExactYardPlanSpec Rows.fnExactYardPlanRow=true:=by kernel_rfl
theorem Bc:(fun (P:Program) (fn:Func) (s:ChangeSpec) (c:OpenClaim)=>(c.ifaces == (fn.params.toList ++ s.plain.varTypes P).any (P.ifacesRec ·))) prog Tryz.f4 Rows.fnExactYardPlanSpec Rows.fnExactYardPlanRow=true:=by kernel_rfl
theorem Bd:(fun (P:Program) (fn:Func) (c:OpenClaim)=>(c.mapsOut == P.mapsAmong fn.resultTypes.toList)) prog Tryz.f4 Rows.fnExactYardPlanRow=true:=by kernel_rfl
theorem Bf:(fun (P:Program) (fn:Func) (s:ChangeSpec) (c:OpenClaim)=>(c.loops == (fn.params.toList ++ s.plain.varTypes P).any (P.loopsFrom ·))) prog Tryz.f4 Rows.fnExactYardPlanSpec Rows.fnExactYardPlanRow=true:=by kernel_rfl
theorem Bj:(fun (P:Program) (fn:Func) (s:ChangeSpec) (c:OpenClaim)=>(c.wideKeys == (fn.params.toList ++ s.plain.varTypes P ++ fn.resultTypes.toList).any (P.wideKeysFrom ·))) prog Tryz.f4 Rows.fnExactYardPlanSpec Rows.fnExactYardPlanRow=true:=by kernel_rfl
theorem Bo:(fun (P:Program) (s:ChangeSpec)=>s.vars.all (P.varReadable ·)) prog Rows.fnExactYardPlanSpec=true:=by kernel_rfl
theorem Bq:(fun (P:Program) (fn:Func)=>fn.resultTypes.all (fun t=>P.readableRec t && decide (t < P.types.size))) prog Tryz.f4=true:=by kernel_rfl
theorem Bv:(fun (P:Program) (fn:Func) (c:OpenClaim)=>(c.ifacesOut == fn.resultTypes.toList.any (P.ifacesRec ·))) prog Tryz.f4 Rows.fnExactYardPlanRow=true:=by kernel_rfl
theorem Bz:(fun (P:Program) (fn:Func) (c:OpenClaim)=>(c.loopsOut == fn.resultTypes.toList.any (P.loopsFrom ·))) prog Tryz.f4 Rows.fnExactYardPlanRow=true:=by kernel_rfl
theorem BA:(fun (P:Program) (c:OpenClaim)=>(c.plainKeys == P.plainKeys)) prog Rows.fnExactYardPlanRow=true:=by kernel_rfl
theorem BD:(fun (c:OpenClaim)=>c.shortTexts.isNone) Rows.fnExactYardPlanRow=true:=by kernel_rfl
theorem BF:(fun (P:Program) (c:OpenClaim)=>(c.lifted == P.liftsFinal)) prog Rows.fnExactYardPlanRow=true:=by kernel_rfl
theorem BG:(fun (P:Program) (c:OpenClaim)=>(P.make == some c.make)) prog Rows.fnExactYardPlanRow=true:=by kernel_rfl
theorem BI:(fun (P:Program) (fn:Func) (c:OpenClaim)=>(c.kinds == (if c.domain.isEmpty then [] else fn.params.toList.map fun t=>match P.underlying t with | some (.int k)=>some k | _=>none))) prog Tryz.f4 Rows.fnExactYardPlanRow=true:=by kernel_rfl
theorem BJ:(fun (c:OpenClaim)=>(c.pinned == c.pinnedBy)) Rows.fnExactYardPlanRow=true:=by kernel_rfl
theorem BK:(fun (P:Program) (fn:Func) (s:ChangeSpec) (c:OpenClaim)=>(c.veiled == (fn.params.toList ++ s.plain.varTypes P ++ fn.resultTypes.toList).any (P.veiledRec ·))) prog Tryz.f4 Rows.fnExactYardPlanSpec Rows.fnExactYardPlanRow=true:=by kernel_rfl
theorem BL:(fun (P:Program) (fn:Func) (s:ChangeSpec) (c:OpenClaim)=>c.veiledFits P fn.params.toList (fn.params.toList ++ s.plain.varTypes P ++ fn.resultTypes.toList)) prog Tryz.f4 Rows.fnExactYardPlanSpec Rows.fnExactYardPlanRow=true:=by kernel_rfl
set_option maxRecDepth 100000 in
theorem wX:joinedFacts prog 4 Tryz.f4 Rows.fnExactYardPlanSpec Rows.fnExactYardPlanRow=true:=iR (iR (iR (iR (iR (iR (iR (iR (iR (iR (iR (iR (iR (iR (iR (iR (iR (iR (iR (iR (iR (iR (iR (iR (iR (iR (iR (iR (iR (iR (iR Dc seat1) seat2) Df) Dh) Di) af8) Dj) af9) Dk) AV) AY) AZ) Ba) Bc) Bd) Bf) Bj) Bo) Bq) Bv) Bz) BA) BD) aer) aes) BF) BG) BI) BJ) BK) BL
end Go.Proofs.YtbdicafambkhdaaGreat
