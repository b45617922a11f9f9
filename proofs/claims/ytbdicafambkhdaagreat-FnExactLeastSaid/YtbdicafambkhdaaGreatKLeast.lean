/- The closed facts of the row of FnExactLeast, part by part. Printed by wip/closed.py. -/
import Derived.Test.YtbdicafambkhdaaGreatKS
namespace Go.Proofs.YtbdicafambkhdaaGreat
open Go.Proofs.Tryz
open Go
theorem JD:(fun (s:ChangeSpec) (c:OpenClaim)=>c.wf (OpenSpec.ofChange s)) Rows.fnExactLeastSpec Rows.fnExactLeastRow=true:=by kernel_rfl
theorem JE:(fun (P:Program) (fn:Func)=>fn.params.all (P.readableRec ·)) prog Tryz.f3=true:=by kernel_rfl
theorem JF:(fun (P:Program) (s:ChangeSpec) (c:OpenClaim)=>namedTie P c.named s.vars) prog Rows.fnExactLeastSpec Rows.fnExactLeastRow=true:=by kernel_rfl
theorem JG:(fun (c:OpenClaim)=>(c.stops == [])) Rows.fnExactLeastRow=true:=by kernel_rfl
theorem JH:(fun (c:OpenClaim)=>(c.knobs == [])) Rows.fnExactLeastRow=true:=by kernel_rfl
theorem JI:(fun (P:Program) (f:FuncId) (c:OpenClaim)=>(c.inPlace == P.inPlace f)) prog 3 Rows.fnExactLeastRow=true:=by kernel_rfl
theorem Gw:(fun (P:Program) (f:FuncId) (c:OpenClaim)=>(c.unfollowed == P.unfollowed f)) prog 3 Rows.fnExactLeastRow=true:=by kernel_rfl
theorem Gy:(fun (P:Program) (f:FuncId) (c:OpenClaim)=>(c.recurses == P.recurses f)) prog 3 Rows.fnExactLeastRow=true:=by kernel_rfl
theorem Gz:(fun (P:Program) (f:FuncId) (c:OpenClaim)=>(c.named == P.varsNamed f)) prog 3 Rows.fnExactLeastRow=true:=by kernel_rfl
theorem GL:(fun (P:Program) (fn:Func) (s:ChangeSpec) (c:OpenClaim)=>(c.maps == (fn.params.toList ++ s.plain.varTypes P).any (P.mapsRec ·))) prog Tryz.f3 Rows.fnExactLeastSpec Rows.fnExactLeastRow=true:=by kernel_rfl
theorem GN:(fun (P:Program) (fn:Func) (s:ChangeSpec) (c:OpenClaim)=>(c.ifaces == (fn.params.toList ++ s.plain.varTypes P).any (P.ifacesRec ·))) prog Tryz.f3 Rows.fnExactLeastSpec Rows.fnExactLeastRow=true:=by kernel_rfl
theorem GU:(fun (P:Program) (fn:Func) (c:OpenClaim)=>(c.mapsOut == P.mapsAmong fn.resultTypes.toList)) prog Tryz.f3 Rows.fnExactLeastRow=true:=by kernel_rfl
theorem GV:(fun (P:Program) (fn:Func) (s:ChangeSpec) (c:OpenClaim)=>(c.loops == (fn.params.toList ++ s.plain.varTypes P).any (P.loopsFrom ·))) prog Tryz.f3 Rows.fnExactLeastSpec Rows.fnExactLeastRow=true:=by kernel_rfl
theorem GY:(fun (P:Program) (fn:Func) (s:ChangeSpec) (c:OpenClaim)=>(c.wideKeys == (fn.params.toList ++ s.plain.varTypes P ++ fn.resultTypes.toList).any (P.wideKeysFrom ·))) prog Tryz.f3 Rows.fnExactLeastSpec Rows.fnExactLeastRow=true:=by kernel_rfl
theorem GZ:(fun (P:Program) (s:ChangeSpec)=>s.vars.all (P.varReadable ·)) prog Rows.fnExactLeastSpec=true:=by kernel_rfl
theorem He:(fun (P:Program) (fn:Func)=>fn.resultTypes.all (fun t=>P.readableRec t && decide (t < P.types.size))) prog Tryz.f3=true:=by kernel_rfl
theorem Hf:(fun (P:Program) (fn:Func) (c:OpenClaim)=>(c.ifacesOut == fn.resultTypes.toList.any (P.ifacesRec ·))) prog Tryz.f3 Rows.fnExactLeastRow=true:=by kernel_rfl
theorem Hg:(fun (P:Program) (fn:Func) (c:OpenClaim)=>(c.loopsOut == fn.resultTypes.toList.any (P.loopsFrom ·))) prog Tryz.f3 Rows.fnExactLeastRow=true:=by kernel_rfl
theorem Hl:(fun (P:Program) (c:OpenClaim)=>(c.plainKeys == P.plainKeys)) prog Rows.fnExactLeastRow=true:=by kernel_rfl
theorem Ho:(fun (c:OpenClaim)=>c.shortTexts.isNone) Rows.fnExactLeastRow=true:=by kernel_rfl
theorem Hq:(fun (P:Program) (c:OpenClaim)=>(c.lifted == P.liftsFinal)) prog Rows.fnExactLeastRow=true:=by kernel_rfl
theorem Hr:(fun (P:Program) (c:OpenClaim)=>(P.make == some c.make)) prog Rows.fnExactLeastRow=true:=by kernel_rfl
theorem Ht:(fun (P:Program) (fn:Func) (c:OpenClaim)=>(c.kinds == (if c.domain.isEmpty then [] else fn.params.toList.map fun t=>match P.underlying t with | some (.int k)=>some k | _=>none))) prog Tryz.f3 Rows.fnExactLeastRow=true:=by kernel_rfl
theorem Hu:(fun (c:OpenClaim)=>(c.pinned == c.pinnedBy)) Rows.fnExactLeastRow=true:=by kernel_rfl
theorem Hw:(fun (P:Program) (fn:Func) (s:ChangeSpec) (c:OpenClaim)=>(c.veiled == (fn.params.toList ++ s.plain.varTypes P ++ fn.resultTypes.toList).any (P.veiledRec ·))) prog Tryz.f3 Rows.fnExactLeastSpec Rows.fnExactLeastRow=true:=by kernel_rfl
theorem Hy:(fun (P:Program) (fn:Func) (s:ChangeSpec) (c:OpenClaim)=>c.veiledFits P fn.params.toList (fn.params.toList ++ s.plain.varTypes P ++ fn.resultTypes.toList)) prog Tryz.f3 Rows.fnExactLeastSpec Rows.fnExactLeastRow=true:=by kernel_rfl
set_option maxRecDepth 100000 in
theorem AP:joinedFacts prog 3 Tryz.f3 Rows.fnExactLeastSpec Rows.fnExactLeastRow=true:=iR (iR (iR (iR (iR (iR (iR (iR (iR (iR (iR (iR (iR (iR (iR (iR (iR (iR (iR (iR (iR (iR (iR (iR (iR (iR (iR (iR (iR (iR (iR JD seat1) seat2) JE) JF) JG) af8) JH) af9) JI) Gw) Gy) Gz) GL) GN) GU) GV) GY) GZ) He) Hf) Hg) Hl) Ho) aer) aes) Hq) Hr) Ht) Hu) Hw) Hy
end Go.Proofs.YtbdicafambkhdaaGreat
