/- The closed facts that hang on the program alone. Printed by wip/closed.py. -/
import Derived.Test.YtoblacfjmcpbmaaGreatRows
import Derived.ProofKit
namespace Go.Proofs.YtoblacfjmcpbmaaGreat
open Go
theorem andT {a b:Bool} (h:a=true) (k:b=true):(a && b)=true:=by rw [h,k];rfl
theorem seat1:(fun (P:Program)=>laidOutB P) Tryz.prog=true:=by kernel_rfl
theorem seat2:(fun (P:Program)=>mapsRowed P) Tryz.prog=true:=by kernel_rfl
theorem seat6:(fun (P:Program)=>(P.stops == [])) Tryz.prog=true:=by kernel_rfl
theorem seat8:(fun (P:Program)=>(P.stopKnobs == [])) Tryz.prog=true:=by kernel_rfl
theorem seat24:(fun (P:Program)=>P.stopsHeard) Tryz.prog=true:=by kernel_rfl
theorem seat25:(fun (P:Program)=>P.mayEnter) Tryz.prog=true:=by kernel_rfl
end Go.Proofs.YtoblacfjmcpbmaaGreat
