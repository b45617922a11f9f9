/- The closed facts that hang on the program alone. Printed by wip/closed.py. -/
import Derived.Test.YtbdicafambkhdaaGreatRows
import Derived.ProofKit
namespace Go.Proofs.YtbdicafambkhdaaGreat
open Go.Proofs.Tryz
open Go
theorem iR {a b:Bool} (h:a=true) (k:b=true):(a && b)=true:=by rw [h,k];rfl
theorem seat1:(fun (P:Program)=>laidOutB P) prog=true:=by kernel_rfl
theorem seat2:(fun (P:Program)=>mapsRowed P) prog=true:=by kernel_rfl
theorem af8:(fun (P:Program)=>(P.stops == [])) prog=true:=by kernel_rfl
theorem af9:(fun (P:Program)=>(P.stopKnobs == [])) prog=true:=by kernel_rfl
theorem aer:(fun (P:Program)=>P.stopsHeard) prog=true:=by kernel_rfl
theorem aes:(fun (P:Program)=>P.mayEnter) prog=true:=by kernel_rfl
end Go.Proofs.YtbdicafambkhdaaGreat
