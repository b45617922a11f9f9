/-
  No cell of these rows narrows 'for every input' (looked for: loops, veiled, ifaces, maps, wideKeys, modest, calm, conditions, laid).
  DERIVED. THE GIVEN ROWS OF THIS SEAT. 4 by the template 'for every input the law returns true; each argument reads behind the call as it read before'; 0 by the template 'total and deterministic' (their statements: YtbdicafambkhdaaGreatTotals.lean).
  GIVEN WITH THE SEED: the statements are not yours to turn. If you find one false, say at which input.
  Laid BY PROGRAM, IN A SANDBOX (cutbox-rows.mjs): the forced cells as the released guide's own fill.sh prints them over the translation bb6ca31ab8ca579a… (all of the seat's roots in one cut). By AI agents, Wed Nov 11 2026. No macro, syntax, notation, axiom, sorry.
-/
import Derived.Test.YtbdicafambkhdaaGreatChecked
import GoSem.Claim
import GoSem.ClaimJoined
import GoSem.ClaimMapViews
import Derived.JoinedTies
import Derived.KernelRfl
namespace Go.Proofs.YtbdicafambkhdaaGreat
/- THE CELL 'sum', in the pinned program and in every row, IS THE sha256 OF THE DUMP (.gsa) THAT YtbdicafambkhdaaGreatProg.lean LOADS. Nothing in Lean hashes anything: it is a label: what it is worth is what the hold of that sum in a sandbox is worth. -/
noncomputable def Tryz.pinned : Pinned := { name := "ytbdicafambkhdaagreat", sum := "bb6ca31ab8ca579af733bd3990719539838f19099cfa3e23c3ab63e91ac7f1bf", checked := Tryz.checked }
namespace Rows
def none {H : Type} : Left H := { results := [], args := [] }

/-- 'laws.FnExactLeast': WHATEVER THE INPUT: true; the input reads as it did. -/
def fnExactLeastSpec : ChangeSpec := { name := "fnExactLeast", fn := fun _ => fun
  | [d1, d2, d3, d4] => { results := [.lit (.bool true)], args := [d1, d2, d3, d4] }
  | _ => none }
def fnExactLeastRow : OpenClaim := { program := "ytbdicafambkhdaagreat", sum := "bb6ca31ab8ca579af733bd3990719539838f19099cfa3e23c3ab63e91ac7f1bf", func := "loop.example/g00658/laws.FnExactLeast", spec := "fnExactLeast", inPlace := ["internal/bytealg.abigen_runtime_cmpstring"], unfollowed := true, recurses := true, apart := false }
def FnExactLeastSaid : Prop := fnExactLeastRow.holds Tryz.pinned (OpenSpec.ofChange fnExactLeastSpec)

/-- ITS FALSE NEIGHBOUR: 'it returns false'. Refute it at one input. -/
def fnExactLeastWrong : ChangeSpec := { name := "fnExactLeast", fn := fun _ => fun
  | [d1, d2, d3, d4] => { results := [.lit (.bool false)], args := [d1, d2, d3, d4] }
  | _ => none }
def FnExactLeastWrongFalsely : Prop := fnExactLeastRow.holds Tryz.pinned (OpenSpec.ofChange fnExactLeastWrong)

/-- 'laws.FnExactYardPlan': WHATEVER THE INPUT: true; the input reads as it did. -/
def fnExactYardPlanSpec : ChangeSpec := { name := "fnExactYardPlan", fn := fun _ => fun
  | [d] => { results := [.lit (.bool true)], args := [d] }
  | _ => none }
def fnExactYardPlanRow : OpenClaim := { program := "ytbdicafambkhdaagreat", sum := "bb6ca31ab8ca579af733bd3990719539838f19099cfa3e23c3ab63e91ac7f1bf", func := "loop.example/g00658/laws.FnExactYardPlan", spec := "fnExactYardPlan", inPlace := ["internal/bytealg.abigen_runtime_cmpstring"], unfollowed := true, recurses := true, apart := false }
def FnExactYardPlanSaid : Prop := fnExactYardPlanRow.holds Tryz.pinned (OpenSpec.ofChange fnExactYardPlanSpec)

/-- ITS FALSE NEIGHBOUR: 'it returns false'. Refute it at one input. -/
def fnExactYardPlanWrong : ChangeSpec := { name := "fnExactYardPlan", fn := fun _ => fun
  | [d] => { results := [.lit (.bool false)], args := [d] }
  | _ => none }
def FnExactYardPlanWrongFalsely : Prop := fnExactYardPlanRow.holds Tryz.pinned (OpenSpec.ofChange fnExactYardPlanWrong)

/-- 'laws.FnExactYardTick': WHATEVER THE INPUT: true; the input reads as it did. -/
def fnExactYardTickSpec : ChangeSpec := { name := "fnExactYardTick", fn := fun _ => fun
  | [d] => { results := [.lit (.bool true)], args := [d] }
  | _ => none }
def fnExactYardTickRow : OpenClaim := { program := "ytbdicafambkhdaagreat", sum := "bb6ca31ab8ca579af733bd3990719539838f19099cfa3e23c3ab63e91ac7f1bf", func := "loop.example/g00658/laws.FnExactYardTick", spec := "fnExactYardTick", inPlace := ["internal/bytealg.abigen_runtime_cmpstring"], unfollowed := true, recurses := true, apart := false }
def FnExactYardTickSaid : Prop := fnExactYardTickRow.holds Tryz.pinned (OpenSpec.ofChange fnExactYardTickSpec)

/-- ITS FALSE NEIGHBOUR: 'it returns false'. Refute it at one input. -/
def fnExactYardTickWrong : ChangeSpec := { name := "fnExactYardTick", fn := fun _ => fun
  | [d] => { results := [.lit (.bool false)], args := [d] }
  | _ => none }
def FnExactYardTickWrongFalsely : Prop := fnExactYardTickRow.holds Tryz.pinned (OpenSpec.ofChange fnExactYardTickWrong)

/-- 'laws.FnExactYardTicks': WHATEVER THE INPUT: true; the input reads as it did. -/
def fnExactYardTicksSpec : ChangeSpec := { name := "fnExactYardTicks", fn := fun _ => fun
  | [d1, d2] => { results := [.lit (.bool true)], args := [d1, d2] }
  | _ => none }
def fnExactYardTicksRow : OpenClaim := { program := "ytbdicafambkhdaagreat", sum := "bb6ca31ab8ca579af733bd3990719539838f19099cfa3e23c3ab63e91ac7f1bf", func := "loop.example/g00658/laws.FnExactYardTicks", spec := "fnExactYardTicks", inPlace := ["internal/bytealg.abigen_runtime_cmpstring"], unfollowed := true, recurses := true, apart := false }
def FnExactYardTicksSaid : Prop := fnExactYardTicksRow.holds Tryz.pinned (OpenSpec.ofChange fnExactYardTicksSpec)

/-- ITS FALSE NEIGHBOUR: 'it returns false'. Refute it at one input. -/
def fnExactYardTicksWrong : ChangeSpec := { name := "fnExactYardTicks", fn := fun _ => fun
  | [d1, d2] => { results := [.lit (.bool false)], args := [d1, d2] }
  | _ => none }
def FnExactYardTicksWrongFalsely : Prop := fnExactYardTicksRow.holds Tryz.pinned (OpenSpec.ofChange fnExactYardTicksWrong)

/- THE SECOND FORM. 'bulk': how many values and letters a reading holds, each counted each time it is reached (what is shared counts as often as it is met; a slice's spare places count too). A statement '..UptoSaid' is the law's where the arguments, and the package variables that the reading takes, are together of bulk at most 1048576: NARROWER than '..Said'. Prove '..Said' where nothing that the law and all that it calls make is longer than what came in: it says more and counts as full. Else prove '..UptoSaid'. A law counts once. -/
mutual
def uptoBulk {H : Type} : DataW H → Nat
  | .lit (.string bytes) => bytes.length + 1
  | .lit _ => 1
  | .nil => 1
  | .ptr d => uptoBulk d + 1
  | .slice elems spare => uptoBulkAll elems + uptoBulkAll spare + 1
  | .agg parts => uptoBulkAll parts + 1
  | .iface _ d => uptoBulk d + 1
  | .map entries => uptoBulkEntries entries + 1
  | .held _ => 1
def uptoBulkAll {H : Type} : List (DataW H) → Nat
  | [] => 0
  | d :: r => uptoBulk d + uptoBulkAll r
def uptoBulkEntries {H : Type} : List (Lit × DataW H) → Nat
  | [] => 0
  | x :: r => uptoBulkEntry x + uptoBulkEntries r
def uptoBulkEntry {H : Type} : Lit × DataW H → Nat
  | (.string bytes, d) => bytes.length + uptoBulk d + 1
  | (_, d) => uptoBulk d + 1
 end
def uptoSmall : (H : Type) → List (DataW H) → Bool := fun _ ds => decide (uptoBulkAll ds ≤ 1048576)
def OpenSpec.upto (s : _root_.Go.ChangeSpec) : _root_.Go.OpenSpec := { _root_.Go.OpenSpec.ofChange s with cond := some uptoSmall }

/-- 'laws.FnExactLeast', WHERE WHAT IT READS IS OF BULK AT MOST 1048576: true; the input reads as it did. -/
def fnExactLeastUptoRow : OpenClaim := { program := "ytbdicafambkhdaagreat", sum := "bb6ca31ab8ca579af733bd3990719539838f19099cfa3e23c3ab63e91ac7f1bf", func := "loop.example/g00658/laws.FnExactLeast", spec := "fnExactLeast", inPlace := ["internal/bytealg.abigen_runtime_cmpstring"], unfollowed := true, recurses := true, apart := false, narrowed := true }
def FnExactLeastUptoSaid : Prop := fnExactLeastUptoRow.holds Tryz.pinned (OpenSpec.upto fnExactLeastSpec)

/-- 'laws.FnExactYardPlan', WHERE WHAT IT READS IS OF BULK AT MOST 1048576: true; the input reads as it did. -/
def fnExactYardPlanUptoRow : OpenClaim := { program := "ytbdicafambkhdaagreat", sum := "bb6ca31ab8ca579af733bd3990719539838f19099cfa3e23c3ab63e91ac7f1bf", func := "loop.example/g00658/laws.FnExactYardPlan", spec := "fnExactYardPlan", inPlace := ["internal/bytealg.abigen_runtime_cmpstring"], unfollowed := true, recurses := true, apart := false, narrowed := true }
def FnExactYardPlanUptoSaid : Prop := fnExactYardPlanUptoRow.holds Tryz.pinned (OpenSpec.upto fnExactYardPlanSpec)

/-- 'laws.FnExactYardTick', WHERE WHAT IT READS IS OF BULK AT MOST 1048576: true; the input reads as it did. -/
def fnExactYardTickUptoRow : OpenClaim := { program := "ytbdicafambkhdaagreat", sum := "bb6ca31ab8ca579af733bd3990719539838f19099cfa3e23c3ab63e91ac7f1bf", func := "loop.example/g00658/laws.FnExactYardTick", spec := "fnExactYardTick", inPlace := ["internal/bytealg.abigen_runtime_cmpstring"], unfollowed := true, recurses := true, apart := false, narrowed := true }
def FnExactYardTickUptoSaid : Prop := fnExactYardTickUptoRow.holds Tryz.pinned (OpenSpec.upto fnExactYardTickSpec)

/-- 'laws.FnExactYardTicks', WHERE WHAT IT READS IS OF BULK AT MOST 1048576: true; the input reads as it did. -/
def fnExactYardTicksUptoRow : OpenClaim := { program := "ytbdicafambkhdaagreat", sum := "bb6ca31ab8ca579af733bd3990719539838f19099cfa3e23c3ab63e91ac7f1bf", func := "loop.example/g00658/laws.FnExactYardTicks", spec := "fnExactYardTicks", inPlace := ["internal/bytealg.abigen_runtime_cmpstring"], unfollowed := true, recurses := true, apart := false, narrowed := true }
def FnExactYardTicksUptoSaid : Prop := fnExactYardTicksUptoRow.holds Tryz.pinned (OpenSpec.upto fnExactYardTicksSpec)

end Rows
end Go.Proofs.YtbdicafambkhdaaGreat
