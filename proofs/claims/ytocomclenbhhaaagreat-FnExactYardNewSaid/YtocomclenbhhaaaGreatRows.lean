/-
  No cell of these rows narrows 'for every input' (looked for: loops, veiled, ifaces, maps, wideKeys, modest, calm, conditions, laid).
  DERIVED. THE GIVEN ROWS OF THIS SEAT. 3 by the template 'for every input the law returns true; each argument reads behind the call as it read before'; 0 by the template 'total and deterministic' (their statements: YtocomclenbhhaaaGreatTotals.lean).
  GIVEN WITH THE SEED: the statements are not yours to turn. If you find one false, say at which input.
  Laid BY PROGRAM, IN A SANDBOX (cutbox-rows.mjs): the forced cells as the released guide's own fill.sh prints them over the translation 8dda8612b2e54235… (all of the seat's roots in one cut). By AI agents, Wed Nov 11 2026. No macro, syntax, notation, axiom, sorry.
-/
import Derived.Test.YtocomclenbhhaaaGreatChecked
import GoSem.Claim
import GoSem.ClaimJoined
import GoSem.ClaimMapViews
import Derived.JoinedTies
import Derived.KernelRfl
namespace Go.Proofs.YtocomclenbhhaaaGreat
/- THE CELL 'sum', in the pinned program and in every row, IS THE sha256 OF THE DUMP (.gsa) THAT YtocomclenbhhaaaGreatProg.lean LOADS. Nothing in Lean hashes anything: it is a label: what it is worth is what the hold of that sum in a sandbox is worth. -/
noncomputable def Tryz.pinned : Pinned := { name := "ytocomclenbhhaaagreat", sum := "8dda8612b2e542352ca077dc05b86d7eb3a1f6a050c2c0ddd3ed08b27d933437", checked := Tryz.checked }
namespace Rows
def none {H : Type} : Left H := { results := [], args := [] }

/-- 'laws.FnExactYardNew': WHATEVER THE INPUT: true; the input reads as it did. -/
def fnExactYardNewSpec : ChangeSpec := { name := "fnExactYardNew", fn := fun _ => fun
  | [d] => { results := [.lit (.bool true)], args := [d] }
  | _ => none }
def fnExactYardNewRow : OpenClaim := { program := "ytocomclenbhhaaagreat", sum := "8dda8612b2e542352ca077dc05b86d7eb3a1f6a050c2c0ddd3ed08b27d933437", func := "loop.example/g00658/laws.FnExactYardNew", spec := "fnExactYardNew", unfollowed := true, recurses := true, apart := false }
def FnExactYardNewSaid : Prop := fnExactYardNewRow.holds Tryz.pinned (OpenSpec.ofChange fnExactYardNewSpec)

/-- ITS FALSE NEIGHBOUR: 'it returns false'. Refute it at one input. -/
def fnExactYardNewWrong : ChangeSpec := { name := "fnExactYardNew", fn := fun _ => fun
  | [d] => { results := [.lit (.bool false)], args := [d] }
  | _ => none }
def FnExactYardNewWrongFalsely : Prop := fnExactYardNewRow.holds Tryz.pinned (OpenSpec.ofChange fnExactYardNewWrong)

/-- 'laws.FnExactYardRight': WHATEVER THE INPUT: true; the input reads as it did. -/
def fnExactYardRightSpec : ChangeSpec := { name := "fnExactYardRight", fn := fun _ => fun
  | [d] => { results := [.lit (.bool true)], args := [d] }
  | _ => none }
def fnExactYardRightRow : OpenClaim := { program := "ytocomclenbhhaaagreat", sum := "8dda8612b2e542352ca077dc05b86d7eb3a1f6a050c2c0ddd3ed08b27d933437", func := "loop.example/g00658/laws.FnExactYardRight", spec := "fnExactYardRight", inPlace := ["internal/bytealg.abigen_runtime_cmpstring"], unfollowed := true, recurses := true, apart := false }
def FnExactYardRightSaid : Prop := fnExactYardRightRow.holds Tryz.pinned (OpenSpec.ofChange fnExactYardRightSpec)

/-- ITS FALSE NEIGHBOUR: 'it returns false'. Refute it at one input. -/
def fnExactYardRightWrong : ChangeSpec := { name := "fnExactYardRight", fn := fun _ => fun
  | [d] => { results := [.lit (.bool false)], args := [d] }
  | _ => none }
def FnExactYardRightWrongFalsely : Prop := fnExactYardRightRow.holds Tryz.pinned (OpenSpec.ofChange fnExactYardRightWrong)

/-- 'laws.FnExactYardView': WHATEVER THE INPUT: true; the input reads as it did. -/
def fnExactYardViewSpec : ChangeSpec := { name := "fnExactYardView", fn := fun _ => fun
  | [d1, d2] => { results := [.lit (.bool true)], args := [d1, d2] }
  | _ => none }
def fnExactYardViewRow : OpenClaim := { program := "ytocomclenbhhaaagreat", sum := "8dda8612b2e542352ca077dc05b86d7eb3a1f6a050c2c0ddd3ed08b27d933437", func := "loop.example/g00658/laws.FnExactYardView", spec := "fnExactYardView", inPlace := ["internal/bytealg.abigen_runtime_cmpstring"], unfollowed := true, recurses := true, apart := false }
def FnExactYardViewSaid : Prop := fnExactYardViewRow.holds Tryz.pinned (OpenSpec.ofChange fnExactYardViewSpec)

/-- ITS FALSE NEIGHBOUR: 'it returns false'. Refute it at one input. -/
def fnExactYardViewWrong : ChangeSpec := { name := "fnExactYardView", fn := fun _ => fun
  | [d1, d2] => { results := [.lit (.bool false)], args := [d1, d2] }
  | _ => none }
def FnExactYardViewWrongFalsely : Prop := fnExactYardViewRow.holds Tryz.pinned (OpenSpec.ofChange fnExactYardViewWrong)

/- THE SECOND FORM. 'bulk': how many values and letters a reading holds, each counted each time it is reached (what is shared counts as often as it is met; a slice's spare places count too). A statement '..UptoSaid' is the law's where the arguments, and the package variables that the reading takes, are together of bulk at most 1048576: NARROWER than '..Said'. Prove '..Said' where nothing that the law and all that it calls make is longer than what came in: it says more and counts as full. Else prove '..UptoSaid'. A law counts once. -/
mutual
def uptoBulk {H : Type} : DataW H → Nat
  | .lit (.string bytes) => bytes.length + 1
  | .lit _ => 1
  | .nil => 1
  | .ptr d => uptoBulk d + 1
  | .slice elems spare => uptoBulkAll elems + uptoBulkAll spare + 1
  | .agg parts => uptoBulkAll parts + 1
  | .iface _ d => uptoBulk d + 1
  | .map entries => uptoBulkEntries entries + 1
  | .held _ => 1
def uptoBulkAll {H : Type} : List (DataW H) → Nat
  | [] => 0
  | d :: r => uptoBulk d + uptoBulkAll r
def uptoBulkEntries {H : Type} : List (Lit × DataW H) → Nat
  | [] => 0
  | x :: r => uptoBulkEntry x + uptoBulkEntries r
def uptoBulkEntry {H : Type} : Lit × DataW H → Nat
  | (.string bytes, d) => bytes.length + uptoBulk d + 1
  | (_, d) => uptoBulk d + 1
 end
def uptoSmall : (H : Type) → List (DataW H) → Bool := fun _ ds => decide (uptoBulkAll ds ≤ 1048576)
def OpenSpec.upto (s : _root_.Go.ChangeSpec) : _root_.Go.OpenSpec := { _root_.Go.OpenSpec.ofChange s with cond := some uptoSmall }

/-- 'laws.FnExactYardNew', WHERE WHAT IT READS IS OF BULK AT MOST 1048576: true; the input reads as it did. -/
def fnExactYardNewUptoRow : OpenClaim := { program := "ytocomclenbhhaaagreat", sum := "8dda8612b2e542352ca077dc05b86d7eb3a1f6a050c2c0ddd3ed08b27d933437", func := "loop.example/g00658/laws.FnExactYardNew", spec := "fnExactYardNew", unfollowed := true, recurses := true, apart := false, narrowed := true }
def FnExactYardNewUptoSaid : Prop := fnExactYardNewUptoRow.holds Tryz.pinned (OpenSpec.upto fnExactYardNewSpec)

/-- 'laws.FnExactYardRight', WHERE WHAT IT READS IS OF BULK AT MOST 1048576: true; the input reads as it did. -/
def fnExactYardRightUptoRow : OpenClaim := { program := "ytocomclenbhhaaagreat", sum := "8dda8612b2e542352ca077dc05b86d7eb3a1f6a050c2c0ddd3ed08b27d933437", func := "loop.example/g00658/laws.FnExactYardRight", spec := "fnExactYardRight", inPlace := ["internal/bytealg.abigen_runtime_cmpstring"], unfollowed := true, recurses := true, apart := false, narrowed := true }
def FnExactYardRightUptoSaid : Prop := fnExactYardRightUptoRow.holds Tryz.pinned (OpenSpec.upto fnExactYardRightSpec)

/-- 'laws.FnExactYardView', WHERE WHAT IT READS IS OF BULK AT MOST 1048576: true; the input reads as it did. -/
def fnExactYardViewUptoRow : OpenClaim := { program := "ytocomclenbhhaaagreat", sum := "8dda8612b2e542352ca077dc05b86d7eb3a1f6a050c2c0ddd3ed08b27d933437", func := "loop.example/g00658/laws.FnExactYardView", spec := "fnExactYardView", inPlace := ["internal/bytealg.abigen_runtime_cmpstring"], unfollowed := true, recurses := true, apart := false, narrowed := true }
def FnExactYardViewUptoSaid : Prop := fnExactYardViewUptoRow.holds Tryz.pinned (OpenSpec.upto fnExactYardViewSpec)

end Rows
end Go.Proofs.YtocomclenbhhaaaGreat
