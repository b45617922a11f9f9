/-
  No cell of these rows narrows 'for every input' (looked for: loops, veiled, ifaces, maps, wideKeys, modest, calm, conditions, laid).
  DERIVED. THE GIVEN ROWS OF THIS SEAT. 10 by the template 'for every input the law returns true; each argument reads behind the call as it read before'; 0 by the template 'total and deterministic' (their statements: YtngldifgcgblpaaGreatTotals.lean).
  GIVEN WITH THE SEED: the statements are not yours to turn. If you find one false, say at which input.
  Laid BY PROGRAM, IN A SANDBOX (cutbox-rows.mjs): the forced cells as the released guide's own fill.sh prints them over the translation eb628a89d027b1e4… (all of the seat's roots in one cut). By AI agents, Wed Nov 11 2026. No macro, syntax, notation, axiom, sorry.
-/
import Derived.Test.YtngldifgcgblpaaGreatChecked
import GoSem.Claim
import GoSem.ClaimJoined
import GoSem.ClaimMapViews
import Derived.JoinedTies
import Derived.KernelRfl
namespace Go.Proofs.YtngldifgcgblpaaGreat
/- THE CELL 'sum', in the pinned program and in every row, IS THE sha256 OF THE DUMP (.gsa) THAT YtngldifgcgblpaaGreatProg.lean LOADS. Nothing in Lean hashes anything: it is a label: what it is worth is what the hold of that sum in a sandbox is worth. -/
noncomputable def Tryz.pinned : Pinned := { name := "ytngldifgcgblpaagreat", sum := "eb628a89d027b1e415005db4debb66f3fa24e5fe9f1d9e75c9b6b094caf5ad36", checked := Tryz.checked }
namespace Rows
def none {H : Type} : Left H := { results := [], args := [] }

/-- 'laws.FnExactYardCancel': WHATEVER THE INPUT: true; the input reads as it did. -/
def fnExactYardCancelSpec : ChangeSpec := { name := "fnExactYardCancel", fn := fun _ => fun
  | [d1, d2, d3] => { results := [.lit (.bool true)], args := [d1, d2, d3] }
  | _ => none }
def fnExactYardCancelRow : OpenClaim := { program := "ytngldifgcgblpaagreat", sum := "eb628a89d027b1e415005db4debb66f3fa24e5fe9f1d9e75c9b6b094caf5ad36", func := "loop.example/g00658/laws.FnExactYardCancel", spec := "fnExactYardCancel", inPlace := ["internal/bytealg.abigen_runtime_cmpstring"], unfollowed := true, recurses := true, apart := false }
def FnExactYardCancelSaid : Prop := fnExactYardCancelRow.holds Tryz.pinned (OpenSpec.ofChange fnExactYardCancelSpec)

/-- ITS FALSE NEIGHBOUR: 'it returns false'. Refute it at one input. -/
def fnExactYardCancelWrong : ChangeSpec := { name := "fnExactYardCancel", fn := fun _ => fun
  | [d1, d2, d3] => { results := [.lit (.bool false)], args := [d1, d2, d3] }
  | _ => none }
def FnExactYardCancelWrongFalsely : Prop := fnExactYardCancelRow.holds Tryz.pinned (OpenSpec.ofChange fnExactYardCancelWrong)

/-- 'laws.FnExactYardFree': WHATEVER THE INPUT: true; the input reads as it did. -/
def fnExactYardFreeSpec : ChangeSpec := { name := "fnExactYardFree", fn := fun _ => fun
  | [d1, d2, d3] => { results := [.lit (.bool true)], args := [d1, d2, d3] }
  | _ => none }
def fnExactYardFreeRow : OpenClaim := { program := "ytngldifgcgblpaagreat", sum := "eb628a89d027b1e415005db4debb66f3fa24e5fe9f1d9e75c9b6b094caf5ad36", func := "loop.example/g00658/laws.FnExactYardFree", spec := "fnExactYardFree", inPlace := ["internal/bytealg.abigen_runtime_cmpstring"], unfollowed := true, recurses := true, apart := false }
def FnExactYardFreeSaid : Prop := fnExactYardFreeRow.holds Tryz.pinned (OpenSpec.ofChange fnExactYardFreeSpec)

/-- ITS FALSE NEIGHBOUR: 'it returns false'. Refute it at one input. -/
def fnExactYardFreeWrong : ChangeSpec := { name := "fnExactYardFree", fn := fun _ => fun
  | [d1, d2, d3] => { results := [.lit (.bool false)], args := [d1, d2, d3] }
  | _ => none }
def FnExactYardFreeWrongFalsely : Prop := fnExactYardFreeRow.holds Tryz.pinned (OpenSpec.ofChange fnExactYardFreeWrong)

/-- 'laws.FnExactYardHold': WHATEVER THE INPUT: true; the input reads as it did. -/
def fnExactYardHoldSpec : ChangeSpec := { name := "fnExactYardHold", fn := fun _ => fun
  | [d1, d2, d3] => { results := [.lit (.bool true)], args := [d1, d2, d3] }
  | _ => none }
def fnExactYardHoldRow : OpenClaim := { program := "ytngldifgcgblpaagreat", sum := "eb628a89d027b1e415005db4debb66f3fa24e5fe9f1d9e75c9b6b094caf5ad36", func := "loop.example/g00658/laws.FnExactYardHold", spec := "fnExactYardHold", inPlace := ["internal/bytealg.abigen_runtime_cmpstring"], unfollowed := true, recurses := true, apart := false }
def FnExactYardHoldSaid : Prop := fnExactYardHoldRow.holds Tryz.pinned (OpenSpec.ofChange fnExactYardHoldSpec)

/-- ITS FALSE NEIGHBOUR: 'it returns false'. Refute it at one input. -/
def fnExactYardHoldWrong : ChangeSpec := { name := "fnExactYardHold", fn := fun _ => fun
  | [d1, d2, d3] => { results := [.lit (.bool false)], args := [d1, d2, d3] }
  | _ => none }
def FnExactYardHoldWrongFalsely : Prop := fnExactYardHoldRow.holds Tryz.pinned (OpenSpec.ofChange fnExactYardHoldWrong)

/-- 'laws.FnExactYardFinish': WHATEVER THE INPUT: true; the input reads as it did. -/
def fnExactYardFinishSpec : ChangeSpec := { name := "fnExactYardFinish", fn := fun _ => fun
  | [d1, d2, d3] => { results := [.lit (.bool true)], args := [d1, d2, d3] }
  | _ => none }
def fnExactYardFinishRow : OpenClaim := { program := "ytngldifgcgblpaagreat", sum := "eb628a89d027b1e415005db4debb66f3fa24e5fe9f1d9e75c9b6b094caf5ad36", func := "loop.example/g00658/laws.FnExactYardFinish", spec := "fnExactYardFinish", inPlace := ["internal/bytealg.abigen_runtime_cmpstring"], unfollowed := true, recurses := true, apart := false }
def FnExactYardFinishSaid : Prop := fnExactYardFinishRow.holds Tryz.pinned (OpenSpec.ofChange fnExactYardFinishSpec)

/-- ITS FALSE NEIGHBOUR: 'it returns false'. Refute it at one input. -/
def fnExactYardFinishWrong : ChangeSpec := { name := "fnExactYardFinish", fn := fun _ => fun
  | [d1, d2, d3] => { results := [.lit (.bool false)], args := [d1, d2, d3] }
  | _ => none }
def FnExactYardFinishWrongFalsely : Prop := fnExactYardFinishRow.holds Tryz.pinned (OpenSpec.ofChange fnExactYardFinishWrong)

/-- 'laws.FnExactYardModify': WHATEVER THE INPUT: true; the input reads as it did. -/
def fnExactYardModifySpec : ChangeSpec := { name := "fnExactYardModify", fn := fun _ => fun
  | [d1, d2, d3, d4, d5, d6] => { results := [.lit (.bool true)], args := [d1, d2, d3, d4, d5, d6] }
  | _ => none }
def fnExactYardModifyRow : OpenClaim := { program := "ytngldifgcgblpaagreat", sum := "eb628a89d027b1e415005db4debb66f3fa24e5fe9f1d9e75c9b6b094caf5ad36", func := "loop.example/g00658/laws.FnExactYardModify", spec := "fnExactYardModify", inPlace := ["internal/bytealg.abigen_runtime_cmpstring"], unfollowed := true, recurses := true, apart := false }
def FnExactYardModifySaid : Prop := fnExactYardModifyRow.holds Tryz.pinned (OpenSpec.ofChange fnExactYardModifySpec)

/-- ITS FALSE NEIGHBOUR: 'it returns false'. Refute it at one input. -/
def fnExactYardModifyWrong : ChangeSpec := { name := "fnExactYardModify", fn := fun _ => fun
  | [d1, d2, d3, d4, d5, d6] => { results := [.lit (.bool false)], args := [d1, d2, d3, d4, d5, d6] }
  | _ => none }
def FnExactYardModifyWrongFalsely : Prop := fnExactYardModifyRow.holds Tryz.pinned (OpenSpec.ofChange fnExactYardModifyWrong)

/-- 'laws.FnExactYardUnbook': WHATEVER THE INPUT: true; the input reads as it did. -/
def fnExactYardUnbookSpec : ChangeSpec := { name := "fnExactYardUnbook", fn := fun _ => fun
  | [d1, d2, d3] => { results := [.lit (.bool true)], args := [d1, d2, d3] }
  | _ => none }
def fnExactYardUnbookRow : OpenClaim := { program := "ytngldifgcgblpaagreat", sum := "eb628a89d027b1e415005db4debb66f3fa24e5fe9f1d9e75c9b6b094caf5ad36", func := "loop.example/g00658/laws.FnExactYardUnbook", spec := "fnExactYardUnbook", inPlace := ["internal/bytealg.abigen_runtime_cmpstring"], unfollowed := true, recurses := true, apart := false }
def FnExactYardUnbookSaid : Prop := fnExactYardUnbookRow.holds Tryz.pinned (OpenSpec.ofChange fnExactYardUnbookSpec)

/-- ITS FALSE NEIGHBOUR: 'it returns false'. Refute it at one input. -/
def fnExactYardUnbookWrong : ChangeSpec := { name := "fnExactYardUnbook", fn := fun _ => fun
  | [d1, d2, d3] => { results := [.lit (.bool false)], args := [d1, d2, d3] }
  | _ => none }
def FnExactYardUnbookWrongFalsely : Prop := fnExactYardUnbookRow.holds Tryz.pinned (OpenSpec.ofChange fnExactYardUnbookWrong)

/-- 'laws.FnExactYardNode': WHATEVER THE INPUT: true; the input reads as it did. -/
def fnExactYardNodeSpec : ChangeSpec := { name := "fnExactYardNode", fn := fun _ => fun
  | [d1, d2, d3] => { results := [.lit (.bool true)], args := [d1, d2, d3] }
  | _ => none }
def fnExactYardNodeRow : OpenClaim := { program := "ytngldifgcgblpaagreat", sum := "eb628a89d027b1e415005db4debb66f3fa24e5fe9f1d9e75c9b6b094caf5ad36", func := "loop.example/g00658/laws.FnExactYardNode", spec := "fnExactYardNode", inPlace := ["internal/bytealg.abigen_runtime_cmpstring"], unfollowed := true, recurses := true, apart := false }
def FnExactYardNodeSaid : Prop := fnExactYardNodeRow.holds Tryz.pinned (OpenSpec.ofChange fnExactYardNodeSpec)

/-- ITS FALSE NEIGHBOUR: 'it returns false'. Refute it at one input. -/
def fnExactYardNodeWrong : ChangeSpec := { name := "fnExactYardNode", fn := fun _ => fun
  | [d1, d2, d3] => { results := [.lit (.bool false)], args := [d1, d2, d3] }
  | _ => none }
def FnExactYardNodeWrongFalsely : Prop := fnExactYardNodeRow.holds Tryz.pinned (OpenSpec.ofChange fnExactYardNodeWrong)

/-- 'laws.FnExactYardBook': WHATEVER THE INPUT: true; the input reads as it did. -/
def fnExactYardBookSpec : ChangeSpec := { name := "fnExactYardBook", fn := fun _ => fun
  | [d1, d2, d3] => { results := [.lit (.bool true)], args := [d1, d2, d3] }
  | _ => none }
def fnExactYardBookRow : OpenClaim := { program := "ytngldifgcgblpaagreat", sum := "eb628a89d027b1e415005db4debb66f3fa24e5fe9f1d9e75c9b6b094caf5ad36", func := "loop.example/g00658/laws.FnExactYardBook", spec := "fnExactYardBook", inPlace := ["slices.overlaps[loop.example/g00658/impl.Span]", "internal/bytealg.abigen_runtime_cmpstring"], unfollowed := true, recurses := true, apart := false }
def FnExactYardBookSaid : Prop := fnExactYardBookRow.holds Tryz.pinned (OpenSpec.ofChange fnExactYardBookSpec)

/-- ITS FALSE NEIGHBOUR: 'it returns false'. Refute it at one input. -/
def fnExactYardBookWrong : ChangeSpec := { name := "fnExactYardBook", fn := fun _ => fun
  | [d1, d2, d3] => { results := [.lit (.bool false)], args := [d1, d2, d3] }
  | _ => none }
def FnExactYardBookWrongFalsely : Prop := fnExactYardBookRow.holds Tryz.pinned (OpenSpec.ofChange fnExactYardBookWrong)

/-- 'laws.FnExactTaskOrder': WHATEVER THE INPUT: true; the input reads as it did. -/
def fnExactTaskOrderSpec : ChangeSpec := { name := "fnExactTaskOrder", fn := fun _ => fun
  | [d] => { results := [.lit (.bool true)], args := [d] }
  | _ => none }
def fnExactTaskOrderRow : OpenClaim := { program := "ytngldifgcgblpaagreat", sum := "eb628a89d027b1e415005db4debb66f3fa24e5fe9f1d9e75c9b6b094caf5ad36", func := "loop.example/g00658/laws.FnExactTaskOrder", spec := "fnExactTaskOrder", inPlace := ["internal/bytealg.abigen_runtime_cmpstring"], unfollowed := true, recurses := true, apart := false }
def FnExactTaskOrderSaid : Prop := fnExactTaskOrderRow.holds Tryz.pinned (OpenSpec.ofChange fnExactTaskOrderSpec)

/-- ITS FALSE NEIGHBOUR: 'it returns false'. Refute it at one input. -/
def fnExactTaskOrderWrong : ChangeSpec := { name := "fnExactTaskOrder", fn := fun _ => fun
  | [d] => { results := [.lit (.bool false)], args := [d] }
  | _ => none }
def FnExactTaskOrderWrongFalsely : Prop := fnExactTaskOrderRow.holds Tryz.pinned (OpenSpec.ofChange fnExactTaskOrderWrong)

/-- 'laws.FnExactYardSubmit': WHATEVER THE INPUT: true; the input reads as it did. -/
def fnExactYardSubmitSpec : ChangeSpec := { name := "fnExactYardSubmit", fn := fun _ => fun
  | [d1, d2, d3] => { results := [.lit (.bool true)], args := [d1, d2, d3] }
  | _ => none }
def fnExactYardSubmitRow : OpenClaim := { program := "ytngldifgcgblpaagreat", sum := "eb628a89d027b1e415005db4debb66f3fa24e5fe9f1d9e75c9b6b094caf5ad36", func := "loop.example/g00658/laws.FnExactYardSubmit", spec := "fnExactYardSubmit", inPlace := ["internal/bytealg.abigen_runtime_cmpstring"], unfollowed := true, recurses := true, apart := false }
def FnExactYardSubmitSaid : Prop := fnExactYardSubmitRow.holds Tryz.pinned (OpenSpec.ofChange fnExactYardSubmitSpec)

/-- ITS FALSE NEIGHBOUR: 'it returns false'. Refute it at one input. -/
def fnExactYardSubmitWrong : ChangeSpec := { name := "fnExactYardSubmit", fn := fun _ => fun
  | [d1, d2, d3] => { results := [.lit (.bool false)], args := [d1, d2, d3] }
  | _ => none }
def FnExactYardSubmitWrongFalsely : Prop := fnExactYardSubmitRow.holds Tryz.pinned (OpenSpec.ofChange fnExactYardSubmitWrong)

/- THE SECOND FORM. 'bulk': how many values and letters a reading holds, each counted each time it is reached (what is shared counts as often as it is met; a slice's spare places count too). A statement '..UptoSaid' is the law's where the arguments, and the package variables that the reading takes, are together of bulk at most 1048576: NARROWER than '..Said'. Prove '..Said' where nothing that the law and all that it calls make is longer than what came in: it says more and counts as full. Else prove '..UptoSaid'. A law counts once. -/
mutual
def uptoBulk {H : Type} : DataW H → Nat
  | .lit (.string bytes) => bytes.length + 1
  | .lit _ => 1
  | .nil => 1
  | .ptr d => uptoBulk d + 1
  | .slice elems spare => uptoBulkAll elems + uptoBulkAll spare + 1
  | .agg parts => uptoBulkAll parts + 1
  | .iface _ d => uptoBulk d + 1
  | .map entries => uptoBulkEntries entries + 1
  | .held _ => 1
def uptoBulkAll {H : Type} : List (DataW H) → Nat
  | [] => 0
  | d :: r => uptoBulk d + uptoBulkAll r
def uptoBulkEntries {H : Type} : List (Lit × DataW H) → Nat
  | [] => 0
  | x :: r => uptoBulkEntry x + uptoBulkEntries r
def uptoBulkEntry {H : Type} : Lit × DataW H → Nat
  | (.string bytes, d) => bytes.length + uptoBulk d + 1
  | (_, d) => uptoBulk d + 1
 end
def uptoSmall : (H : Type) → List (DataW H) → Bool := fun _ ds => decide (uptoBulkAll ds ≤ 1048576)
def OpenSpec.upto (s : _root_.Go.ChangeSpec) : _root_.Go.OpenSpec := { _root_.Go.OpenSpec.ofChange s with cond := some uptoSmall }

/-- 'laws.FnExactYardCancel', WHERE WHAT IT READS IS OF BULK AT MOST 1048576: true; the input reads as it did. -/
def fnExactYardCancelUptoRow : OpenClaim := { program := "ytngldifgcgblpaagreat", sum := "eb628a89d027b1e415005db4debb66f3fa24e5fe9f1d9e75c9b6b094caf5ad36", func := "loop.example/g00658/laws.FnExactYardCancel", spec := "fnExactYardCancel", inPlace := ["internal/bytealg.abigen_runtime_cmpstring"], unfollowed := true, recurses := true, apart := false, narrowed := true }
def FnExactYardCancelUptoSaid : Prop := fnExactYardCancelUptoRow.holds Tryz.pinned (OpenSpec.upto fnExactYardCancelSpec)

/-- 'laws.FnExactYardFree', WHERE WHAT IT READS IS OF BULK AT MOST 1048576: true; the input reads as it did. -/
def fnExactYardFreeUptoRow : OpenClaim := { program := "ytngldifgcgblpaagreat", sum := "eb628a89d027b1e415005db4debb66f3fa24e5fe9f1d9e75c9b6b094caf5ad36", func := "loop.example/g00658/laws.FnExactYardFree", spec := "fnExactYardFree", inPlace := ["internal/bytealg.abigen_runtime_cmpstring"], unfollowed := true, recurses := true, apart := false, narrowed := true }
def FnExactYardFreeUptoSaid : Prop := fnExactYardFreeUptoRow.holds Tryz.pinned (OpenSpec.upto fnExactYardFreeSpec)

/-- 'laws.FnExactYardHold', WHERE WHAT IT READS IS OF BULK AT MOST 1048576: true; the input reads as it did. -/
def fnExactYardHoldUptoRow : OpenClaim := { program := "ytngldifgcgblpaagreat", sum := "eb628a89d027b1e415005db4debb66f3fa24e5fe9f1d9e75c9b6b094caf5ad36", func := "loop.example/g00658/laws.FnExactYardHold", spec := "fnExactYardHold", inPlace := ["internal/bytealg.abigen_runtime_cmpstring"], unfollowed := true, recurses := true, apart := false, narrowed := true }
def FnExactYardHoldUptoSaid : Prop := fnExactYardHoldUptoRow.holds Tryz.pinned (OpenSpec.upto fnExactYardHoldSpec)

/-- 'laws.FnExactYardFinish', WHERE WHAT IT READS IS OF BULK AT MOST 1048576: true; the input reads as it did. -/
def fnExactYardFinishUptoRow : OpenClaim := { program := "ytngldifgcgblpaagreat", sum := "eb628a89d027b1e415005db4debb66f3fa24e5fe9f1d9e75c9b6b094caf5ad36", func := "loop.example/g00658/laws.FnExactYardFinish", spec := "fnExactYardFinish", inPlace := ["internal/bytealg.abigen_runtime_cmpstring"], unfollowed := true, recurses := true, apart := false, narrowed := true }
def FnExactYardFinishUptoSaid : Prop := fnExactYardFinishUptoRow.holds Tryz.pinned (OpenSpec.upto fnExactYardFinishSpec)

/-- 'laws.FnExactYardModify', WHERE WHAT IT READS IS OF BULK AT MOST 1048576: true; the input reads as it did. -/
def fnExactYardModifyUptoRow : OpenClaim := { program := "ytngldifgcgblpaagreat", sum := "eb628a89d027b1e415005db4debb66f3fa24e5fe9f1d9e75c9b6b094caf5ad36", func := "loop.example/g00658/laws.FnExactYardModify", spec := "fnExactYardModify", inPlace := ["internal/bytealg.abigen_runtime_cmpstring"], unfollowed := true, recurses := true, apart := false, narrowed := true }
def FnExactYardModifyUptoSaid : Prop := fnExactYardModifyUptoRow.holds Tryz.pinned (OpenSpec.upto fnExactYardModifySpec)

/-- 'laws.FnExactYardUnbook', WHERE WHAT IT READS IS OF BULK AT MOST 1048576: true; the input reads as it did. -/
def fnExactYardUnbookUptoRow : OpenClaim := { program := "ytngldifgcgblpaagreat", sum := "eb628a89d027b1e415005db4debb66f3fa24e5fe9f1d9e75c9b6b094caf5ad36", func := "loop.example/g00658/laws.FnExactYardUnbook", spec := "fnExactYardUnbook", inPlace := ["internal/bytealg.abigen_runtime_cmpstring"], unfollowed := true, recurses := true, apart := false, narrowed := true }
def FnExactYardUnbookUptoSaid : Prop := fnExactYardUnbookUptoRow.holds Tryz.pinned (OpenSpec.upto fnExactYardUnbookSpec)

/-- 'laws.FnExactYardNode', WHERE WHAT IT READS IS OF BULK AT MOST 1048576: true; the input reads as it did. -/
def fnExactYardNodeUptoRow : OpenClaim := { program := "ytngldifgcgblpaagreat", sum := "eb628a89d027b1e415005db4debb66f3fa24e5fe9f1d9e75c9b6b094caf5ad36", func := "loop.example/g00658/laws.FnExactYardNode", spec := "fnExactYardNode", inPlace := ["internal/bytealg.abigen_runtime_cmpstring"], unfollowed := true, recurses := true, apart := false, narrowed := true }
def FnExactYardNodeUptoSaid : Prop := fnExactYardNodeUptoRow.holds Tryz.pinned (OpenSpec.upto fnExactYardNodeSpec)

/-- 'laws.FnExactYardBook', WHERE WHAT IT READS IS OF BULK AT MOST 1048576: true; the input reads as it did. -/
def fnExactYardBookUptoRow : OpenClaim := { program := "ytngldifgcgblpaagreat", sum := "eb628a89d027b1e415005db4debb66f3fa24e5fe9f1d9e75c9b6b094caf5ad36", func := "loop.example/g00658/laws.FnExactYardBook", spec := "fnExactYardBook", inPlace := ["slices.overlaps[loop.example/g00658/impl.Span]", "internal/bytealg.abigen_runtime_cmpstring"], unfollowed := true, recurses := true, apart := false, narrowed := true }
def FnExactYardBookUptoSaid : Prop := fnExactYardBookUptoRow.holds Tryz.pinned (OpenSpec.upto fnExactYardBookSpec)

/-- 'laws.FnExactTaskOrder', WHERE WHAT IT READS IS OF BULK AT MOST 1048576: true; the input reads as it did. -/
def fnExactTaskOrderUptoRow : OpenClaim := { program := "ytngldifgcgblpaagreat", sum := "eb628a89d027b1e415005db4debb66f3fa24e5fe9f1d9e75c9b6b094caf5ad36", func := "loop.example/g00658/laws.FnExactTaskOrder", spec := "fnExactTaskOrder", inPlace := ["internal/bytealg.abigen_runtime_cmpstring"], unfollowed := true, recurses := true, apart := false, narrowed := true }
def FnExactTaskOrderUptoSaid : Prop := fnExactTaskOrderUptoRow.holds Tryz.pinned (OpenSpec.upto fnExactTaskOrderSpec)

/-- 'laws.FnExactYardSubmit', WHERE WHAT IT READS IS OF BULK AT MOST 1048576: true; the input reads as it did. -/
def fnExactYardSubmitUptoRow : OpenClaim := { program := "ytngldifgcgblpaagreat", sum := "eb628a89d027b1e415005db4debb66f3fa24e5fe9f1d9e75c9b6b094caf5ad36", func := "loop.example/g00658/laws.FnExactYardSubmit", spec := "fnExactYardSubmit", inPlace := ["internal/bytealg.abigen_runtime_cmpstring"], unfollowed := true, recurses := true, apart := false, narrowed := true }
def FnExactYardSubmitUptoSaid : Prop := fnExactYardSubmitUptoRow.holds Tryz.pinned (OpenSpec.upto fnExactYardSubmitSpec)

end Rows
end Go.Proofs.YtngldifgcgblpaaGreat
