/-
  No cell of these rows narrows 'for every input' (looked for: loops, veiled, ifaces, maps, wideKeys, modest, calm, conditions, laid).
  DERIVED. THE GIVEN ROWS OF THIS SEAT. 12 by the template 'for every input the law returns true; each argument reads behind the call as it read before'; 0 by the template 'total and deterministic' (their statements: YtfbbbnalbficbaaTotals.lean).
  GIVEN WITH THE SEED: the statements are not yours to turn. If you find one false, say at which input.
  Laid BY PROGRAM, IN A SANDBOX (cutbox-rows.mjs): the forced cells as the released guide's own fill.sh prints them over the translation f3147cf8bc6b014e… (all of the seat's roots in one cut). By AI agents, Wed Nov 11 2026. No macro, syntax, notation, axiom, sorry.
-/
import Derived.Test.YtfbbbnalbficbaaChecked
import GoSem.Claim
import GoSem.ClaimJoined
import GoSem.ClaimMapViews
import Derived.JoinedTies
import Derived.KernelRfl
namespace Go.Proofs.Ytfbbbnalbficbaa
/- THE CELL 'sum', in the pinned program and in every row, IS THE sha256 OF THE DUMP (.gsa) THAT YtfbbbnalbficbaaProg.lean LOADS. Nothing in Lean hashes anything: it is a label: what it is worth is what the hold of that sum in a sandbox is worth. -/
noncomputable def Try.pinned : Pinned := { name := "ytfbbbnalbficbaa", sum := "f3147cf8bc6b014e8e5c98dfa5a8a2a786608324ddc07a6e643665169f31a782", checked := Try.checked }
namespace Rows
def none {H : Type} : Left H := { results := [], args := [] }

/-- 'laws.FnExactRank': WHATEVER THE INPUT: true; the input reads as it did. -/
def fnExactRankSpec : ChangeSpec := { name := "fnExactRank", fn := fun _ => fun
  | [d1, d2, d3] => { results := [.lit (.bool true)], args := [d1, d2, d3] }
  | _ => none }
def fnExactRankRow : OpenClaim := { program := "ytfbbbnalbficbaa", sum := "f3147cf8bc6b014e8e5c98dfa5a8a2a786608324ddc07a6e643665169f31a782", func := "loop.example/g00658/laws.FnExactRank", spec := "fnExactRank", apart := false }
def FnExactRankSaid : Prop := fnExactRankRow.holds Try.pinned (OpenSpec.ofChange fnExactRankSpec)

/-- ITS FALSE NEIGHBOUR: 'it returns false'. Refute it at one input. -/
def fnExactRankWrong : ChangeSpec := { name := "fnExactRank", fn := fun _ => fun
  | [d1, d2, d3] => { results := [.lit (.bool false)], args := [d1, d2, d3] }
  | _ => none }
def FnExactRankWrongFalsely : Prop := fnExactRankRow.holds Try.pinned (OpenSpec.ofChange fnExactRankWrong)

/-- 'laws.FnRank': WHATEVER THE INPUT: true; the input reads as it did. -/
def fnRankSpec : ChangeSpec := { name := "fnRank", fn := fun _ => fun
  | [d] => { results := [.lit (.bool true)], args := [d] }
  | _ => none }
def fnRankRow : OpenClaim := { program := "ytfbbbnalbficbaa", sum := "f3147cf8bc6b014e8e5c98dfa5a8a2a786608324ddc07a6e643665169f31a782", func := "loop.example/g00658/laws.FnRank", spec := "fnRank", apart := false }
def FnRankSaid : Prop := fnRankRow.holds Try.pinned (OpenSpec.ofChange fnRankSpec)

/-- ITS FALSE NEIGHBOUR: 'it returns false'. Refute it at one input. -/
def fnRankWrong : ChangeSpec := { name := "fnRank", fn := fun _ => fun
  | [d] => { results := [.lit (.bool false)], args := [d] }
  | _ => none }
def FnRankWrongFalsely : Prop := fnRankRow.holds Try.pinned (OpenSpec.ofChange fnRankWrong)

/-- 'laws.FnExactWishRight': WHATEVER THE INPUT: true; the input reads as it did. -/
def fnExactWishRightSpec : ChangeSpec := { name := "fnExactWishRight", fn := fun _ => fun
  | [d] => { results := [.lit (.bool true)], args := [d] }
  | _ => none }
def fnExactWishRightRow : OpenClaim := { program := "ytfbbbnalbficbaa", sum := "f3147cf8bc6b014e8e5c98dfa5a8a2a786608324ddc07a6e643665169f31a782", func := "loop.example/g00658/laws.FnExactWishRight", spec := "fnExactWishRight", apart := false }
def FnExactWishRightSaid : Prop := fnExactWishRightRow.holds Try.pinned (OpenSpec.ofChange fnExactWishRightSpec)

/-- ITS FALSE NEIGHBOUR: 'it returns false'. Refute it at one input. -/
def fnExactWishRightWrong : ChangeSpec := { name := "fnExactWishRight", fn := fun _ => fun
  | [d] => { results := [.lit (.bool false)], args := [d] }
  | _ => none }
def FnExactWishRightWrongFalsely : Prop := fnExactWishRightRow.holds Try.pinned (OpenSpec.ofChange fnExactWishRightWrong)

/-- 'laws.FnExactNodesRight': WHATEVER THE INPUT: true; the input reads as it did. -/
def fnExactNodesRightSpec : ChangeSpec := { name := "fnExactNodesRight", fn := fun _ => fun
  | [d] => { results := [.lit (.bool true)], args := [d] }
  | _ => none }
def fnExactNodesRightRow : OpenClaim := { program := "ytfbbbnalbficbaa", sum := "f3147cf8bc6b014e8e5c98dfa5a8a2a786608324ddc07a6e643665169f31a782", func := "loop.example/g00658/laws.FnExactNodesRight", spec := "fnExactNodesRight", unfollowed := true, recurses := true, apart := false }
def FnExactNodesRightSaid : Prop := fnExactNodesRightRow.holds Try.pinned (OpenSpec.ofChange fnExactNodesRightSpec)

/-- ITS FALSE NEIGHBOUR: 'it returns false'. Refute it at one input. -/
def fnExactNodesRightWrong : ChangeSpec := { name := "fnExactNodesRight", fn := fun _ => fun
  | [d] => { results := [.lit (.bool false)], args := [d] }
  | _ => none }
def FnExactNodesRightWrongFalsely : Prop := fnExactNodesRightRow.holds Try.pinned (OpenSpec.ofChange fnExactNodesRightWrong)

/-- 'laws.FnExactNodesNew': WHATEVER THE INPUT: true; the input reads as it did. -/
def fnExactNodesNewSpec : ChangeSpec := { name := "fnExactNodesNew", fn := fun _ => fun
  | [d] => { results := [.lit (.bool true)], args := [d] }
  | _ => none }
def fnExactNodesNewRow : OpenClaim := { program := "ytfbbbnalbficbaa", sum := "f3147cf8bc6b014e8e5c98dfa5a8a2a786608324ddc07a6e643665169f31a782", func := "loop.example/g00658/laws.FnExactNodesNew", spec := "fnExactNodesNew", apart := false }
def FnExactNodesNewSaid : Prop := fnExactNodesNewRow.holds Try.pinned (OpenSpec.ofChange fnExactNodesNewSpec)

/-- ITS FALSE NEIGHBOUR: 'it returns false'. Refute it at one input. -/
def fnExactNodesNewWrong : ChangeSpec := { name := "fnExactNodesNew", fn := fun _ => fun
  | [d] => { results := [.lit (.bool false)], args := [d] }
  | _ => none }
def FnExactNodesNewWrongFalsely : Prop := fnExactNodesNewRow.holds Try.pinned (OpenSpec.ofChange fnExactNodesNewWrong)

/-- 'laws.FnExactUsesRight': WHATEVER THE INPUT: true; the input reads as it did. -/
def fnExactUsesRightSpec : ChangeSpec := { name := "fnExactUsesRight", fn := fun _ => fun
  | [d] => { results := [.lit (.bool true)], args := [d] }
  | _ => none }
def fnExactUsesRightRow : OpenClaim := { program := "ytfbbbnalbficbaa", sum := "f3147cf8bc6b014e8e5c98dfa5a8a2a786608324ddc07a6e643665169f31a782", func := "loop.example/g00658/laws.FnExactUsesRight", spec := "fnExactUsesRight", inPlace := ["internal/bytealg.abigen_runtime_cmpstring"], apart := false }
def FnExactUsesRightSaid : Prop := fnExactUsesRightRow.holds Try.pinned (OpenSpec.ofChange fnExactUsesRightSpec)

/-- ITS FALSE NEIGHBOUR: 'it returns false'. Refute it at one input. -/
def fnExactUsesRightWrong : ChangeSpec := { name := "fnExactUsesRight", fn := fun _ => fun
  | [d] => { results := [.lit (.bool false)], args := [d] }
  | _ => none }
def FnExactUsesRightWrongFalsely : Prop := fnExactUsesRightRow.holds Try.pinned (OpenSpec.ofChange fnExactUsesRightWrong)

/-- 'laws.FnExactTaskRight': WHATEVER THE INPUT: true; the input reads as it did. -/
def fnExactTaskRightSpec : ChangeSpec := { name := "fnExactTaskRight", fn := fun _ => fun
  | [d] => { results := [.lit (.bool true)], args := [d] }
  | _ => none }
def fnExactTaskRightRow : OpenClaim := { program := "ytfbbbnalbficbaa", sum := "f3147cf8bc6b014e8e5c98dfa5a8a2a786608324ddc07a6e643665169f31a782", func := "loop.example/g00658/laws.FnExactTaskRight", spec := "fnExactTaskRight", apart := false }
def FnExactTaskRightSaid : Prop := fnExactTaskRightRow.holds Try.pinned (OpenSpec.ofChange fnExactTaskRightSpec)

/-- ITS FALSE NEIGHBOUR: 'it returns false'. Refute it at one input. -/
def fnExactTaskRightWrong : ChangeSpec := { name := "fnExactTaskRight", fn := fun _ => fun
  | [d] => { results := [.lit (.bool false)], args := [d] }
  | _ => none }
def FnExactTaskRightWrongFalsely : Prop := fnExactTaskRightRow.holds Try.pinned (OpenSpec.ofChange fnExactTaskRightWrong)

/-- 'laws.FnExactUseOf': WHATEVER THE INPUT: true; the input reads as it did. -/
def fnExactUseOfSpec : ChangeSpec := { name := "fnExactUseOf", fn := fun _ => fun
  | [d1, d2, d3] => { results := [.lit (.bool true)], args := [d1, d2, d3] }
  | _ => none }
def fnExactUseOfRow : OpenClaim := { program := "ytfbbbnalbficbaa", sum := "f3147cf8bc6b014e8e5c98dfa5a8a2a786608324ddc07a6e643665169f31a782", func := "loop.example/g00658/laws.FnExactUseOf", spec := "fnExactUseOf", inPlace := ["internal/bytealg.abigen_runtime_cmpstring"], unfollowed := true, recurses := true, apart := false }
def FnExactUseOfSaid : Prop := fnExactUseOfRow.holds Try.pinned (OpenSpec.ofChange fnExactUseOfSpec)

/-- ITS FALSE NEIGHBOUR: 'it returns false'. Refute it at one input. -/
def fnExactUseOfWrong : ChangeSpec := { name := "fnExactUseOf", fn := fun _ => fun
  | [d1, d2, d3] => { results := [.lit (.bool false)], args := [d1, d2, d3] }
  | _ => none }
def FnExactUseOfWrongFalsely : Prop := fnExactUseOfRow.holds Try.pinned (OpenSpec.ofChange fnExactUseOfWrong)

/-- 'laws.FnExactRowsHard': WHATEVER THE INPUT: true; the input reads as it did. -/
def fnExactRowsHardSpec : ChangeSpec := { name := "fnExactRowsHard", fn := fun _ => fun
  | [d] => { results := [.lit (.bool true)], args := [d] }
  | _ => none }
def fnExactRowsHardRow : OpenClaim := { program := "ytfbbbnalbficbaa", sum := "f3147cf8bc6b014e8e5c98dfa5a8a2a786608324ddc07a6e643665169f31a782", func := "loop.example/g00658/laws.FnExactRowsHard", spec := "fnExactRowsHard", unfollowed := true, recurses := true, apart := false }
def FnExactRowsHardSaid : Prop := fnExactRowsHardRow.holds Try.pinned (OpenSpec.ofChange fnExactRowsHardSpec)

/-- ITS FALSE NEIGHBOUR: 'it returns false'. Refute it at one input. -/
def fnExactRowsHardWrong : ChangeSpec := { name := "fnExactRowsHard", fn := fun _ => fun
  | [d] => { results := [.lit (.bool false)], args := [d] }
  | _ => none }
def FnExactRowsHardWrongFalsely : Prop := fnExactRowsHardRow.holds Try.pinned (OpenSpec.ofChange fnExactRowsHardWrong)

/-- 'laws.FnExactRowsNew': WHATEVER THE INPUT: true; the input reads as it did. -/
def fnExactRowsNewSpec : ChangeSpec := { name := "fnExactRowsNew", fn := fun _ => fun
  | [d] => { results := [.lit (.bool true)], args := [d] }
  | _ => none }
def fnExactRowsNewRow : OpenClaim := { program := "ytfbbbnalbficbaa", sum := "f3147cf8bc6b014e8e5c98dfa5a8a2a786608324ddc07a6e643665169f31a782", func := "loop.example/g00658/laws.FnExactRowsNew", spec := "fnExactRowsNew", unfollowed := true, recurses := true, apart := false }
def FnExactRowsNewSaid : Prop := fnExactRowsNewRow.holds Try.pinned (OpenSpec.ofChange fnExactRowsNewSpec)

/-- ITS FALSE NEIGHBOUR: 'it returns false'. Refute it at one input. -/
def fnExactRowsNewWrong : ChangeSpec := { name := "fnExactRowsNew", fn := fun _ => fun
  | [d] => { results := [.lit (.bool false)], args := [d] }
  | _ => none }
def FnExactRowsNewWrongFalsely : Prop := fnExactRowsNewRow.holds Try.pinned (OpenSpec.ofChange fnExactRowsNewWrong)

/-- 'laws.FnExactBooksPass': WHATEVER THE INPUT: true; the input reads as it did. -/
def fnExactBooksPassSpec : ChangeSpec := { name := "fnExactBooksPass", fn := fun _ => fun
  | [d1, d2] => { results := [.lit (.bool true)], args := [d1, d2] }
  | _ => none }
def fnExactBooksPassRow : OpenClaim := { program := "ytfbbbnalbficbaa", sum := "f3147cf8bc6b014e8e5c98dfa5a8a2a786608324ddc07a6e643665169f31a782", func := "loop.example/g00658/laws.FnExactBooksPass", spec := "fnExactBooksPass", unfollowed := true, recurses := true, apart := false }
def FnExactBooksPassSaid : Prop := fnExactBooksPassRow.holds Try.pinned (OpenSpec.ofChange fnExactBooksPassSpec)

/-- ITS FALSE NEIGHBOUR: 'it returns false'. Refute it at one input. -/
def fnExactBooksPassWrong : ChangeSpec := { name := "fnExactBooksPass", fn := fun _ => fun
  | [d1, d2] => { results := [.lit (.bool false)], args := [d1, d2] }
  | _ => none }
def FnExactBooksPassWrongFalsely : Prop := fnExactBooksPassRow.holds Try.pinned (OpenSpec.ofChange fnExactBooksPassWrong)

/-- 'laws.FnExactTaskBytes': WHATEVER THE INPUT: true; the input reads as it did. -/
def fnExactTaskBytesSpec : ChangeSpec := { name := "fnExactTaskBytes", fn := fun _ => fun
  | [d] => { results := [.lit (.bool true)], args := [d] }
  | _ => none }
def fnExactTaskBytesRow : OpenClaim := { program := "ytfbbbnalbficbaa", sum := "f3147cf8bc6b014e8e5c98dfa5a8a2a786608324ddc07a6e643665169f31a782", func := "loop.example/g00658/laws.FnExactTaskBytes", spec := "fnExactTaskBytes", apart := false }
def FnExactTaskBytesSaid : Prop := fnExactTaskBytesRow.holds Try.pinned (OpenSpec.ofChange fnExactTaskBytesSpec)

/-- ITS FALSE NEIGHBOUR: 'it returns false'. Refute it at one input. -/
def fnExactTaskBytesWrong : ChangeSpec := { name := "fnExactTaskBytes", fn := fun _ => fun
  | [d] => { results := [.lit (.bool false)], args := [d] }
  | _ => none }
def FnExactTaskBytesWrongFalsely : Prop := fnExactTaskBytesRow.holds Try.pinned (OpenSpec.ofChange fnExactTaskBytesWrong)

/- THE SECOND FORM. 'bulk': how many values and letters a reading holds, each counted each time it is reached (what is shared counts as often as it is met; a slice's spare places count too). A statement '..UptoSaid' is the law's where the arguments, and the package variables that the reading takes, are together of bulk at most 1048576: NARROWER than '..Said'. Prove '..Said' where nothing that the law and all that it calls make is longer than what came in: it says more and counts as full. Else prove '..UptoSaid'. A law counts once. -/
mutual
def uptoBulk {H : Type} : DataW H → Nat
  | .lit (.string bytes) => bytes.length + 1
  | .lit _ => 1
  | .nil => 1
  | .ptr d => uptoBulk d + 1
  | .slice elems spare => uptoBulkAll elems + uptoBulkAll spare + 1
  | .agg parts => uptoBulkAll parts + 1
  | .iface _ d => uptoBulk d + 1
  | .map entries => uptoBulkEntries entries + 1
  | .held _ => 1
def uptoBulkAll {H : Type} : List (DataW H) → Nat
  | [] => 0
  | d :: r => uptoBulk d + uptoBulkAll r
def uptoBulkEntries {H : Type} : List (Lit × DataW H) → Nat
  | [] => 0
  | x :: r => uptoBulkEntry x + uptoBulkEntries r
def uptoBulkEntry {H : Type} : Lit × DataW H → Nat
  | (.string bytes, d) => bytes.length + uptoBulk d + 1
  | (_, d) => uptoBulk d + 1
 end
def uptoSmall : (H : Type) → List (DataW H) → Bool := fun _ ds => decide (uptoBulkAll ds ≤ 1048576)
def OpenSpec.upto (s : _root_.Go.ChangeSpec) : _root_.Go.OpenSpec := { _root_.Go.OpenSpec.ofChange s with cond := some uptoSmall }

/-- 'laws.FnExactRank', WHERE WHAT IT READS IS OF BULK AT MOST 1048576: true; the input reads as it did. -/
def fnExactRankUptoRow : OpenClaim := { program := "ytfbbbnalbficbaa", sum := "f3147cf8bc6b014e8e5c98dfa5a8a2a786608324ddc07a6e643665169f31a782", func := "loop.example/g00658/laws.FnExactRank", spec := "fnExactRank", apart := false, narrowed := true }
def FnExactRankUptoSaid : Prop := fnExactRankUptoRow.holds Try.pinned (OpenSpec.upto fnExactRankSpec)

/-- 'laws.FnRank', WHERE WHAT IT READS IS OF BULK AT MOST 1048576: true; the input reads as it did. -/
def fnRankUptoRow : OpenClaim := { program := "ytfbbbnalbficbaa", sum := "f3147cf8bc6b014e8e5c98dfa5a8a2a786608324ddc07a6e643665169f31a782", func := "loop.example/g00658/laws.FnRank", spec := "fnRank", apart := false, narrowed := true }
def FnRankUptoSaid : Prop := fnRankUptoRow.holds Try.pinned (OpenSpec.upto fnRankSpec)

/-- 'laws.FnExactWishRight', WHERE WHAT IT READS IS OF BULK AT MOST 1048576: true; the input reads as it did. -/
def fnExactWishRightUptoRow : OpenClaim := { program := "ytfbbbnalbficbaa", sum := "f3147cf8bc6b014e8e5c98dfa5a8a2a786608324ddc07a6e643665169f31a782", func := "loop.example/g00658/laws.FnExactWishRight", spec := "fnExactWishRight", apart := false, narrowed := true }
def FnExactWishRightUptoSaid : Prop := fnExactWishRightUptoRow.holds Try.pinned (OpenSpec.upto fnExactWishRightSpec)

/-- 'laws.FnExactNodesRight', WHERE WHAT IT READS IS OF BULK AT MOST 1048576: true; the input reads as it did. -/
def fnExactNodesRightUptoRow : OpenClaim := { program := "ytfbbbnalbficbaa", sum := "f3147cf8bc6b014e8e5c98dfa5a8a2a786608324ddc07a6e643665169f31a782", func := "loop.example/g00658/laws.FnExactNodesRight", spec := "fnExactNodesRight", unfollowed := true, recurses := true, apart := false, narrowed := true }
def FnExactNodesRightUptoSaid : Prop := fnExactNodesRightUptoRow.holds Try.pinned (OpenSpec.upto fnExactNodesRightSpec)

/-- 'laws.FnExactNodesNew', WHERE WHAT IT READS IS OF BULK AT MOST 1048576: true; the input reads as it did. -/
def fnExactNodesNewUptoRow : OpenClaim := { program := "ytfbbbnalbficbaa", sum := "f3147cf8bc6b014e8e5c98dfa5a8a2a786608324ddc07a6e643665169f31a782", func := "loop.example/g00658/laws.FnExactNodesNew", spec := "fnExactNodesNew", apart := false, narrowed := true }
def FnExactNodesNewUptoSaid : Prop := fnExactNodesNewUptoRow.holds Try.pinned (OpenSpec.upto fnExactNodesNewSpec)

/-- 'laws.FnExactUsesRight', WHERE WHAT IT READS IS OF BULK AT MOST 1048576: true; the input reads as it did. -/
def fnExactUsesRightUptoRow : OpenClaim := { program := "ytfbbbnalbficbaa", sum := "f3147cf8bc6b014e8e5c98dfa5a8a2a786608324ddc07a6e643665169f31a782", func := "loop.example/g00658/laws.FnExactUsesRight", spec := "fnExactUsesRight", inPlace := ["internal/bytealg.abigen_runtime_cmpstring"], apart := false, narrowed := true }
def FnExactUsesRightUptoSaid : Prop := fnExactUsesRightUptoRow.holds Try.pinned (OpenSpec.upto fnExactUsesRightSpec)

/-- 'laws.FnExactTaskRight', WHERE WHAT IT READS IS OF BULK AT MOST 1048576: true; the input reads as it did. -/
def fnExactTaskRightUptoRow : OpenClaim := { program := "ytfbbbnalbficbaa", sum := "f3147cf8bc6b014e8e5c98dfa5a8a2a786608324ddc07a6e643665169f31a782", func := "loop.example/g00658/laws.FnExactTaskRight", spec := "fnExactTaskRight", apart := false, narrowed := true }
def FnExactTaskRightUptoSaid : Prop := fnExactTaskRightUptoRow.holds Try.pinned (OpenSpec.upto fnExactTaskRightSpec)

/-- 'laws.FnExactUseOf', WHERE WHAT IT READS IS OF BULK AT MOST 1048576: true; the input reads as it did. -/
def fnExactUseOfUptoRow : OpenClaim := { program := "ytfbbbnalbficbaa", sum := "f3147cf8bc6b014e8e5c98dfa5a8a2a786608324ddc07a6e643665169f31a782", func := "loop.example/g00658/laws.FnExactUseOf", spec := "fnExactUseOf", inPlace := ["internal/bytealg.abigen_runtime_cmpstring"], unfollowed := true, recurses := true, apart := false, narrowed := true }
def FnExactUseOfUptoSaid : Prop := fnExactUseOfUptoRow.holds Try.pinned (OpenSpec.upto fnExactUseOfSpec)

/-- 'laws.FnExactRowsHard', WHERE WHAT IT READS IS OF BULK AT MOST 1048576: true; the input reads as it did. -/
def fnExactRowsHardUptoRow : OpenClaim := { program := "ytfbbbnalbficbaa", sum := "f3147cf8bc6b014e8e5c98dfa5a8a2a786608324ddc07a6e643665169f31a782", func := "loop.example/g00658/laws.FnExactRowsHard", spec := "fnExactRowsHard", unfollowed := true, recurses := true, apart := false, narrowed := true }
def FnExactRowsHardUptoSaid : Prop := fnExactRowsHardUptoRow.holds Try.pinned (OpenSpec.upto fnExactRowsHardSpec)

/-- 'laws.FnExactRowsNew', WHERE WHAT IT READS IS OF BULK AT MOST 1048576: true; the input reads as it did. -/
def fnExactRowsNewUptoRow : OpenClaim := { program := "ytfbbbnalbficbaa", sum := "f3147cf8bc6b014e8e5c98dfa5a8a2a786608324ddc07a6e643665169f31a782", func := "loop.example/g00658/laws.FnExactRowsNew", spec := "fnExactRowsNew", unfollowed := true, recurses := true, apart := false, narrowed := true }
def FnExactRowsNewUptoSaid : Prop := fnExactRowsNewUptoRow.holds Try.pinned (OpenSpec.upto fnExactRowsNewSpec)

/-- 'laws.FnExactBooksPass', WHERE WHAT IT READS IS OF BULK AT MOST 1048576: true; the input reads as it did. -/
def fnExactBooksPassUptoRow : OpenClaim := { program := "ytfbbbnalbficbaa", sum := "f3147cf8bc6b014e8e5c98dfa5a8a2a786608324ddc07a6e643665169f31a782", func := "loop.example/g00658/laws.FnExactBooksPass", spec := "fnExactBooksPass", unfollowed := true, recurses := true, apart := false, narrowed := true }
def FnExactBooksPassUptoSaid : Prop := fnExactBooksPassUptoRow.holds Try.pinned (OpenSpec.upto fnExactBooksPassSpec)

/-- 'laws.FnExactTaskBytes', WHERE WHAT IT READS IS OF BULK AT MOST 1048576: true; the input reads as it did. -/
def fnExactTaskBytesUptoRow : OpenClaim := { program := "ytfbbbnalbficbaa", sum := "f3147cf8bc6b014e8e5c98dfa5a8a2a786608324ddc07a6e643665169f31a782", func := "loop.example/g00658/laws.FnExactTaskBytes", spec := "fnExactTaskBytes", apart := false, narrowed := true }
def FnExactTaskBytesUptoSaid : Prop := fnExactTaskBytesUptoRow.holds Try.pinned (OpenSpec.upto fnExactTaskBytesSpec)

end Rows
end Go.Proofs.Ytfbbbnalbficbaa
