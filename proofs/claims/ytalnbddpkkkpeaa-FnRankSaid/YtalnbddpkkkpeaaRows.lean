/-
  No cell of these rows narrows 'for every input' (looked for: loops, veiled, ifaces, maps, wideKeys, modest, calm, conditions, laid).
  DERIVED. THE GIVEN ROWS OF THIS SEAT. 14 by the template 'for every input the law returns true; each argument reads behind the call as it read before'; 0 by the template 'total and deterministic' (their statements: YtalnbddpkkkpeaaTotals.lean).
  GIVEN WITH THE SEED: the statements are not yours to turn. If you find one false, say at which input.
  Laid BY PROGRAM, IN A SANDBOX (cutbox-rows.mjs): the forced cells as the released guide's own fill.sh prints them over the translation 666f55fee073eeeb… (all of the seat's roots in one cut). By AI agents, Wed Nov 11 2026. No macro, syntax, notation, axiom, sorry.
-/
import Derived.Test.YtalnbddpkkkpeaaChecked
import GoSem.Claim
import GoSem.ClaimJoined
import GoSem.ClaimMapViews
import Derived.JoinedTies
import Derived.KernelRfl
namespace Go.Proofs.Ytalnbddpkkkpeaa
/- THE CELL 'sum', in the pinned program and in every row, IS THE sha256 OF THE DUMP (.gsa) THAT YtalnbddpkkkpeaaProg.lean LOADS. Nothing in Lean hashes anything: it is a label: what it is worth is what the hold of that sum in a sandbox is worth. -/
noncomputable def Try.pinned : Pinned := { name := "ytalnbddpkkkpeaa", sum := "666f55fee073eeeb58e3d1ab19be9529a9f50b49f15bdf7000644925a6c60138", checked := Try.checked }
namespace Rows
def none {H : Type} : Left H := { results := [], args := [] }

/-- 'laws.FnExactNodesNew': WHATEVER THE INPUT: true; the input reads as it did. -/
def fnExactNodesNewSpec : ChangeSpec := { name := "fnExactNodesNew", fn := fun _ => fun
  | [d] => { results := [.lit (.bool true)], args := [d] }
  | _ => none }
def fnExactNodesNewRow : OpenClaim := { program := "ytalnbddpkkkpeaa", sum := "666f55fee073eeeb58e3d1ab19be9529a9f50b49f15bdf7000644925a6c60138", func := "loop.example/g00658/laws.FnExactNodesNew", spec := "fnExactNodesNew", apart := false }
def FnExactNodesNewSaid : Prop := fnExactNodesNewRow.holds Try.pinned (OpenSpec.ofChange fnExactNodesNewSpec)

/-- ITS FALSE NEIGHBOUR: 'it returns false'. Refute it at one input. -/
def fnExactNodesNewWrong : ChangeSpec := { name := "fnExactNodesNew", fn := fun _ => fun
  | [d] => { results := [.lit (.bool false)], args := [d] }
  | _ => none }
def FnExactNodesNewWrongFalsely : Prop := fnExactNodesNewRow.holds Try.pinned (OpenSpec.ofChange fnExactNodesNewWrong)

/-- 'laws.FnExactRowsHard': WHATEVER THE INPUT: true; the input reads as it did. -/
def fnExactRowsHardSpec : ChangeSpec := { name := "fnExactRowsHard", fn := fun _ => fun
  | [d] => { results := [.lit (.bool true)], args := [d] }
  | _ => none }
def fnExactRowsHardRow : OpenClaim := { program := "ytalnbddpkkkpeaa", sum := "666f55fee073eeeb58e3d1ab19be9529a9f50b49f15bdf7000644925a6c60138", func := "loop.example/g00658/laws.FnExactRowsHard", spec := "fnExactRowsHard", unfollowed := true, recurses := true, apart := false }
def FnExactRowsHardSaid : Prop := fnExactRowsHardRow.holds Try.pinned (OpenSpec.ofChange fnExactRowsHardSpec)

/-- ITS FALSE NEIGHBOUR: 'it returns false'. Refute it at one input. -/
def fnExactRowsHardWrong : ChangeSpec := { name := "fnExactRowsHard", fn := fun _ => fun
  | [d] => { results := [.lit (.bool false)], args := [d] }
  | _ => none }
def FnExactRowsHardWrongFalsely : Prop := fnExactRowsHardRow.holds Try.pinned (OpenSpec.ofChange fnExactRowsHardWrong)

/-- 'laws.FnExactRowsNew': WHATEVER THE INPUT: true; the input reads as it did. -/
def fnExactRowsNewSpec : ChangeSpec := { name := "fnExactRowsNew", fn := fun _ => fun
  | [d] => { results := [.lit (.bool true)], args := [d] }
  | _ => none }
def fnExactRowsNewRow : OpenClaim := { program := "ytalnbddpkkkpeaa", sum := "666f55fee073eeeb58e3d1ab19be9529a9f50b49f15bdf7000644925a6c60138", func := "loop.example/g00658/laws.FnExactRowsNew", spec := "fnExactRowsNew", unfollowed := true, recurses := true, apart := false }
def FnExactRowsNewSaid : Prop := fnExactRowsNewRow.holds Try.pinned (OpenSpec.ofChange fnExactRowsNewSpec)

/-- ITS FALSE NEIGHBOUR: 'it returns false'. Refute it at one input. -/
def fnExactRowsNewWrong : ChangeSpec := { name := "fnExactRowsNew", fn := fun _ => fun
  | [d] => { results := [.lit (.bool false)], args := [d] }
  | _ => none }
def FnExactRowsNewWrongFalsely : Prop := fnExactRowsNewRow.holds Try.pinned (OpenSpec.ofChange fnExactRowsNewWrong)

/-- 'laws.FnExactBooksPass': WHATEVER THE INPUT: true; the input reads as it did. -/
def fnExactBooksPassSpec : ChangeSpec := { name := "fnExactBooksPass", fn := fun _ => fun
  | [d1, d2] => { results := [.lit (.bool true)], args := [d1, d2] }
  | _ => none }
def fnExactBooksPassRow : OpenClaim := { program := "ytalnbddpkkkpeaa", sum := "666f55fee073eeeb58e3d1ab19be9529a9f50b49f15bdf7000644925a6c60138", func := "loop.example/g00658/laws.FnExactBooksPass", spec := "fnExactBooksPass", unfollowed := true, recurses := true, apart := false }
def FnExactBooksPassSaid : Prop := fnExactBooksPassRow.holds Try.pinned (OpenSpec.ofChange fnExactBooksPassSpec)

/-- ITS FALSE NEIGHBOUR: 'it returns false'. Refute it at one input. -/
def fnExactBooksPassWrong : ChangeSpec := { name := "fnExactBooksPass", fn := fun _ => fun
  | [d1, d2] => { results := [.lit (.bool false)], args := [d1, d2] }
  | _ => none }
def FnExactBooksPassWrongFalsely : Prop := fnExactBooksPassRow.holds Try.pinned (OpenSpec.ofChange fnExactBooksPassWrong)

/-- 'laws.FnExactTaskBytes': WHATEVER THE INPUT: true; the input reads as it did. -/
def fnExactTaskBytesSpec : ChangeSpec := { name := "fnExactTaskBytes", fn := fun _ => fun
  | [d] => { results := [.lit (.bool true)], args := [d] }
  | _ => none }
def fnExactTaskBytesRow : OpenClaim := { program := "ytalnbddpkkkpeaa", sum := "666f55fee073eeeb58e3d1ab19be9529a9f50b49f15bdf7000644925a6c60138", func := "loop.example/g00658/laws.FnExactTaskBytes", spec := "fnExactTaskBytes", apart := false }
def FnExactTaskBytesSaid : Prop := fnExactTaskBytesRow.holds Try.pinned (OpenSpec.ofChange fnExactTaskBytesSpec)

/-- ITS FALSE NEIGHBOUR: 'it returns false'. Refute it at one input. -/
def fnExactTaskBytesWrong : ChangeSpec := { name := "fnExactTaskBytes", fn := fun _ => fun
  | [d] => { results := [.lit (.bool false)], args := [d] }
  | _ => none }
def FnExactTaskBytesWrongFalsely : Prop := fnExactTaskBytesRow.holds Try.pinned (OpenSpec.ofChange fnExactTaskBytesWrong)

/-- 'laws.FnRank': WHATEVER THE INPUT: true; the input reads as it did. -/
def fnRankSpec : ChangeSpec := { name := "fnRank", fn := fun _ => fun
  | [d] => { results := [.lit (.bool true)], args := [d] }
  | _ => none }
def fnRankRow : OpenClaim := { program := "ytalnbddpkkkpeaa", sum := "666f55fee073eeeb58e3d1ab19be9529a9f50b49f15bdf7000644925a6c60138", func := "loop.example/g00658/laws.FnRank", spec := "fnRank", apart := false }
def FnRankSaid : Prop := fnRankRow.holds Try.pinned (OpenSpec.ofChange fnRankSpec)

/-- ITS FALSE NEIGHBOUR: 'it returns false'. Refute it at one input. -/
def fnRankWrong : ChangeSpec := { name := "fnRank", fn := fun _ => fun
  | [d] => { results := [.lit (.bool false)], args := [d] }
  | _ => none }
def FnRankWrongFalsely : Prop := fnRankRow.holds Try.pinned (OpenSpec.ofChange fnRankWrong)

/-- 'laws.FnExactTaskOf': WHATEVER THE INPUT: true; the input reads as it did. -/
def fnExactTaskOfSpec : ChangeSpec := { name := "fnExactTaskOf", fn := fun _ => fun
  | [d1, d2, d3] => { results := [.lit (.bool true)], args := [d1, d2, d3] }
  | _ => none }
def fnExactTaskOfRow : OpenClaim := { program := "ytalnbddpkkkpeaa", sum := "666f55fee073eeeb58e3d1ab19be9529a9f50b49f15bdf7000644925a6c60138", func := "loop.example/g00658/laws.FnExactTaskOf", spec := "fnExactTaskOf", unfollowed := true, recurses := true, apart := false }
def FnExactTaskOfSaid : Prop := fnExactTaskOfRow.holds Try.pinned (OpenSpec.ofChange fnExactTaskOfSpec)

/-- ITS FALSE NEIGHBOUR: 'it returns false'. Refute it at one input. -/
def fnExactTaskOfWrong : ChangeSpec := { name := "fnExactTaskOf", fn := fun _ => fun
  | [d1, d2, d3] => { results := [.lit (.bool false)], args := [d1, d2, d3] }
  | _ => none }
def FnExactTaskOfWrongFalsely : Prop := fnExactTaskOfRow.holds Try.pinned (OpenSpec.ofChange fnExactTaskOfWrong)

/-- 'laws.FnExactOrphans': WHATEVER THE INPUT: true; the input reads as it did. -/
def fnExactOrphansSpec : ChangeSpec := { name := "fnExactOrphans", fn := fun _ => fun
  | [d] => { results := [.lit (.bool true)], args := [d] }
  | _ => none }
def fnExactOrphansRow : OpenClaim := { program := "ytalnbddpkkkpeaa", sum := "666f55fee073eeeb58e3d1ab19be9529a9f50b49f15bdf7000644925a6c60138", func := "loop.example/g00658/laws.FnExactOrphans", spec := "fnExactOrphans", unfollowed := true, recurses := true, apart := false }
def FnExactOrphansSaid : Prop := fnExactOrphansRow.holds Try.pinned (OpenSpec.ofChange fnExactOrphansSpec)

/-- ITS FALSE NEIGHBOUR: 'it returns false'. Refute it at one input. -/
def fnExactOrphansWrong : ChangeSpec := { name := "fnExactOrphans", fn := fun _ => fun
  | [d] => { results := [.lit (.bool false)], args := [d] }
  | _ => none }
def FnExactOrphansWrongFalsely : Prop := fnExactOrphansRow.holds Try.pinned (OpenSpec.ofChange fnExactOrphansWrong)

/-- 'laws.FnExactNodeSet': WHATEVER THE INPUT: true; the input reads as it did. -/
def fnExactNodeSetSpec : ChangeSpec := { name := "fnExactNodeSet", fn := fun _ => fun
  | [d1, d2, d3] => { results := [.lit (.bool true)], args := [d1, d2, d3] }
  | _ => none }
def fnExactNodeSetRow : OpenClaim := { program := "ytalnbddpkkkpeaa", sum := "666f55fee073eeeb58e3d1ab19be9529a9f50b49f15bdf7000644925a6c60138", func := "loop.example/g00658/laws.FnExactNodeSet", spec := "fnExactNodeSet", unfollowed := true, recurses := true, apart := false }
def FnExactNodeSetSaid : Prop := fnExactNodeSetRow.holds Try.pinned (OpenSpec.ofChange fnExactNodeSetSpec)

/-- ITS FALSE NEIGHBOUR: 'it returns false'. Refute it at one input. -/
def fnExactNodeSetWrong : ChangeSpec := { name := "fnExactNodeSet", fn := fun _ => fun
  | [d1, d2, d3] => { results := [.lit (.bool false)], args := [d1, d2, d3] }
  | _ => none }
def FnExactNodeSetWrongFalsely : Prop := fnExactNodeSetRow.holds Try.pinned (OpenSpec.ofChange fnExactNodeSetWrong)

/-- 'laws.FnExactBookCut': WHATEVER THE INPUT: true; the input reads as it did. -/
def fnExactBookCutSpec : ChangeSpec := { name := "fnExactBookCut", fn := fun _ => fun
  | [d1, d2, d3] => { results := [.lit (.bool true)], args := [d1, d2, d3] }
  | _ => none }
def fnExactBookCutRow : OpenClaim := { program := "ytalnbddpkkkpeaa", sum := "666f55fee073eeeb58e3d1ab19be9529a9f50b49f15bdf7000644925a6c60138", func := "loop.example/g00658/laws.FnExactBookCut", spec := "fnExactBookCut", unfollowed := true, recurses := true, apart := false }
def FnExactBookCutSaid : Prop := fnExactBookCutRow.holds Try.pinned (OpenSpec.ofChange fnExactBookCutSpec)

/-- ITS FALSE NEIGHBOUR: 'it returns false'. Refute it at one input. -/
def fnExactBookCutWrong : ChangeSpec := { name := "fnExactBookCut", fn := fun _ => fun
  | [d1, d2, d3] => { results := [.lit (.bool false)], args := [d1, d2, d3] }
  | _ => none }
def FnExactBookCutWrongFalsely : Prop := fnExactBookCutRow.holds Try.pinned (OpenSpec.ofChange fnExactBookCutWrong)

/-- 'laws.FnExactBookPut': WHATEVER THE INPUT: true; the input reads as it did. -/
def fnExactBookPutSpec : ChangeSpec := { name := "fnExactBookPut", fn := fun _ => fun
  | [d1, d2, d3, d4] => { results := [.lit (.bool true)], args := [d1, d2, d3, d4] }
  | _ => none }
def fnExactBookPutRow : OpenClaim := { program := "ytalnbddpkkkpeaa", sum := "666f55fee073eeeb58e3d1ab19be9529a9f50b49f15bdf7000644925a6c60138", func := "loop.example/g00658/laws.FnExactBookPut", spec := "fnExactBookPut", inPlace := ["slices.overlaps[loop.example/g00658/impl.Span]"], unfollowed := true, recurses := true, apart := false }
def FnExactBookPutSaid : Prop := fnExactBookPutRow.holds Try.pinned (OpenSpec.ofChange fnExactBookPutSpec)

/-- ITS FALSE NEIGHBOUR: 'it returns false'. Refute it at one input. -/
def fnExactBookPutWrong : ChangeSpec := { name := "fnExactBookPut", fn := fun _ => fun
  | [d1, d2, d3, d4] => { results := [.lit (.bool false)], args := [d1, d2, d3, d4] }
  | _ => none }
def FnExactBookPutWrongFalsely : Prop := fnExactBookPutRow.holds Try.pinned (OpenSpec.ofChange fnExactBookPutWrong)

/-- 'laws.FnExactTaskRead': WHATEVER THE INPUT: true; the input reads as it did. -/
def fnExactTaskReadSpec : ChangeSpec := { name := "fnExactTaskRead", fn := fun _ => fun
  | [d1, d2] => { results := [.lit (.bool true)], args := [d1, d2] }
  | _ => none }
def fnExactTaskReadRow : OpenClaim := { program := "ytalnbddpkkkpeaa", sum := "666f55fee073eeeb58e3d1ab19be9529a9f50b49f15bdf7000644925a6c60138", func := "loop.example/g00658/laws.FnExactTaskRead", spec := "fnExactTaskRead", apart := false }
def FnExactTaskReadSaid : Prop := fnExactTaskReadRow.holds Try.pinned (OpenSpec.ofChange fnExactTaskReadSpec)

/-- ITS FALSE NEIGHBOUR: 'it returns false'. Refute it at one input. -/
def fnExactTaskReadWrong : ChangeSpec := { name := "fnExactTaskRead", fn := fun _ => fun
  | [d1, d2] => { results := [.lit (.bool false)], args := [d1, d2] }
  | _ => none }
def FnExactTaskReadWrongFalsely : Prop := fnExactTaskReadRow.holds Try.pinned (OpenSpec.ofChange fnExactTaskReadWrong)

/-- 'laws.FnExactUseAdd': WHATEVER THE INPUT: true; the input reads as it did. -/
def fnExactUseAddSpec : ChangeSpec := { name := "fnExactUseAdd", fn := fun _ => fun
  | [d1, d2, d3, d4] => { results := [.lit (.bool true)], args := [d1, d2, d3, d4] }
  | _ => none }
def fnExactUseAddRow : OpenClaim := { program := "ytalnbddpkkkpeaa", sum := "666f55fee073eeeb58e3d1ab19be9529a9f50b49f15bdf7000644925a6c60138", func := "loop.example/g00658/laws.FnExactUseAdd", spec := "fnExactUseAdd", inPlace := ["internal/bytealg.abigen_runtime_cmpstring"], unfollowed := true, recurses := true, apart := false }
def FnExactUseAddSaid : Prop := fnExactUseAddRow.holds Try.pinned (OpenSpec.ofChange fnExactUseAddSpec)

/-- ITS FALSE NEIGHBOUR: 'it returns false'. Refute it at one input. -/
def fnExactUseAddWrong : ChangeSpec := { name := "fnExactUseAdd", fn := fun _ => fun
  | [d1, d2, d3, d4] => { results := [.lit (.bool false)], args := [d1, d2, d3, d4] }
  | _ => none }
def FnExactUseAddWrongFalsely : Prop := fnExactUseAddRow.holds Try.pinned (OpenSpec.ofChange fnExactUseAddWrong)

/-- 'laws.FnExactClearFor': WHATEVER THE INPUT: true; the input reads as it did. -/
def fnExactClearForSpec : ChangeSpec := { name := "fnExactClearFor", fn := fun _ => fun
  | [d1, d2] => { results := [.lit (.bool true)], args := [d1, d2] }
  | _ => none }
def fnExactClearForRow : OpenClaim := { program := "ytalnbddpkkkpeaa", sum := "666f55fee073eeeb58e3d1ab19be9529a9f50b49f15bdf7000644925a6c60138", func := "loop.example/g00658/laws.FnExactClearFor", spec := "fnExactClearFor", unfollowed := true, recurses := true, apart := false }
def FnExactClearForSaid : Prop := fnExactClearForRow.holds Try.pinned (OpenSpec.ofChange fnExactClearForSpec)

/-- ITS FALSE NEIGHBOUR: 'it returns false'. Refute it at one input. -/
def fnExactClearForWrong : ChangeSpec := { name := "fnExactClearFor", fn := fun _ => fun
  | [d1, d2] => { results := [.lit (.bool false)], args := [d1, d2] }
  | _ => none }
def FnExactClearForWrongFalsely : Prop := fnExactClearForRow.holds Try.pinned (OpenSpec.ofChange fnExactClearForWrong)

/- THE SECOND FORM. 'bulk': how many values and letters a reading holds, each counted each time it is reached (what is shared counts as often as it is met; a slice's spare places count too). A statement '..UptoSaid' is the law's where the arguments, and the package variables that the reading takes, are together of bulk at most 1048576: NARROWER than '..Said'. Prove '..Said' where nothing that the law and all that it calls make is longer than what came in: it says more and counts as full. Else prove '..UptoSaid'. A law counts once. -/
mutual
def uptoBulk {H : Type} : DataW H → Nat
  | .lit (.string bytes) => bytes.length + 1
  | .lit _ => 1
  | .nil => 1
  | .ptr d => uptoBulk d + 1
  | .slice elems spare => uptoBulkAll elems + uptoBulkAll spare + 1
  | .agg parts => uptoBulkAll parts + 1
  | .iface _ d => uptoBulk d + 1
  | .map entries => uptoBulkEntries entries + 1
  | .held _ => 1
def uptoBulkAll {H : Type} : List (DataW H) → Nat
  | [] => 0
  | d :: r => uptoBulk d + uptoBulkAll r
def uptoBulkEntries {H : Type} : List (Lit × DataW H) → Nat
  | [] => 0
  | x :: r => uptoBulkEntry x + uptoBulkEntries r
def uptoBulkEntry {H : Type} : Lit × DataW H → Nat
  | (.string bytes, d) => bytes.length + uptoBulk d + 1
  | (_, d) => uptoBulk d + 1
 end
def uptoSmall : (H : Type) → List (DataW H) → Bool := fun _ ds => decide (uptoBulkAll ds ≤ 1048576)
def OpenSpec.upto (s : _root_.Go.ChangeSpec) : _root_.Go.OpenSpec := { _root_.Go.OpenSpec.ofChange s with cond := some uptoSmall }

/-- 'laws.FnExactNodesNew', WHERE WHAT IT READS IS OF BULK AT MOST 1048576: true; the input reads as it did. -/
def fnExactNodesNewUptoRow : OpenClaim := { program := "ytalnbddpkkkpeaa", sum := "666f55fee073eeeb58e3d1ab19be9529a9f50b49f15bdf7000644925a6c60138", func := "loop.example/g00658/laws.FnExactNodesNew", spec := "fnExactNodesNew", apart := false, narrowed := true }
def FnExactNodesNewUptoSaid : Prop := fnExactNodesNewUptoRow.holds Try.pinned (OpenSpec.upto fnExactNodesNewSpec)

/-- 'laws.FnExactRowsHard', WHERE WHAT IT READS IS OF BULK AT MOST 1048576: true; the input reads as it did. -/
def fnExactRowsHardUptoRow : OpenClaim := { program := "ytalnbddpkkkpeaa", sum := "666f55fee073eeeb58e3d1ab19be9529a9f50b49f15bdf7000644925a6c60138", func := "loop.example/g00658/laws.FnExactRowsHard", spec := "fnExactRowsHard", unfollowed := true, recurses := true, apart := false, narrowed := true }
def FnExactRowsHardUptoSaid : Prop := fnExactRowsHardUptoRow.holds Try.pinned (OpenSpec.upto fnExactRowsHardSpec)

/-- 'laws.FnExactRowsNew', WHERE WHAT IT READS IS OF BULK AT MOST 1048576: true; the input reads as it did. -/
def fnExactRowsNewUptoRow : OpenClaim := { program := "ytalnbddpkkkpeaa", sum := "666f55fee073eeeb58e3d1ab19be9529a9f50b49f15bdf7000644925a6c60138", func := "loop.example/g00658/laws.FnExactRowsNew", spec := "fnExactRowsNew", unfollowed := true, recurses := true, apart := false, narrowed := true }
def FnExactRowsNewUptoSaid : Prop := fnExactRowsNewUptoRow.holds Try.pinned (OpenSpec.upto fnExactRowsNewSpec)

/-- 'laws.FnExactBooksPass', WHERE WHAT IT READS IS OF BULK AT MOST 1048576: true; the input reads as it did. -/
def fnExactBooksPassUptoRow : OpenClaim := { program := "ytalnbddpkkkpeaa", sum := "666f55fee073eeeb58e3d1ab19be9529a9f50b49f15bdf7000644925a6c60138", func := "loop.example/g00658/laws.FnExactBooksPass", spec := "fnExactBooksPass", unfollowed := true, recurses := true, apart := false, narrowed := true }
def FnExactBooksPassUptoSaid : Prop := fnExactBooksPassUptoRow.holds Try.pinned (OpenSpec.upto fnExactBooksPassSpec)

/-- 'laws.FnExactTaskBytes', WHERE WHAT IT READS IS OF BULK AT MOST 1048576: true; the input reads as it did. -/
def fnExactTaskBytesUptoRow : OpenClaim := { program := "ytalnbddpkkkpeaa", sum := "666f55fee073eeeb58e3d1ab19be9529a9f50b49f15bdf7000644925a6c60138", func := "loop.example/g00658/laws.FnExactTaskBytes", spec := "fnExactTaskBytes", apart := false, narrowed := true }
def FnExactTaskBytesUptoSaid : Prop := fnExactTaskBytesUptoRow.holds Try.pinned (OpenSpec.upto fnExactTaskBytesSpec)

/-- 'laws.FnRank', WHERE WHAT IT READS IS OF BULK AT MOST 1048576: true; the input reads as it did. -/
def fnRankUptoRow : OpenClaim := { program := "ytalnbddpkkkpeaa", sum := "666f55fee073eeeb58e3d1ab19be9529a9f50b49f15bdf7000644925a6c60138", func := "loop.example/g00658/laws.FnRank", spec := "fnRank", apart := false, narrowed := true }
def FnRankUptoSaid : Prop := fnRankUptoRow.holds Try.pinned (OpenSpec.upto fnRankSpec)

/-- 'laws.FnExactTaskOf', WHERE WHAT IT READS IS OF BULK AT MOST 1048576: true; the input reads as it did. -/
def fnExactTaskOfUptoRow : OpenClaim := { program := "ytalnbddpkkkpeaa", sum := "666f55fee073eeeb58e3d1ab19be9529a9f50b49f15bdf7000644925a6c60138", func := "loop.example/g00658/laws.FnExactTaskOf", spec := "fnExactTaskOf", unfollowed := true, recurses := true, apart := false, narrowed := true }
def FnExactTaskOfUptoSaid : Prop := fnExactTaskOfUptoRow.holds Try.pinned (OpenSpec.upto fnExactTaskOfSpec)

/-- 'laws.FnExactOrphans', WHERE WHAT IT READS IS OF BULK AT MOST 1048576: true; the input reads as it did. -/
def fnExactOrphansUptoRow : OpenClaim := { program := "ytalnbddpkkkpeaa", sum := "666f55fee073eeeb58e3d1ab19be9529a9f50b49f15bdf7000644925a6c60138", func := "loop.example/g00658/laws.FnExactOrphans", spec := "fnExactOrphans", unfollowed := true, recurses := true, apart := false, narrowed := true }
def FnExactOrphansUptoSaid : Prop := fnExactOrphansUptoRow.holds Try.pinned (OpenSpec.upto fnExactOrphansSpec)

/-- 'laws.FnExactNodeSet', WHERE WHAT IT READS IS OF BULK AT MOST 1048576: true; the input reads as it did. -/
def fnExactNodeSetUptoRow : OpenClaim := { program := "ytalnbddpkkkpeaa", sum := "666f55fee073eeeb58e3d1ab19be9529a9f50b49f15bdf7000644925a6c60138", func := "loop.example/g00658/laws.FnExactNodeSet", spec := "fnExactNodeSet", unfollowed := true, recurses := true, apart := false, narrowed := true }
def FnExactNodeSetUptoSaid : Prop := fnExactNodeSetUptoRow.holds Try.pinned (OpenSpec.upto fnExactNodeSetSpec)

/-- 'laws.FnExactBookCut', WHERE WHAT IT READS IS OF BULK AT MOST 1048576: true; the input reads as it did. -/
def fnExactBookCutUptoRow : OpenClaim := { program := "ytalnbddpkkkpeaa", sum := "666f55fee073eeeb58e3d1ab19be9529a9f50b49f15bdf7000644925a6c60138", func := "loop.example/g00658/laws.FnExactBookCut", spec := "fnExactBookCut", unfollowed := true, recurses := true, apart := false, narrowed := true }
def FnExactBookCutUptoSaid : Prop := fnExactBookCutUptoRow.holds Try.pinned (OpenSpec.upto fnExactBookCutSpec)

/-- 'laws.FnExactBookPut', WHERE WHAT IT READS IS OF BULK AT MOST 1048576: true; the input reads as it did. -/
def fnExactBookPutUptoRow : OpenClaim := { program := "ytalnbddpkkkpeaa", sum := "666f55fee073eeeb58e3d1ab19be9529a9f50b49f15bdf7000644925a6c60138", func := "loop.example/g00658/laws.FnExactBookPut", spec := "fnExactBookPut", inPlace := ["slices.overlaps[loop.example/g00658/impl.Span]"], unfollowed := true, recurses := true, apart := false, narrowed := true }
def FnExactBookPutUptoSaid : Prop := fnExactBookPutUptoRow.holds Try.pinned (OpenSpec.upto fnExactBookPutSpec)

/-- 'laws.FnExactTaskRead', WHERE WHAT IT READS IS OF BULK AT MOST 1048576: true; the input reads as it did. -/
def fnExactTaskReadUptoRow : OpenClaim := { program := "ytalnbddpkkkpeaa", sum := "666f55fee073eeeb58e3d1ab19be9529a9f50b49f15bdf7000644925a6c60138", func := "loop.example/g00658/laws.FnExactTaskRead", spec := "fnExactTaskRead", apart := false, narrowed := true }
def FnExactTaskReadUptoSaid : Prop := fnExactTaskReadUptoRow.holds Try.pinned (OpenSpec.upto fnExactTaskReadSpec)

/-- 'laws.FnExactUseAdd', WHERE WHAT IT READS IS OF BULK AT MOST 1048576: true; the input reads as it did. -/
def fnExactUseAddUptoRow : OpenClaim := { program := "ytalnbddpkkkpeaa", sum := "666f55fee073eeeb58e3d1ab19be9529a9f50b49f15bdf7000644925a6c60138", func := "loop.example/g00658/laws.FnExactUseAdd", spec := "fnExactUseAdd", inPlace := ["internal/bytealg.abigen_runtime_cmpstring"], unfollowed := true, recurses := true, apart := false, narrowed := true }
def FnExactUseAddUptoSaid : Prop := fnExactUseAddUptoRow.holds Try.pinned (OpenSpec.upto fnExactUseAddSpec)

/-- 'laws.FnExactClearFor', WHERE WHAT IT READS IS OF BULK AT MOST 1048576: true; the input reads as it did. -/
def fnExactClearForUptoRow : OpenClaim := { program := "ytalnbddpkkkpeaa", sum := "666f55fee073eeeb58e3d1ab19be9529a9f50b49f15bdf7000644925a6c60138", func := "loop.example/g00658/laws.FnExactClearFor", spec := "fnExactClearFor", unfollowed := true, recurses := true, apart := false, narrowed := true }
def FnExactClearForUptoSaid : Prop := fnExactClearForUptoRow.holds Try.pinned (OpenSpec.upto fnExactClearForSpec)

end Rows
end Go.Proofs.Ytalnbddpkkkpeaa
