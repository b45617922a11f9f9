/- The text that stands for a number. The walk of markText. Data that bear numbers in a row. Printed by wip/gen2.py. The walks of mark... Printed by wip/gen2.py. The walks of held... Printed by wip/gen2.py. The walk of mark.. for uses. Printed by wip/gen2.py. The walk of held.. for uses. Printed by wip/gen2.py. The walk of mark.. for tasks. Printed by wip/gen2.py. The walk of held.. for tasks. Printed by wip/gen2.py. The walk of markConfig; a struct in memory of its own when memory grows. The walks of mark.. and held.. at structs that lead to one row. Printed by wip/gen2.py. The generated words of types that are new with this seat. Printed by wip/genx.py. What a configuration, a yard, a yard's result lead to is marked, and the marks are held. Printed by wip/yardm.py. How many numbers small data take. -/
import Derived.Test.YtbdicafambkhdaaOwn
import Derived.Test.YtbdicafambkhdaaRows
import Derived.Laws.IdiomStrings
import Derived.Laws.BytesArg
import Derived.Test.YtbdicafambkhdaaOwn2
import Derived.Test.YtbdicafambkhdaaClones
import Derived.Test.YtbdicafambkhdaaGElems
import Derived.Test.YtbdicafambkhdaaGSmall
import Derived.Test.YtbdicafambkhdaaGYardT
namespace Go.Proofs.Ytbdicafambkhdaa
/-- The decimal digits of a number; of 0: none. -/
def digs (n : Nat) : List UInt8 := if _h : n = 0 then [] else digs (n / 10) ++ [UInt8.ofNat (48 + n % 10)]
termination_by n
decreasing_by omega
theorem digs_zero : digs 0 = [] := by rw [digs]; simp
theorem digs_pos {n : Nat} (h : 0 < n) : digs n = digs (n / 10) ++ [UInt8.ofNat (48 + n % 10)] := by rw [digs, dif_neg (by omega)]
theorem digs_length (n : Nat) : (digs n).length ≤ n := by
  induction n using Nat.strongRecOn with
  | _ n ih =>
    rcases Nat.eq_zero_or_pos n with rfl | h
    · rw [digs_zero]; simp
    · have := ih (n / 10) (by omega)
      rw [digs_pos h, List.length_append, List.length_singleton]
      omega
def mtext (q : Int) : ByteArray := ⟨(109 :: (if q ≤ 0 then [48] else digs q.toNat)).toArray⟩
theorem mtext_str (q : Int) (h : q ≤ 1125899906842624) : Str (mtext q) := by
  have h1 : (mtext q).size = (109 :: (if q ≤ 0 then [48] else digs q.toNat)).length := rfl
  unfold Str maxLen
  rw [h1]
  split
  · simp
  · have := digs_length q.toNat
    simp only [List.length_cons]
    omega
end Go.Proofs.Ytbdicafambkhdaa

namespace Go.Proofs.Ytbdicafambkhdaa
open Go.RowKit
attribute [local irreducible] wpQuiet
theorem append_bytes (a b : List UInt8) : (⟨a.toArray⟩ : ByteArray) ++ ⟨b.toArray⟩ = ⟨(a ++ b).toArray⟩ := by
  apply ByteArray.ext
  simp
theorem num_bytes (x : Nat) (b : List UInt8) : strOfNums [(48 : Int) + (x : Int) % 10] ++ ⟨b.toArray⟩ = ⟨(UInt8.ofNat (48 + x % 10) :: b).toArray⟩ := by
  have h : strOfNums [(48 : Int) + (x : Int) % 10] = ⟨[UInt8.ofNat (48 + x % 10)].toArray⟩ := by
    unfold strOfNums
    have e : ((48 : Int) + (x : Int) % 10).toNat = 48 + x % 10 := by omega
    simp [e]
  rw [h, append_bytes]
  rfl
theorem conv_one (W : World) (x : Int) : (convert 22 9 (.slice (some ⟨W.heap.size, 0, none⟩) 1 1)).run Try.prog (W.alloc (.cells #[.int .u8 x] 5)) = .ok (.string (strOfNums [x])) (W.alloc (.cells #[.int .u8 x] 5)) :=
  run_convert_bytes_arg _ 22 5 Try.underlying22 Try.underlying5 W.heap.size 0 1 1 [x] rfl (fun i hi => by
    obtain rfl : i = 0 := by omega
    rw [(Blk.new W _ _).cell]
    rfl) 9 Try.underlying9
end Go.Proofs.Ytbdicafambkhdaa

namespace Go.Proofs.Ytbdicafambkhdaa

def cntInt (_x : Int) : Nat := 1
def mkInt (q : Int) (_x : Int) : Int := q
def cntSpan (_x : Span) : Nat := 2
def mkSpan (q : Int) (_x : Span) : Span := ⟨q, (q + 1)⟩
def cntLabel (_x : Label) : Nat := 2
def mkLabel (q : Int) (_x : Label) : Label := ⟨q, (q + 1)⟩
def cntNode (x : Node) : Nat := 1 + (cntL cntSpan x.books)
def mkNode (q : Int) (x : Node) : Node := ⟨q, markL mkSpan cntSpan (q + 1) x.books⟩
def cntUse (_x : Use) : Nat := 4
def mkUse (q : Int) (_x : Use) : Use := ⟨⟨q, (q + 1)⟩, mtext (q + 1 + 1), (q + 1 + 1 + 1)⟩
def cntTask (x : Task) : Nat := 13 + (cntL cntInt x.nodes)
def mkTask (q : Int) (x : Task) : Task := ⟨⟨q, (q + 1)⟩, (q + 1 + 1), mtext (q + 1 + 1 + 1), (q + 1 + 1 + 1 + 1), (q + 1 + 1 + 1 + 1 + 1), (q + 1 + 1 + 1 + 1 + 1 + 1), ⟨(q + 1 + 1 + 1 + 1 + 1 + 1 + 1), (q + 1 + 1 + 1 + 1 + 1 + 1 + 1 + 1)⟩, (q + 1 + 1 + 1 + 1 + 1 + 1 + 1 + 1 + 1), (q + 1 + 1 + 1 + 1 + 1 + 1 + 1 + 1 + 1 + 1), (q + 1 + 1 + 1 + 1 + 1 + 1 + 1 + 1 + 1 + 1 + 1), (q + 1 + 1 + 1 + 1 + 1 + 1 + 1 + 1 + 1 + 1 + 1 + 1), markL mkInt cntInt (q + 1 + 1 + 1 + 1 + 1 + 1 + 1 + 1 + 1 + 1 + 1 + 1 + 1) x.nodes⟩
def cntPair (_x : Pair) : Nat := 5
def mkPair (q : Int) (_x : Pair) : Pair := ⟨⟨q, (q + 1)⟩, ⟨(q + 1 + 1), (q + 1 + 1 + 1)⟩, (q + 1 + 1 + 1 + 1)⟩
def cntQuota (_x : Quota) : Nat := 3
def mkQuota (q : Int) (_x : Quota) : Quota := ⟨⟨q, (q + 1)⟩, (q + 1 + 1)⟩
def cntConfig (x : Config) : Nat := 1 + (cntL (cntL cntLabel) x.nodes) + (cntL cntPair x.pairs) + (cntL cntQuota x.quotas)
def mkConfig (q : Int) (x : Config) : Config := ⟨markL (markL mkLabel cntLabel) (cntL cntLabel) q x.nodes, markL mkPair cntPair (q + (cntL (cntL cntLabel) x.nodes : Nat)) x.pairs, markL mkQuota cntQuota (q + (cntL (cntL cntLabel) x.nodes : Nat) + (cntL cntPair x.pairs : Nat)) x.quotas, (q + (cntL (cntL cntLabel) x.nodes : Nat) + (cntL cntPair x.pairs : Nat) + (cntL cntQuota x.quotas : Nat))⟩
/-- What a struct leads to is marked, not the struct itself. -/
def cntsConfig (x : Config) : Nat := 0 + (cntL (cntL cntLabel) x.nodes) + (cntL cntPair x.pairs) + (cntL cntQuota x.quotas)
def mksConfig (q : Int) (x : Config) : Config := ⟨markL (markL mkLabel cntLabel) (cntL cntLabel) q x.nodes, markL mkPair cntPair (q + (cntL (cntL cntLabel) x.nodes : Nat)) x.pairs, markL mkQuota cntQuota (q + (cntL (cntL cntLabel) x.nodes : Nat) + (cntL cntPair x.pairs : Nat)) x.quotas, x.half⟩
def cntNote (_x : Note) : Nat := 2
def mkNote (q : Int) (_x : Note) : Note := ⟨q, (q + 1)⟩
def cntBox (x : Box) : Nat := 0 + (cntL cntInt x.next) + (cntL cntInt x.here) + (cntL cntNote x.log)
def mkBox (q : Int) (x : Box) : Box := ⟨markL mkInt cntInt q x.next, markL mkInt cntInt (q + (cntL cntInt x.next : Nat)) x.here, markL mkNote cntNote (q + (cntL cntInt x.next : Nat) + (cntL cntInt x.here : Nat)) x.log⟩
def cntMail (x : Mail) : Nat := 0 + (cntL cntBox x.boxes)
def mkMail (q : Int) (x : Mail) : Mail := ⟨markL mkBox cntBox q x.boxes⟩
/-- What a struct leads to is marked, not the struct itself. -/
def cntsMail (x : Mail) : Nat := 0 + (cntL cntBox x.boxes)
def mksMail (q : Int) (x : Mail) : Mail := ⟨markL mkBox cntBox q x.boxes⟩
def cntNodesOut (x : NodesOut) : Nat := 1 + (cntL cntNode x.nodes)
def mkNodesOut (q : Int) (x : NodesOut) : NodesOut := ⟨markL mkNode cntNode q x.nodes, (q + (cntL cntNode x.nodes : Nat))⟩
def cntTaskOut (x : TaskOut) : Nat := 15 + (cntL cntInt x.task.nodes)
def mkTaskOut (q : Int) (x : TaskOut) : TaskOut := ⟨⟨⟨q, (q + 1)⟩, (q + 1 + 1), mtext (q + 1 + 1 + 1), (q + 1 + 1 + 1 + 1), (q + 1 + 1 + 1 + 1 + 1), (q + 1 + 1 + 1 + 1 + 1 + 1), ⟨(q + 1 + 1 + 1 + 1 + 1 + 1 + 1), (q + 1 + 1 + 1 + 1 + 1 + 1 + 1 + 1)⟩, (q + 1 + 1 + 1 + 1 + 1 + 1 + 1 + 1 + 1), (q + 1 + 1 + 1 + 1 + 1 + 1 + 1 + 1 + 1 + 1), (q + 1 + 1 + 1 + 1 + 1 + 1 + 1 + 1 + 1 + 1 + 1), (q + 1 + 1 + 1 + 1 + 1 + 1 + 1 + 1 + 1 + 1 + 1 + 1), markL mkInt cntInt (q + 1 + 1 + 1 + 1 + 1 + 1 + 1 + 1 + 1 + 1 + 1 + 1 + 1) x.task.nodes⟩, (q + 1 + 1 + 1 + 1 + 1 + 1 + 1 + 1 + 1 + 1 + 1 + 1 + 1 + (cntL cntInt x.task.nodes : Nat)), (q + 1 + 1 + 1 + 1 + 1 + 1 + 1 + 1 + 1 + 1 + 1 + 1 + 1 + 1 + (cntL cntInt x.task.nodes : Nat))⟩
end Go.Proofs.Ytbdicafambkhdaa

namespace Go.Proofs.Ytbdicafambkhdaa
open Go.RowKit
attribute [local irreducible] wpQuiet

end Go.Proofs.Ytbdicafambkhdaa

namespace Go.Proofs.Ytbdicafambkhdaa
open Go.RowKit
attribute [local irreducible] wpQuiet

end Go.Proofs.Ytbdicafambkhdaa

namespace Go.Proofs.Ytbdicafambkhdaa
open Go.RowKit
attribute [local irreducible] wpQuiet

end Go.Proofs.Ytbdicafambkhdaa

namespace Go.Proofs.Ytbdicafambkhdaa
open Go.RowKit
attribute [local irreducible] wpQuiet

end Go.Proofs.Ytbdicafambkhdaa

namespace Go.Proofs.Ytbdicafambkhdaa
open Go.RowKit
attribute [local irreducible] wpQuiet

end Go.Proofs.Ytbdicafambkhdaa

namespace Go.Proofs.Ytbdicafambkhdaa
open Go.RowKit
attribute [local irreducible] wpQuiet

end Go.Proofs.Ytbdicafambkhdaa

namespace Go.Proofs.Ytbdicafambkhdaa
open Go.RowKit
attribute [local irreducible] wpQuiet

theorem ownx {α : Type} {E : Elem α} {O : Own E} {w w' : World} {cs : List Value} {x : α} {F : List Nat} (h : O.own w cs x F) (hx : Ext w w') : O.own w' cs x F := O.keep (fun b hb => Below.block hx b (O.lt h b hb)) h
theorem ownk {α : Type} {E : Elem α} {O : Own E} {w w' : World} {cs : List Value} {x : α} {F G : List Nat} (h : O.own w cs x F) (hk : Kept G w w') (hd : ∀ b ∈ F, b ∉ G) : O.own w' cs x F := O.keep (fun b hb => hk.block b (O.lt h b hb) (hd b hb)) h
theorem apart3 {F1 F2 F3 : List Nat} (h : (F1 ++ (F2 ++ F3)).Nodup) : (∀ b ∈ F2, b ∉ F1) ∧ (∀ b ∈ F3, b ∉ F1) ∧ (∀ b ∈ F3, b ∉ F2) := by
  obtain ⟨_, h2, h3⟩ := List.nodup_append.1 h
  obtain ⟨_, _, h4⟩ := List.nodup_append.1 h2
  exact ⟨fun b hb hc => h3 b hc b (List.mem_append_left _ hb) rfl, fun b hb hc => h3 b hc b (List.mem_append_right _ hb) rfl, fun b hb hc => h4 b hc b hb rfl⟩
def cnt3 (x : Config) : Nat := cntL (cntL cntLabel) x.nodes + cntL cntPair x.pairs + cntL cntQuota x.quotas

end Go.Proofs.Ytbdicafambkhdaa

namespace Go.Proofs.Ytbdicafambkhdaa
open Go.RowKit
attribute [local irreducible] wpQuiet

end Go.Proofs.Ytbdicafambkhdaa

namespace Go.Proofs.Ytbdicafambkhdaa
open Go.RowKit
attribute [local irreducible] wpQuiet

def cntYard (x : Yard) : Nat := 2 + (cntL (cntL cntLabel) x.config.nodes) + (cntL cntPair x.config.pairs) + (cntL cntQuota x.config.quotas) + (cntL cntNode x.nodes) + (cntL cntTask x.tasks) + (cntL cntUse x.uses)
def mkYard (q : Int) (x : Yard) : Yard := ⟨⟨markL (markL mkLabel cntLabel) (cntL cntLabel) q x.config.nodes, markL mkPair cntPair (q + (cntL (cntL cntLabel) x.config.nodes : Nat)) x.config.pairs, markL mkQuota cntQuota (q + (cntL (cntL cntLabel) x.config.nodes : Nat) + (cntL cntPair x.config.pairs : Nat)) x.config.quotas, (q + (cntL (cntL cntLabel) x.config.nodes : Nat) + (cntL cntPair x.config.pairs : Nat) + (cntL cntQuota x.config.quotas : Nat))⟩, markL mkNode cntNode (q + 1 + (cntL (cntL cntLabel) x.config.nodes : Nat) + (cntL cntPair x.config.pairs : Nat) + (cntL cntQuota x.config.quotas : Nat)) x.nodes, markL mkTask cntTask (q + 1 + (cntL (cntL cntLabel) x.config.nodes : Nat) + (cntL cntPair x.config.pairs : Nat) + (cntL cntQuota x.config.quotas : Nat) + (cntL cntNode x.nodes : Nat)) x.tasks, markL mkUse cntUse (q + 1 + (cntL (cntL cntLabel) x.config.nodes : Nat) + (cntL cntPair x.config.pairs : Nat) + (cntL cntQuota x.config.quotas : Nat) + (cntL cntNode x.nodes : Nat) + (cntL cntTask x.tasks : Nat)) x.uses, (q + 1 + (cntL (cntL cntLabel) x.config.nodes : Nat) + (cntL cntPair x.config.pairs : Nat) + (cntL cntQuota x.config.quotas : Nat) + (cntL cntNode x.nodes : Nat) + (cntL cntTask x.tasks : Nat) + (cntL cntUse x.uses : Nat))⟩
/-- What a struct leads to is marked, not the struct itself. -/
def cntsYard (x : Yard) : Nat := 0 + (cntL (cntL cntLabel) x.config.nodes) + (cntL cntPair x.config.pairs) + (cntL cntQuota x.config.quotas) + (cntL cntNode x.nodes) + (cntL cntTask x.tasks) + (cntL cntUse x.uses)
def mksYard (q : Int) (x : Yard) : Yard := ⟨⟨markL (markL mkLabel cntLabel) (cntL cntLabel) q x.config.nodes, markL mkPair cntPair (q + (cntL (cntL cntLabel) x.config.nodes : Nat)) x.config.pairs, markL mkQuota cntQuota (q + (cntL (cntL cntLabel) x.config.nodes : Nat) + (cntL cntPair x.config.pairs : Nat)) x.config.quotas, x.config.half⟩, markL mkNode cntNode (q + (cntL (cntL cntLabel) x.config.nodes : Nat) + (cntL cntPair x.config.pairs : Nat) + (cntL cntQuota x.config.quotas : Nat)) x.nodes, markL mkTask cntTask (q + (cntL (cntL cntLabel) x.config.nodes : Nat) + (cntL cntPair x.config.pairs : Nat) + (cntL cntQuota x.config.quotas : Nat) + (cntL cntNode x.nodes : Nat)) x.tasks, markL mkUse cntUse (q + (cntL (cntL cntLabel) x.config.nodes : Nat) + (cntL cntPair x.config.pairs : Nat) + (cntL cntQuota x.config.quotas : Nat) + (cntL cntNode x.nodes : Nat) + (cntL cntTask x.tasks : Nat)) x.uses, x.now⟩
def cntYardOut (x : YardOut) : Nat := 4 + (cntL (cntL cntLabel) x.yard.config.nodes) + (cntL cntPair x.yard.config.pairs) + (cntL cntQuota x.yard.config.quotas) + (cntL cntNode x.yard.nodes) + (cntL cntTask x.yard.tasks) + (cntL cntUse x.yard.uses)
def mkYardOut (q : Int) (x : YardOut) : YardOut := ⟨⟨⟨markL (markL mkLabel cntLabel) (cntL cntLabel) q x.yard.config.nodes, markL mkPair cntPair (q + (cntL (cntL cntLabel) x.yard.config.nodes : Nat)) x.yard.config.pairs, markL mkQuota cntQuota (q + (cntL (cntL cntLabel) x.yard.config.nodes : Nat) + (cntL cntPair x.yard.config.pairs : Nat)) x.yard.config.quotas, (q + (cntL (cntL cntLabel) x.yard.config.nodes : Nat) + (cntL cntPair x.yard.config.pairs : Nat) + (cntL cntQuota x.yard.config.quotas : Nat))⟩, markL mkNode cntNode (q + 1 + (cntL (cntL cntLabel) x.yard.config.nodes : Nat) + (cntL cntPair x.yard.config.pairs : Nat) + (cntL cntQuota x.yard.config.quotas : Nat)) x.yard.nodes, markL mkTask cntTask (q + 1 + (cntL (cntL cntLabel) x.yard.config.nodes : Nat) + (cntL cntPair x.yard.config.pairs : Nat) + (cntL cntQuota x.yard.config.quotas : Nat) + (cntL cntNode x.yard.nodes : Nat)) x.yard.tasks, markL mkUse cntUse (q + 1 + (cntL (cntL cntLabel) x.yard.config.nodes : Nat) + (cntL cntPair x.yard.config.pairs : Nat) + (cntL cntQuota x.yard.config.quotas : Nat) + (cntL cntNode x.yard.nodes : Nat) + (cntL cntTask x.yard.tasks : Nat)) x.yard.uses, (q + 1 + (cntL (cntL cntLabel) x.yard.config.nodes : Nat) + (cntL cntPair x.yard.config.pairs : Nat) + (cntL cntQuota x.yard.config.quotas : Nat) + (cntL cntNode x.yard.nodes : Nat) + (cntL cntTask x.yard.tasks : Nat) + (cntL cntUse x.yard.uses : Nat))⟩, (q + 1 + 1 + (cntL (cntL cntLabel) x.yard.config.nodes : Nat) + (cntL cntPair x.yard.config.pairs : Nat) + (cntL cntQuota x.yard.config.quotas : Nat) + (cntL cntNode x.yard.nodes : Nat) + (cntL cntTask x.yard.tasks : Nat) + (cntL cntUse x.yard.uses : Nat)), (q + 1 + 1 + 1 + (cntL (cntL cntLabel) x.yard.config.nodes : Nat) + (cntL cntPair x.yard.config.pairs : Nat) + (cntL cntQuota x.yard.config.quotas : Nat) + (cntL cntNode x.yard.nodes : Nat) + (cntL cntTask x.yard.tasks : Nat) + (cntL cntUse x.yard.uses : Nat))⟩
/-- What a struct leads to is marked, not the struct itself. -/
def cntsYardOut (x : YardOut) : Nat := 0 + (cntL (cntL cntLabel) x.yard.config.nodes) + (cntL cntPair x.yard.config.pairs) + (cntL cntQuota x.yard.config.quotas) + (cntL cntNode x.yard.nodes) + (cntL cntTask x.yard.tasks) + (cntL cntUse x.yard.uses)
def mksYardOut (q : Int) (x : YardOut) : YardOut := ⟨⟨⟨markL (markL mkLabel cntLabel) (cntL cntLabel) q x.yard.config.nodes, markL mkPair cntPair (q + (cntL (cntL cntLabel) x.yard.config.nodes : Nat)) x.yard.config.pairs, markL mkQuota cntQuota (q + (cntL (cntL cntLabel) x.yard.config.nodes : Nat) + (cntL cntPair x.yard.config.pairs : Nat)) x.yard.config.quotas, x.yard.config.half⟩, markL mkNode cntNode (q + (cntL (cntL cntLabel) x.yard.config.nodes : Nat) + (cntL cntPair x.yard.config.pairs : Nat) + (cntL cntQuota x.yard.config.quotas : Nat)) x.yard.nodes, markL mkTask cntTask (q + (cntL (cntL cntLabel) x.yard.config.nodes : Nat) + (cntL cntPair x.yard.config.pairs : Nat) + (cntL cntQuota x.yard.config.quotas : Nat) + (cntL cntNode x.yard.nodes : Nat)) x.yard.tasks, markL mkUse cntUse (q + (cntL (cntL cntLabel) x.yard.config.nodes : Nat) + (cntL cntPair x.yard.config.pairs : Nat) + (cntL cntQuota x.yard.config.quotas : Nat) + (cntL cntNode x.yard.nodes : Nat) + (cntL cntTask x.yard.tasks : Nat)) x.yard.uses, x.yard.now⟩, x.id, x.code⟩
end Go.Proofs.Ytbdicafambkhdaa

namespace Go.Proofs.Ytbdicafambkhdaa
open Go.RowKit
attribute [local irreducible] wpQuiet

theorem app_apart {A B : List Nat} (h : (A ++ B).Nodup) : A.Nodup ∧ B.Nodup ∧ (∀ b ∈ B, b ∉ A) := by
  obtain ⟨h1, h2, h3⟩ := List.nodup_append.1 h
  exact ⟨h1, h2, fun b hb hc => h3 b hc b hb rfl⟩
theorem left_apart {A B : List Nat} (h : (A ++ B).Nodup) : ∀ b ∈ A, b ∉ B := fun b hb hc => (app_apart h).2.2 b hc hb

theorem rel_ext {α : Type} {E : Elem α} {S : Nat → Prop} {w w' : World} {cs : List Value} {x : α} (h : E.rel S w cs x) (hx : Ext w w') : E.rel S w' cs x := E.keep (hx.same S) h
end Go.Proofs.Ytbdicafambkhdaa

namespace Go.Proofs.Ytbdicafambkhdaa
theorem cnt_all {α : Type} {n : α → Nat} {c : Nat} : ∀ {l : List α}, (∀ x ∈ l, n x ≤ c) → cntL n l ≤ l.length * c
  | [], _ => by simp [cntL]
  | x :: l, h => by
    have h1 := h x (List.mem_cons_self ..)
    have h2 := cnt_all (n := n) (c := c) (l := l) fun y hy => h y (List.mem_cons_of_mem _ hy)
    simp only [cntL, List.length_cons, Nat.succ_mul]
    omega
theorem cnt_ints (l : List Int) : cntL cntInt l ≤ l.length := by
  have := cnt_all (n := cntInt) (c := 1) (l := l) fun _ _ => Nat.le_refl _
  omega
theorem cnt_spans (l : List Span) : cntL cntSpan l ≤ l.length * 2 := cnt_all fun _ _ => Nat.le_refl _
theorem cnt_uses (l : List Use) : cntL cntUse l ≤ l.length * 4 := cnt_all fun _ _ => Nat.le_refl _
theorem cnt_tasks {l : List Task} (h : SmTaskS l) : cntL cntTask l ≤ 1099525259264 := by
  have h1 := cnt_all (n := cntTask) (c := 13 + 1048576) (l := l) fun x hx => by
    have := (h.2 x hx).2.2.1
    have := cnt_ints x.nodes
    unfold cntTask
    omega
  have h2 := Nat.mul_le_mul_right (13 + 1048576) h.1
  omega
theorem cnt_nodes {l : List Node} (h : SmNodeS l) : cntL cntNode l ≤ 2199024304128 := by
  have h1 := cnt_all (n := cntNode) (c := 1 + 1048576 * 2) (l := l) fun x hx => by
    have := (h.2 x hx).1
    have := cnt_spans x.books
    unfold cntNode
    omega
  have h2 := Nat.mul_le_mul_right (1 + 1048576 * 2) h.1
  omega
end Go.Proofs.Ytbdicafambkhdaa
