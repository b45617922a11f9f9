/- How many numbers the result of TaskRead takes. -/
import Derived.Test.YtikiipahmgpamaaReadS
import Derived.Test.YtikiipahmgpamaaCounts
namespace Go.Proofs.Ytikiipahmgpamaa
theorem rdNums_len (t : ByteArray) (a c : Int) : ∀ k, (rdNums t k a c).1.length = k
  | 0 => rfl
  | k + 1 => by
    show ((rdNums t k a c).1 ++ [(rdNum t (rdNums t k a c).2.1 (rdNums t k a c).2.2).1]).length = k + 1
    rw [List.length_append, rdNums_len t a c k]
    rfl
theorem rdTask_nodes (t : ByteArray) (a : Int) : (rdTask t a 0).1.nodes.length ≤ 6 := by
  have key : ∀ A C : Int, ((rdNums t (rdCount t A C 6).1.toNat (rdCount t A C 6).2.1 (rdCount t A C 6).2.2).1).length ≤ 6 := fun A C => by
    rw [rdNums_len]
    have := rdCount_le t A C
    omega
  exact key _ _
theorem taskRead_bound (t : ByteArray) (a : Int) : 1 + ((cntL cntInt (taskRead t a).task.nodes : Nat) : Int) ≤ 1125899906842624 := by
  have h1 := cnt_ints (taskRead t a).task.nodes
  have h2 : (taskRead t a).task.nodes.length ≤ 6 := by
    unfold taskRead
    split
    · split
      · exact Nat.zero_le 6
      · exact rdTask_nodes t a
    · exact Nat.zero_le 6
  omega
theorem taskRead_bound_at {V : TaskOut} {t : ByteArray} {a : Int} (h : V = taskRead t a) : 1 + ((cntL cntInt V.task.nodes : Nat) : Int) ≤ 1125899906842624 := by
  rw [h]; exact taskRead_bound t a
theorem taskRead_at {V : TaskOut} (t : ByteArray) (a : Int) (w : World) (ha : I64 a) (ht : Str t) (h : V = taskRead t a) :
    Calls Try.prog 20 #[.string t, .int .i64 a] w (RetOS OTaskOut V w) := by
  rw [h]; exact taskRead_any t a w ha ht
theorem specTaskRead_at {V : TaskOut} (t : ByteArray) (a : Int) (w : World) (ha : I64 a) (ht : Str t) (h : V = taskRead t a) :
    Calls Try.prog 19 #[.string t, .int .i64 a] w (RetOS OTaskOut V w) := by
  rw [h]; exact specTaskRead_any t a w ha ht
end Go.Proofs.Ytikiipahmgpamaa
