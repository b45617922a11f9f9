/- How many numbers the results of functions on nodes take. -/
import Derived.Test.YtbdicafambkhdaaNodeC
import Derived.Test.YtbdicafambkhdaaCounts
namespace Go.Proofs.Ytbdicafambkhdaa
theorem cnt_nodes_of {l : List Node} (h : l.length ≤ 1048576) (hb : ∀ x ∈ l, x.books.length ≤ 1048576) : cntL cntNode l ≤ 2199024304128 := by
  have h1 := cnt_all (n := cntNode) (c := 1 + 1048576 * 2) (l := l) fun x hx => by
    have := hb x hx
    have := cnt_spans x.books
    unfold cntNode
    omega
  have h2 := Nat.mul_le_mul_right (1 + 1048576 * 2) h
  omega
theorem set_books {l : List Node} {k : Nat} {y : Node} (h : SmNodeS l) (hy : y.books.length ≤ 1048576) : (l.set k y).length ≤ 1048576 ∧ ∀ x ∈ l.set k y, x.books.length ≤ 1048576 := by
  refine ⟨by rw [List.length_set]; exact h.1, fun x hx => ?_⟩
  rcases List.mem_or_eq_of_mem_set hx with hx | rfl
  · exact (h.2 x hx).1
  · exact hy
theorem nth_books {l : List Node} (h : SmNodeS l) (k : Nat) : (nth l k).books.length ≤ 1048576 := by
  rcases Nat.lt_or_ge k l.length with hk | hk
  · exact (h.2 _ (nth_mem hk)).1
  · have : nth l k = default := by unfold nth; rw [List.getD_eq_getElem?_getD, List.getElem?_eq_none hk]; rfl
    rw [this]; exact Nat.zero_le _
theorem nodeSet_bound {l : List Node} {n st : Int} (h : SmNodeS l) : 1 + ((cntL cntNode l : Nat) : Int) ≤ 1125899906842624 ∧ 1 + ((cntL cntNode (nodeSet l n st).nodes : Nat) : Int) ≤ 1125899906842624 := by
  have h1 := cnt_nodes h
  have h2 : cntL cntNode (nodeSet l n st).nodes ≤ 2199024304128 := by
    unfold nodeSet
    repeat' split
    all_goals first
      | (simp [cntL]; done)
      | (obtain ⟨a, b⟩ := set_books (k := n.toNat) (y := { nth l n.toNat with state := st }) h (nth_books h _); exact cnt_nodes_of a b)
  omega
theorem bookCut_bound {l : List Node} {n f : Int} (h : SmNodeS l) : 1 + ((cntL cntNode l : Nat) : Int) ≤ 1125899906842624 ∧ 1 + ((cntL cntNode (bookCut l n f).nodes : Nat) : Int) ≤ 1125899906842624 := by
  have h1 := cnt_nodes h
  have h2 : cntL cntNode (bookCut l n f).nodes ≤ 2199024304128 := by
    unfold bookCut
    repeat' split
    all_goals first
      | (simp [cntL]; done)
      | (obtain ⟨a, b⟩ := set_books (k := n.toNat) (y := { nth l n.toNat with books := (nth l n.toNat).books.filter fun x => !decide (x.from_ = f) }) h (Nat.le_trans (List.length_filter_le _ _) (nth_books h _)); exact cnt_nodes_of a b)
  omega
theorem booksPass_bound {l : List Node} {now : Int} (h : SmNodeS l) : 1 + ((cntL cntNode l : Nat) : Int) ≤ 1125899906842624 ∧ 1 + ((cntL cntNode (booksPass l now) : Nat) : Int) ≤ 1125899906842624 := by
  have h1 := cnt_nodes h
  have h2 : cntL cntNode (booksPass l now) ≤ 2199024304128 := by
    unfold booksPass
    split
    · refine cnt_nodes_of (by rw [List.length_map]; exact h.1) fun x hx => ?_
      obtain ⟨y, hy, rfl⟩ := List.mem_map.1 hx
      exact Nat.le_trans (List.length_filter_le _ _) (h.2 y hy).1
    · simp [cntL]
  omega
end Go.Proofs.Ytbdicafambkhdaa
