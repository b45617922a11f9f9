/- How many numbers small data take. -/
import Derived.Test.YtocomclenbhhaaaGreatYardK
import Derived.Test.YtocomclenbhhaaaGreatGSmall
namespace Go.Proofs.YtocomclenbhhaaaGreat
theorem cnt_all {α : Type} {n : α → Nat} {c : Nat} : ∀ {l : List α}, (∀ x ∈ l, n x ≤ c) → cntL n l ≤ l.length * c
  | [], _ => by simp [cntL]
  | x :: l, h => by
    have h1 := h x (List.mem_cons_self ..)
    have h2 := cnt_all (n := n) (c := c) (l := l) fun y hy => h y (List.mem_cons_of_mem _ hy)
    simp only [cntL, List.length_cons, Nat.succ_mul]
    omega
theorem cnt_ints (l : List Int) : cntL cntInt l ≤ l.length := by
  have := cnt_all (n := cntInt) (c := 1) (l := l) fun _ _ => Nat.le_refl _
  omega
theorem cnt_spans (l : List Span) : cntL cntSpan l ≤ l.length * 2 := cnt_all fun _ _ => Nat.le_refl _
theorem cnt_uses (l : List Use) : cntL cntUse l ≤ l.length * 4 := cnt_all fun _ _ => Nat.le_refl _
theorem cnt_tasks {l : List Task} (h : SmTaskS l) : cntL cntTask l ≤ 1099525259264 := by
  have h1 := cnt_all (n := cntTask) (c := 13 + 1048576) (l := l) fun x hx => by
    have := (h.2 x hx).2.2.1
    have := cnt_ints x.nodes
    unfold cntTask
    omega
  have h2 := Nat.mul_le_mul_right (13 + 1048576) h.1
  omega
theorem cnt_nodes {l : List Node} (h : SmNodeS l) : cntL cntNode l ≤ 2199024304128 := by
  have h1 := cnt_all (n := cntNode) (c := 1 + 1048576 * 2) (l := l) fun x hx => by
    have := (h.2 x hx).1
    have := cnt_spans x.books
    unfold cntNode
    omega
  have h2 := Nat.mul_le_mul_right (1 + 1048576 * 2) h.1
  omega
end Go.Proofs.YtocomclenbhhaaaGreat
