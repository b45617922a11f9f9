/- How many numbers the result of Orphans takes. -/
import Derived.Test.YtalnbddpkkkpeaaOrphP
import Derived.Test.YtalnbddpkkkpeaaCounts
namespace Go.Proofs.Ytalnbddpkkkpeaa
theorem orphL_nodes {c : Nat} : ∀ (l m : List Task), (∀ x ∈ m, x.nodes.length ≤ c) → (∀ x ∈ l, x.nodes.length ≤ c) → ∀ x ∈ l.foldl orphStep m, x.nodes.length ≤ c
  | [], _, hm, _ => hm
  | y :: l, m, hm, hl => by
    refine orphL_nodes l (orphStep m y) (fun x hx => ?_) (fun x hx => hl x (List.mem_cons_of_mem _ hx))
    unfold orphStep at hx
    rcases List.mem_append.1 hx with hx | hx
    · exact hm x hx
    · have e := List.mem_singleton.1 hx
      rw [e]
      split
      · exact Nat.zero_le _
      · exact hl y (List.mem_cons_self ..)
theorem orphans_bound {l : List Task} (h : SmTaskS l) : 1 + ((cntL cntTask l : Nat) : Int) ≤ 1125899906842624 ∧ 1 + ((cntL cntTask (orphans l) : Nat) : Int) ≤ 1125899906842624 := by
  have h1 := cnt_tasks h
  have h2 : cntL cntTask (orphans l) ≤ 1099525259264 := by
    unfold orphans
    split
    · have a := cnt_all (n := cntTask) (c := 13 + 1048576) (l := orphL l) fun x hx => by
        have := orphL_nodes (c := 1048576) l [] (by simp) (fun x hx => (h.2 x hx).2.2.1) x hx
        have := cnt_ints x.nodes
        unfold cntTask
        omega
      rw [orphL_length] at a
      have b := Nat.mul_le_mul_right (13 + 1048576) h.1
      omega
    · simp [cntL]
  omega
end Go.Proofs.Ytalnbddpkkkpeaa
