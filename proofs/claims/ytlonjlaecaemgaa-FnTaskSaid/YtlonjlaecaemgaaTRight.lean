/- What a right row of tasks gives of each task. -/
import Derived.Test.YtlonjlaecaemgaaTasksP
namespace Go.Proofs.Ytlonjlaecaemgaa
theorem taskRight_nodes {x:Task} (h:taskRight x=true):x.nodes.length≤6:=by
 simp only [taskRight,isWorkB,isB,placeOk,Bool.and_eq_true,decide_eq_true_eq] at h
 split at h <;> simp only [Bool.and_eq_true,decide_eq_true_eq] at h <;> omega
theorem tasksRight_at {l:List Task} (h:tasksRight l=true) {k:Nat} (hk:k < l.length):taskRight (nth l k)=true:=by
 simp only [tasksRight,Bool.and_eq_true,List.all_eq_true,List.mem_range] at h
 have:=h.2 k hk
 simp only [tI,Bool.and_eq_true] at this
 exact this.1.1
theorem tasksRight_length {l:List Task} (h:tasksRight l=true):l.length≤96:=by
 simp only [tasksRight,Bool.and_eq_true,decide_eq_true_eq] at h
 exact h.1
theorem tasksRight_small {l:List Task} (h:tasksRight l=true):∀ k,k < l.length→(nth l k).nodes.length≤1000000000:=fun k hk=>by
 have:=taskRight_nodes (tasksRight_at h hk)
 omega
end Go.Proofs.Ytlonjlaecaemgaa
