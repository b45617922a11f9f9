/- The text that stands for a number. The walk of markText. Data that bear numbers in a row. Printed by wip/gen2.py. The walks of mark... Printed by wip/gen2.py. The walks of held... Printed by wip/gen2.py. The walk of mark.. for uses. Printed by wip/gen2.py. The walk of held.. for uses. Printed by wip/gen2.py. The walk of mark.. for tasks. Printed by wip/gen2.py. The walk of held.. for tasks. Printed by wip/gen2.py. The walk of markConfig; a struct in memory of its own when memory grows. The walks of mark.. and held.. at structs that lead to one row. Printed by wip/gen2.py. The generated words of types that are new with this seat. Printed by wip/genx.py. What a configuration, a yard, a yard's result lead to is marked, and the marks are held. Printed by wip/yardm.py. How many numbers small data take. -/
import Derived.Test.YtoblacfjmcpbmaaGreatOwn
import Derived.Test.YtoblacfjmcpbmaaGreatRows
import Derived.Laws.IdiomStrings
import Derived.Laws.BytesArg
import Derived.Test.YtoblacfjmcpbmaaGreatNodeC
import Derived.Test.YtoblacfjmcpbmaaGreatGYardT
import Derived.Test.YtoblacfjmcpbmaaGreatGElems
import Derived.Test.YtoblacfjmcpbmaaGreatLib
import Derived.Test.YtoblacfjmcpbmaaGreatYardCp
import Derived.Test.YtoblacfjmcpbmaaGreatYardS
import Derived.Test.YtoblacfjmcpbmaaGreatCopies
namespace Go.Proofs.YtoblacfjmcpbmaaGreat
end Go.Proofs.YtoblacfjmcpbmaaGreat
namespace Go.Proofs.YtoblacfjmcpbmaaGreat
open Go.RowKit
attribute [local irreducible] wpQuiet
end Go.Proofs.YtoblacfjmcpbmaaGreat
namespace Go.Proofs.YtoblacfjmcpbmaaGreat
end Go.Proofs.YtoblacfjmcpbmaaGreat
namespace Go.Proofs.YtoblacfjmcpbmaaGreat
open Go.RowKit
attribute [local irreducible] wpQuiet
end Go.Proofs.YtoblacfjmcpbmaaGreat
namespace Go.Proofs.YtoblacfjmcpbmaaGreat
open Go.RowKit
attribute [local irreducible] wpQuiet
end Go.Proofs.YtoblacfjmcpbmaaGreat
namespace Go.Proofs.YtoblacfjmcpbmaaGreat
open Go.RowKit
attribute [local irreducible] wpQuiet
end Go.Proofs.YtoblacfjmcpbmaaGreat
namespace Go.Proofs.YtoblacfjmcpbmaaGreat
open Go.RowKit
attribute [local irreducible] wpQuiet
end Go.Proofs.YtoblacfjmcpbmaaGreat
namespace Go.Proofs.YtoblacfjmcpbmaaGreat
open Go.RowKit
attribute [local irreducible] wpQuiet
end Go.Proofs.YtoblacfjmcpbmaaGreat
namespace Go.Proofs.YtoblacfjmcpbmaaGreat
open Go.RowKit
attribute [local irreducible] wpQuiet
end Go.Proofs.YtoblacfjmcpbmaaGreat
namespace Go.Proofs.YtoblacfjmcpbmaaGreat
open Go.RowKit
attribute [local irreducible] wpQuiet
theorem ownk {α:Type} {E:Elem α} {O:Own E} {w w':World} {cs:List Value} {x:α} {F G:List Nat} (h:O.own w cs x F) (hk:Kept G w w') (hd:∀ b∈F,b∉G):O.own w' cs x F:=O.keep (fun b hb=>hk.block b (O.lt h b hb) (hd b hb)) h
end Go.Proofs.YtoblacfjmcpbmaaGreat
namespace Go.Proofs.YtoblacfjmcpbmaaGreat
open Go.RowKit
attribute [local irreducible] wpQuiet
end Go.Proofs.YtoblacfjmcpbmaaGreat
namespace Go.Proofs.YtoblacfjmcpbmaaGreat
open Go.RowKit
attribute [local irreducible] wpQuiet
end Go.Proofs.YtoblacfjmcpbmaaGreat
namespace Go.Proofs.YtoblacfjmcpbmaaGreat
open Go.RowKit
attribute [local irreducible] wpQuiet
end Go.Proofs.YtoblacfjmcpbmaaGreat
namespace Go.Proofs.YtoblacfjmcpbmaaGreat
end Go.Proofs.YtoblacfjmcpbmaaGreat
/- What becomes of a yard in which a task gets another state,in plain Lean;its memory. The walks of the program's isLabelOf,find,turn. The walks of the program's turn,and of what calls it. Printed by wip/yardt.py. -/
namespace Go.Proofs.YtoblacfjmcpbmaaGreat
open Go.RowKit
attribute [local irreducible] wpQuiet
def blankYard:Yard:=⟨⟨[],[],[],0⟩,[],[],[],0⟩
theorem few_rightT {c:Config} (h:configRight c=true):FewC c:=by
 have hc:=config_clear h
 have hn:=clear_length hc
 have h':=h
 simp only [configRight,pairsOk,quotasOk,Bool.and_eq_true,decide_eq_true_eq] at h'
 refine ⟨by omega,fun k hk=>?_,by have:=h'.2.1.2.1;omega,by have:=h'.2.2.1;omega⟩
 have:=(chain_length (clear_chain hc _ (nth_mem hk))).2
 omega
def withTask (x:Task) (s:Int):Task:=⟨x.label,x.id,x.owner,x.need,x.long,x.prio,x.under,x.after,x.born,s,0,[]⟩
def illY (code:Int):YardOut:=⟨blankYard,0,code⟩
theorem right_config {y:Yard} (h:yardRight y=true):configRight y.config=true:=by
 simp only [yardRight,yardHead,Bool.and_eq_true] at h
 exact h.1.1.1.1.1.1.1.1
theorem right_tasks {y:Yard} (h:yardRight y=true):tasksRight y.tasks=true:=by
 simp only [yardRight,yardHead,Bool.and_eq_true] at h
 exact h.1.1.1.1.1.2
theorem few_yard {y:Yard} (h:yardRight y=true):FewY y:=by
 have hc:=few_rightT (right_config h)
 have ht:=right_tasks h
 simp only [yardRight,yardHead,Bool.and_eq_true] at h
 have hn:=h.1.1.1.1.1.1.2
 have hu:=h.1.1.1.1.2
 refine ⟨hc,by have:=nodesRight_length hn;omega,fun k hk=>by have:=(nodesRight_books hn hk).1;omega,by have:=few_tasks ht;omega,fun k hk=>?_,?_⟩
 · have h:=all_right ht hk
   simp only [taskRight,isWorkB,isB,placeOk,Bool.and_eq_true,decide_eq_true_eq] at h
   split at h <;> simp only [Bool.and_eq_true,decide_eq_true_eq] at h <;> omega
 · simp only [usesRight,Bool.and_eq_true,decide_eq_true_eq] at hu
   omega
theorem fit_with {x:Task} {s:Int} (h:FitTask x) (hs:I64 s):FitTask (withTask x s):=by
 obtain ⟨h1,h2,h3,h4,h5,h6,h7,h8,h9,h10,h11,_,_⟩:=h
 exact ⟨h1,h2,h3,h4,h5,h6,h7,h8,h9,h10,h11,hs,by simp [I64,withTask]⟩
theorem nodup_swap {A F5 F5' F6:List Nat} {n:Nat} (hd:(A ++ (F5 ++ F6)).Nodup) (h5:F5'.Nodup) (hs:∀ b∈F5',b∈F5∨n≤b) (lA:∀ b∈A,b < n) (l6:∀ b∈F6,b < n):(A ++ (F5' ++ F6)).Nodup:=by
 obtain ⟨hA,h56,hAd⟩:=List.nodup_append.1 hd
 obtain ⟨_,h6,h56d⟩:=List.nodup_append.1 h56
 refine nodup_two hA (nodup_two h5 h6 fun b hb hc=>?_) fun b hb hc=>?_
 · rcases hs b hb with h | h
   · exact h56d b h b hc rfl
   · have:=l6 b hc;omega
 · rcases List.mem_append.1 hc with hc | hc
   · rcases hs b hc with h | h
     · exact hAd b hb b (List.mem_append_left _ h) rfl
     · have:=lA b hb;omega
   · exact hAd b hb b (List.mem_append_right _ hc) rfl
theorem set_ge {F1 F2 F3 F4 F5 F5' F6:List Nat} {n m:Nat} (h:∀ b∈F1 ++ (F2 ++ (F3 ++ (F4 ++ (F5 ++ F6)))),n≤b) (h5:∀ b∈F5',b∈F5∨m≤b) (hm:n≤m):∀ b∈F1 ++ (F2 ++ (F3 ++ (F4 ++ (F5' ++ F6)))),n≤b:=fun b hb=>by
 simp only [List.mem_append] at hb h
 rcases hb with hb | hb | hb | hb | hb | hb
 · exact h b (by simp [hb])
 · exact h b (by simp [hb])
 · exact h b (by simp [hb])
 · exact h b (by simp [hb])
 · rcases h5 b hb with h' | h'
   · exact h b (by simp [h'])
   · omega
 · exact h b (by simp [hb])
end Go.Proofs.YtoblacfjmcpbmaaGreat
namespace Go.Proofs.YtoblacfjmcpbmaaGreat
open Go.RowKit
attribute [local irreducible] wpQuiet
end Go.Proofs.YtoblacfjmcpbmaaGreat
namespace Go.Proofs.YtoblacfjmcpbmaaGreat
open Go.RowKit
attribute [local irreducible] wpQuiet
theorem own_ill (w:World) (c:Int) (h:I64 c):OYardOut.own w [.slice none 0 0,.slice none 0 0,.slice none 0 0,.int .i64 0,.slice none 0 0,.slice none 0 0,.slice none 0 0,.int .i64 0,.int .i64 0,.int .i64 c] (illY c) [] :=
 ⟨_,_,_,_,_,_,[],[],[],[],[],[],rfl,⟨show I64 0 by unfold I64;decide,show I64 0 by unfold I64;decide,show I64 0 by unfold I64;decide,h⟩,OwS.nil _,OwS.nil _,OwS.nil _,OwS.nil _,OwS.nil _,OwS.nil _,rfl,List.nodup_nil⟩
end Go.Proofs.YtoblacfjmcpbmaaGreat
