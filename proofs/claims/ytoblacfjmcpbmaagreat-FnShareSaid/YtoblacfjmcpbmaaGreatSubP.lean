/- Submitting tasks, in plain Lean: what it computes, and that a row sorted by label and number is the row with each new task put at its place. No program in sight. -/
import Derived.Test.YtoblacfjmcpbmaaGreatOrderI
namespace Go.Proofs.YtoblacfjmcpbmaaGreat
open Go.RowKit Go.Sort
def cmpI (a b:Task):Int:=orOf [cmpLabels a.label b.label,cmp3 a.id b.id]
theorem orOf_pair (a b:Int):orOf [a,b]=if a=0 then b else a:=by
 simp only [orOf]
 split <;> (try split) <;> simp_all
theorem lin_I:Lin cmpI:=by
 have:=Lin.lex (lin_labels.comap Task.label) (lin_cmp3.comap Task.id)
 have e:cmpI=fun a b=>if cmpLabels a.label b.label=0 then cmp3 a.id b.id else cmpLabels a.label b.label:=by funext a b;rw [cmpI,orOf_pair]
 rw [e];exact this
def wishT (now:Int) (a:Label) (x:Wish) (n:Int):Task:=⟨a,n,x.owner,x.need,x.long,x.prio,x.under,x.after,now,1,0,[]⟩
def newT (now:Int) (a:Label) (x:Wish) (m:Int) (k:Nat):List Task:=(List.range k).map fun (i:Nat)=>wishT now a x (m+1+i)
def isL (a:Label) (t:Task):Bool:=decide (t.label=a)
def manyT (l:List Task) (a:Label):Nat:=l.countP (isL a)
def subT (y:Yard) (a:Label) (x:Wish):List Task:=(newT y.now a x (manyT y.tasks a) x.count.toNat).foldl (putL cmpI) y.tasks
def noLabelS (y:Yard) (a:Label) (x:Wish):Bool:=decide ((manyOf y.config.nodes a:Int) < x.need) || (decide (x.after≠0) && !belowB x.under a)
def noTaskS (y:Yard) (x:Wish):Bool:=decide (x.after≠0) && decide (taskIx y.tasks x.under x.after < 0)
def subY (y:Yard) (a:Label) (x:Wish):YardOut :=
 if yardRight y=false∨wishRight x=false then illY 1
 else if noLabelS y a x=true then illY 11
 else if noTaskS y x=true then illY 6
 else if 12 < (manyT y.tasks a:Int)+x.count then illY 9
 else if quotaOf y.config a < (liveN y.tasks a:Int)+x.count then illY 8
 else ⟨⟨y.config,y.nodes,subT y a x,y.uses,y.now⟩,manyT y.tasks a+1,0⟩
theorem sub_form {y:Yard} {a:Label} {x:Wish} (h:yardRight y=false∨wishRight x=false):subY y a x=illY 1:=by rw [subY,if_pos h]
theorem sub_label {y:Yard} {a:Label} {x:Wish} (h1:yardRight y=true) (h2:wishRight x=true) (h:noLabelS y a x=true):subY y a x=illY 11:=by rw [subY,if_neg (by simp [h1,h2]),if_pos h]
theorem sub_none {y:Yard} {a:Label} {x:Wish} (h1:yardRight y=true) (h2:wishRight x=true) (h3:noLabelS y a x=false) (h:noTaskS y x=true):subY y a x=illY 6:=by rw [subY,if_neg (by simp [h1,h2]),if_neg (by simp [h3]),if_pos h]
theorem sub_full {y:Yard} {a:Label} {x:Wish} (h1:yardRight y=true) (h2:wishRight x=true) (h3:noLabelS y a x=false) (h4:noTaskS y x=false) (h:12 < (manyT y.tasks a:Int)+x.count):subY y a x=illY 9:=by rw [subY,if_neg (by simp [h1,h2]),if_neg (by simp [h3]),if_neg (by simp [h4]),if_pos h]
theorem sub_quota {y:Yard} {a:Label} {x:Wish} (h1:yardRight y=true) (h2:wishRight x=true) (h3:noLabelS y a x=false) (h4:noTaskS y x=false) (h5:¬ 12 < (manyT y.tasks a:Int)+x.count) (h:quotaOf y.config a < (liveN y.tasks a:Int)+x.count):subY y a x=illY 8:=by rw [subY,if_neg (by simp [h1,h2]),if_neg (by simp [h3]),if_neg (by simp [h4]),if_neg h5,if_pos h]
theorem sub_done {y:Yard} {a:Label} {x:Wish} (h1:yardRight y=true) (h2:wishRight x=true) (h3:noLabelS y a x=false) (h4:noTaskS y x=false) (h5:¬ 12 < (manyT y.tasks a:Int)+x.count) (h:¬ quotaOf y.config a < (liveN y.tasks a:Int)+x.count):subY y a x=⟨⟨y.config,y.nodes,subT y a x,y.uses,y.now⟩,manyT y.tasks a+1,0⟩:=by rw [subY,if_neg (by simp [h1,h2]),if_neg (by simp [h3]),if_neg (by simp [h4]),if_neg h5,if_neg h]
theorem newT_succ (now:Int) (a:Label) (x:Wish) (m:Int) (k:Nat):newT now a x m (k+1)=newT now a x m k ++ [wishT now a x (m+1+k)]:=by simp [newT,List.range_succ]
theorem newT_length (now:Int) (a:Label) (x:Wish) (m:Int) (k:Nat):(newT now a x m k).length=k:=by simp [newT]
theorem manyT_succ {l:List Task} {a:Label} {k:Nat} (hk:k < l.length):manyT (l.take (k+1)) a=manyT (l.take k) a+if isL a (nth l k)=true then 1 else 0:=by
 rw [manyT,take_succ_nth hk,List.countP_append,manyT]
 simp [List.countP_cons]
theorem right_less {l:List Task} (h:tasksRight l=true) {i j:Nat} (hj:j < l.length) (hij:i < j):cmpI (nth l i) (nth l j) < 0:=by
 have hr:=fun k hk=>(right_at h (k:=k) hk)
 have ho:=order_of hj (fun k hk=>by
  have h':=h
  simp only [tasksRight,Bool.and_eq_true,List.all_eq_true,List.mem_range] at h'
  exact h'.2 k hk) (Nat.le_of_lt hij)
 rw [cmpI,orOf_pair]
 rcases cmp_key (taskRight_label (hr i (by omega))) (taskRight_label (hr j hj)) with ⟨h1,h2⟩ | ⟨h1,h2⟩ | ⟨h1,h2⟩
 · rw [if_neg (by omega)];exact h2
 · rw [if_pos h2]
   have:=ho.2 h1
   exact cmp3_lt.2 (by omega)
 · exfalso
   have:=ho.1
   omega
theorem right_sorted {l:List Task} (h:tasksRight l=true):l.Pairwise fun a b=>cmpI a b < 0:=by
 rw [List.pairwise_iff_getElem]
 intro i j hi hj hij
 have:=right_less h hj hij
 rwa [nth_eq hi,nth_eq hj] at this
theorem cmpI_zero {a b:Task} (h:cmpI a b=0):a.label.level=b.label.level∧a.label.set=b.label.set∧a.id=b.id:=by
 rw [cmpI,orOf_pair] at h
 split at h
 · rename_i h0
   have h1:=cmp3_eq h
   unfold cmpLabels at h0
   rw [orOf_pair] at h0
   split at h0
   · rename_i h2
     exact ⟨cmp3_eq h2,cmp3_eq h0,h1⟩
   · contradiction
 · contradiction
theorem id_many {l:List Task} (h:tasksRight l=true) {a:Label}:∀ k,k≤l.length→∀ j,j < k→(nth l j).label=a→(nth l j).id≤manyT (l.take k) a:=by
 intro k
 induction k with
 | zero=>intro _ j hj;omega
 | succ k ih =>
   intro hk j hj ha
   have hs:=manyT_succ (a:=a) (show k < l.length by omega)
   rcases Nat.lt_or_ge j k with hjk | hjk
   · have:=ih (by omega) j hjk ha
     omega
   · obtain rfl:k=j:=by omega
     have hi:idOk l k=true:=by
      have h':=h
      simp only [tasksRight,Bool.and_eq_true,List.all_eq_true,List.mem_range] at h'
      have:=h'.2 k (by omega)
      simp only [tI,Bool.and_eq_true] at this
      exact this.1.2
     rw [hs,if_pos (by simp [isL,ha])]
     unfold idOk at hi
     split at hi
     · have:(nth l k).id=1:=by simpa using hi
       omega
     · rename_i h0
       have hprev:=ih (by omega) (k - 1) (by omega)
       split at hi
       · cases hi
       · split at hi
         · rename_i h2
           have e1:(nth l k).id=(nth l (k - 1)).id+1:=by simpa using hi
           unfold cmpLabels at h2
           rw [orOf_pair] at h2
           have e2:(nth l (k - 1)).label=a:=by
            rw [← ha]
            split at h2
            · rename_i h3
              exact Label.ext (cmp3_eq h3) (cmp3_eq h2)
            · contradiction
           have:=hprev e2
           omega
         · have:(nth l k).id=1:=by simpa using hi
           omega
theorem new_apartI {y:Yard} (a:Label) (x:Wish) (k:Nat) (h:tasksRight y.tasks=true):(y.tasks ++ newT y.now a x (manyT y.tasks a) k).Pairwise fun a b=>cmpI a b≠0:=by
 rw [List.pairwise_append]
 refine ⟨(right_sorted h).imp fun h=>by omega,?_,?_⟩
 · rw [List.pairwise_iff_getElem]
   intro i j hi hj hij e
   have:=(cmpI_zero e).2.2
   simp only [newT,List.getElem_map,List.getElem_range,wishT] at this
   omega
 · intro t ht u hu e
   obtain ⟨i,hi,rfl⟩:=List.getElem_of_mem ht
   obtain ⟨j,hj,rfl⟩:=List.mem_map.1 hu
   obtain ⟨e1,e2,e3⟩:=cmpI_zero e
   have:=id_many h (a:=a) y.tasks.length (Nat.le_refl _) i hi (by rw [nth_eq hi];exact Label.ext e1 e2)
   rw [List.take_length,nth_eq hi,e3] at this
   simp only [wishT] at this
   omega
theorem sub_sorted {y:Yard} {a:Label} {x:Wish} {k:Nat} {m:List Task} (h:tasksRight y.tasks=true) (hp:m.Perm (y.tasks ++ newT y.now a x (manyT y.tasks a) k)) (hs:m.Pairwise fun a b=>cmpI a b≤0):m=(newT y.now a x (manyT y.tasks a) k).foldl (putL cmpI) y.tasks:=by
 rw [sortL_unique lin_I (new_apartI a x k h) hp hs,sortL,List.foldl_append]
 congr 1
 exact (sortL_unique lin_I ((right_sorted h).imp fun h=>by omega) (List.Perm.refl _) ((right_sorted h).imp fun h=>by omega)).symm
end Go.Proofs.YtoblacfjmcpbmaaGreat
