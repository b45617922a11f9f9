/- One epoch of a yard, in plain Lean: what it computes, that the planner may be asked in it, and where a task's place lies in a plan. No program in sight. -/
import Derived.Test.YtoblacfjmcpbmaaGreatHalf
import Derived.Test.YtoblacfjmcpbmaaGreatGYardT
import Derived.Test.YtoblacfjmcpbmaaGreatYardTt
import Derived.Test.YtoblacfjmcpbmaaGreatTaskR
import Derived.Test.YtoblacfjmcpbmaaGreatOwn
import Derived.Test.YtoblacfjmcpbmaaGreatPvBase
namespace Go.Proofs.YtoblacfjmcpbmaaGreat
open Go.RowKit
def useFold (l:List Task) (u:List Use):List Use:=l.foldl (fun u t=>if runsB t=true then useAdd u t.label t.owner t.need else u) u
def halfU (y:Yard) (u:List Use):List Use:=if (y.now+1) % y.config.half=0 then usesHalf u else u
def overT (now:Int) (t:Task):Task:=if runsB t=true∧endOf t≤now then withTask t 5 else t
def midTasks (y:Yard):List Task:=y.tasks.map (overT (y.now+1))
def midY (y:Yard):Yard:=⟨y.config,booksPass y.nodes (y.now+1),orphL (midTasks y),halfU y (useFold y.tasks y.uses),y.now+1⟩
def placedT (now:Int) (t:Task) (p:Place):Task:=⟨t.label,t.id,t.owner,t.need,t.long,t.prio,t.under,t.after,t.born,if p.from_=now then 2 else 1,p.from_,p.nodes⟩
def putT (now:Int) (ps:List Place) (t:Task):Task :=
 if t.state=2∨t.state=1 then
  if idxOf (isOf t.label t.id) ps < 0 then withTask t 1
  else if (nth ps (idxOf (isOf t.label t.id) ps).toNat).runs=true then t else placedT now t (nth ps (idxOf (isOf t.label t.id) ps).toNat)
 else t
def applyY (y:Yard) (ps:List Place):Yard:=⟨y.config,y.nodes,y.tasks.map (putT y.now ps),y.uses,y.now⟩
def tickY (y:Yard):YardOut:=if yardRight y=false then illY 1 else if y.now=999900 then illY 9 else ⟨applyY (midY y) (planTo (midY y) 31),0,0⟩
def ticksUp (y:Yard):Nat→YardOut
 | 0=>⟨y,0,0⟩
 | k+1=>if (ticksUp y k).code=0 then tickY (ticksUp y k).yard else ticksUp y k
def ticksY (y:Yard) (n:Int):YardOut:=if isB n 1 50=true then ticksUp y n.toNat else illY 8
theorem tick_bad {y:Yard} (h:yardRight y=false):tickY y=illY 1:=by rw [tickY,if_pos h]
theorem tick_full {y:Yard} (h:yardRight y=true) (hn:y.now=999900):tickY y=illY 9:=by rw [tickY,if_neg (by simp [h]),if_pos hn]
theorem tick_ok {y:Yard} (h:yardRight y=true) (hn:y.now≠999900):tickY y=⟨applyY (midY y) (planTo (midY y) 31),0,0⟩:=by rw [tickY,if_neg (by simp [h]),if_neg hn]
theorem with_right {x:Task} {s:Int} (h:taskRight x=true) (hs:isB s 1 6=true) (h2:s≠2):taskRight (withTask x s)=true:=by
 simp only [taskRight,withTask,Bool.and_eq_true] at h ⊢
 refine ⟨⟨⟨h.1.1.1,hs⟩,h.1.2⟩,?_⟩
 simp [placeOk,h2]
theorem right_map {l:List Task} {f:Task→Task} (hf:∀ t,(f t).label=t.label∧(f t).id=t.id∧(f t).under=t.under∧(f t).after=t.after) (hr:∀ t,taskRight t=true→taskRight (f t)=true) (h:tasksRight l=true):tasksRight (l.map f)=true:=by
 have hl:=tasksRight_length h
 have hix:∀ a n,taskIx (l.map f) a n=taskIx l a n:=fun a n=>by
  unfold taskIx
  refine idxOf_ext (by rw [List.length_map]) fun k hk=>?_
  rw [List.length_map] at hk
  rw [nth_map hk]
  obtain ⟨h1,h2,_⟩:=hf (nth l k)
  simp only [isTask,h1,h2]
 rw [tasksRight_of,List.length_map,decide_eq_true hl]
 intro k hk
 rw [List.length_map] at hk
 have h':=h
 simp only [tasksRight,Bool.and_eq_true,List.all_eq_true,List.mem_range] at h'
 have hh:=h'.2 k hk
 simp only [tI,Bool.and_eq_true] at hh ⊢
 obtain ⟨h1,h2,h3,h4⟩:=hf (nth l k)
 refine ⟨⟨?_,?_⟩,?_⟩
 · rw [nth_map hk];exact hr _ hh.1.1
 · have hi:=hh.1.2
   unfold idOk at hi ⊢
   split
   · rename_i h0
     rw [if_pos h0] at hi
     rw [nth_map hk,h2];exact hi
   · rename_i h0
     rw [if_neg h0] at hi
     obtain ⟨g1,g2,_⟩:=hf (nth l (k - 1))
     rw [nth_map hk,nth_map (show k - 1 < l.length by omega),h1,h2,g1,g2]
     exact hi
 · have hd:=hh.2
   unfold depI at hd ⊢
   rw [nth_map hk,h3,h4,hix]
   exact hd
theorem over_same (now:Int) (t:Task):(overT now t).label=t.label∧(overT now t).id=t.id∧(overT now t).under=t.under∧(overT now t).after=t.after:=by
 unfold overT
 split <;> exact ⟨rfl,rfl,rfl,rfl⟩
theorem over_right (now:Int) (t:Task) (h:taskRight t=true):taskRight (overT now t)=true:=by
 unfold overT
 split
 · exact with_right h (by decide) (by decide)
 · exact h
theorem mid_tasks {y:Yard} (h:yardRight y=true):tasksRight (midTasks y)=true:=right_map (over_same _) (over_right _) (right_tasks h)
theorem pass_right {l:List Node} {now:Int} (h:nodesRight l=true):nodesRight (l.map (passNode now))=true:=by
 simp only [nodesRight,Bool.and_eq_true,List.all_eq_true,List.length_map] at h ⊢
 refine ⟨h.1,fun x hx=>?_⟩
 obtain ⟨z,hz,rfl⟩:=List.mem_map.1 hx
 have:=h.2 z hz
 simp only [nodeOk,passNode,Bool.and_eq_true,decide_eq_true_eq] at this ⊢
 exact ⟨this.1,decide_eq_true (Nat.le_trans (List.length_filter_le _ _) this.2.1),filter_right this.2.2⟩
theorem mid_task {y:Yard} (h:yardRight y=true) {t:Task} (ht:t∈orphL (midTasks y)):taskRight t=true∧(∀ n∈t.nodes,0≤n∧n.toNat < y.nodes.length)∧(t.state=2→t.start≤y.now+1∧y.now+1 < endOf t)∧(t.state=1→0 < t.nodes.length→y.now+1≤t.start):=by
 have hm:=mid_tasks h
 have hr:∀ k,k < (orphL (midTasks y)).length→taskRight (nth (orphL (midTasks y)) k)=true:=fun k hk=>all_right (orph_right hm) hk
 obtain ⟨k,hk,e⟩:=List.getElem_of_mem ht
 rw [orphL_length] at hk
 have hk2:k < y.tasks.length:=by simpa [midTasks] using hk
 have h1:=hr k (show k < (orphL (midTasks y)).length by rw [orphL_length];exact hk)
 have h2:=orph_elem hm hk
 rw [nth_eq (show k < (orphL (midTasks y)).length by rw [orphL_length];exact hk),e] at h1 h2
 have hx:nth (midTasks y) k=overT (y.now+1) (nth y.tasks k):=nth_map hk2
 obtain ⟨a1,a2,a3,a4⟩:=right_task h (nth_mem hk2)
 refine ⟨h1,?_⟩
 rcases h2 with e2 | e2
 · rw [hx] at e2
   rw [e2]
   unfold overT
   split
   · rename_i hc
     exact ⟨by simp [withTask],by simp [withTask],by simp [withTask]⟩
   · rename_i hc
     refine ⟨a2,fun hs=>?_,fun hs hl=>(a4 (by omega) hl).1⟩
     have hrun:runsB (nth y.tasks k)=true:=by simp [runsB,hs]
     have h5:¬ endOf (nth y.tasks k)≤y.now+1:=fun h6=>hc ⟨hrun,h6⟩
     have:=a3 hs
     omega
 · rw [e2]
   exact ⟨by simp [gone],by simp [gone],by simp [gone]⟩
theorem mid_ok {y:Yard} (h:yardRight y=true) (hn:y.now≠999900):PlanOk (midY y):=by
 have h0:=right_now h
 have hc:=right_clear (right_config h)
 have hnr:=right_nodes h
 have e:booksPass y.nodes (y.now+1)=y.nodes.map (passNode (y.now+1)):=by rw [booksPass,if_pos hnr]
 have hnr2:nodesRight (booksPass y.nodes (y.now+1))=true:=by rw [e];exact pass_right hnr
 have hl2:(booksPass y.nodes (y.now+1)).length=y.config.nodes.length:=by rw [e,List.length_map];exact right_len h
 have hnow:0≤y.now+1∧y.now+1≤999900:=by omega
 refine ⟨⟨orph_right (mid_tasks h),?_⟩,rows_ok (y:=midY y) hnr2 hl2 hnow,fun t ht=>?_,hl2,hnr2,hc.1,hc.2⟩
 · show 0≤y.now+1∧y.now+1≤1000000
   omega
 · obtain ⟨a,b,c,d⟩:=mid_task h ht
   refine task_fit (y:=midY y) a (fun n hn=>?_) c d hnow
   have:=b n hn
   refine ⟨this.1,?_⟩
   show n.toNat < (booksPass y.nodes (y.now+1)).length
   rw [hl2,← right_len h]
   exact this.2
end Go.Proofs.YtoblacfjmcpbmaaGreat
/- The program's apply: the tasks of a yard are given the places of a plan. -/
namespace Go.Proofs.YtoblacfjmcpbmaaGreat
open Go.RowKit
attribute [local irreducible] wpQuiet
theorem tasks_ow {w:World} {v:Value} {l:List Task} {F:List Nat} (h:OwS OTask 46 w v l F):∃ (ts:List TV) (FT:List Nat),ts.map TV.x=l∧OwS OTV 46 w v ts FT∧(∀ b∈FT,b∈F)∧∀ e∈ts,Rd EInt (fun b=>b∈F∧b∉FT) w e.v e.x.nodes:=by
 rcases h with ⟨rfl,rfl,A,rfl⟩ | ⟨B,c,C,Fs,rfl,hB,h1,h2,h3,hl,rfl,hn,hall⟩
 · exact ⟨[],[],rfl,OwS.nil A,by simp,by simp⟩
 · have key:∀ (k j:Nat),(List.range l.length)[k]? = some j→∃ e:TV,j < l.length∧e.x=nth l j∧FitTask (nth l j)∧w.rangeAt B (j * 14) (cellsTask (nth l j) e.v)∧Rd EInt (fun b=>b∈B :: Fs.flatten∧b∉[B]) w e.v (nth l j).nodes:=fun k j hj=>by
    have hk:k < l.length:=by have:=(List.getElem?_eq_some_iff.1 hj).1;simpa using this
    obtain rfl:k=j:=by rw [List.getElem?_range hk] at hj;exact Option.some.inj hj
    obtain ⟨cs,⟨u,rfl,hf,ho⟩,hc⟩:=hall k hk
    obtain ⟨A',c',rfl,-⟩:=ho.form
    refine ⟨⟨nth l k,A',(nth l k).nodes.length,c'⟩,hk,rfl,hf,hc,ho.rd.sub fun b hb=>?_⟩
    have hm:=nth_mem_flatten (l:=Fs) (k:=k) (by omega) hb
    refine ⟨List.mem_cons_of_mem _ hm,fun he=>?_⟩
    obtain rfl:b=B:=by simpa using he
    exact (List.nodup_cons.1 hn).1 hm
   obtain ⟨m,hm1,hm2⟩:=list_choose key
   have hml:m.length=l.length:=by rw [hm1];simp
   have hget:∀ k,k < l.length→(nth m k).x=nth l k∧FitTask (nth l k)∧w.rangeAt B (k * 14) (cellsTask (nth l k) (nth m k).v)∧Rd EInt (fun b=>b∈B :: Fs.flatten∧b∉[B]) w (nth m k).v (nth l k).nodes:=fun k hk=>by
    obtain ⟨e,he,-,g⟩:=hm2 k k (List.getElem?_range hk)
    rw [show nth m k=e by unfold nth;rw [List.getD_eq_getElem?_getD,he];rfl]
    exact g
   refine ⟨m,[B],?_,.inr ⟨B,c,C,List.replicate m.length [],by rw [hml],hB,by rw [hml];exact h1,h2,h3,List.length_replicate ..,(flat_flatten ..).symm ▸ rfl,by simp,fun k hk=>?_⟩,fun b hb=>(List.mem_singleton.1 hb) ▸ List.mem_cons_self,fun e he=>?_⟩
   · refine List.ext_getElem? fun k=>?_
     rw [List.getElem?_map]
     rcases Nat.lt_or_ge k l.length with hk | hk
     · rw [List.getElem?_eq_getElem hk,List.getElem?_eq_getElem (by omega:k < m.length)]
       have:=(hget k hk).1
       rw [nth_eq (by omega:k < m.length),nth_eq hk] at this
       exact congrArg some this
     · rw [List.getElem?_eq_none hk,List.getElem?_eq_none (by omega:m.length≤k)];rfl
   · rw [show nth (List.replicate m.length ([]:List Nat)) k = [] from flat_list (α:=Nat) hk]
     obtain ⟨g1,g2,g3,-⟩:=hget k (by omega)
     exact ⟨_,⟨⟨rfl,by rw [g1];exact g2⟩,rfl⟩,by rw [g1];exact g3⟩
   · obtain ⟨k,hk,rfl⟩:=List.getElem_of_mem he
     obtain ⟨g1,-,-,g4⟩:=hget k (by omega)
     rw [nth_eq hk] at g1 g4
     rw [g1]
     exact g4
end Go.Proofs.YtoblacfjmcpbmaaGreat
