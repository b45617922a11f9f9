/- Orphans as plain Lean: built element by element, or written in place, it comes to the same. A task's copy, with nodes of its own. A task's copy, with nodes of its own. Copies of lists of tasks, with nodes of their own. -/
import Derived.Test.YtoblacfjmcpbmaaGreatTasksP
import Derived.Test.YtoblacfjmcpbmaaGreatNodeC
import Derived.Test.YtoblacfjmcpbmaaGreatGYardT
set_option maxHeartbeats 4000000
set_option maxRecDepth 100000
namespace Go.Proofs.YtoblacfjmcpbmaaGreat
open Go.RowKit
def gone (x:Task):Task:={ x with state:=6,start:=0,nodes:=[] }
def badEnd (n:Int):Bool:=decide (n=5) || decide (n=6)
def waits (x:Task):Bool:=!decide (x.after=0) && (decide (x.state=1) || decide (x.state=3))
def lost (m:List Task) (x:Task):Bool:=waits x && badEnd (nth m (taskIx m x.under x.after).toNat).state
def orphStep (m:List Task) (x:Task):List Task:=m ++ [if lost m x=true then gone x else x]
def orphL (l:List Task):List Task:=l.foldl orphStep []
theorem orphL_succ {l:List Task} {k:Nat} (hk:k < l.length):orphL (l.take (k+1))=orphStep (orphL (l.take k)) (nth l k):=by
 unfold orphL
 rw [List.take_succ_eq_append_getElem hk,List.foldl_append,← nth_eq hk]
 rfl
theorem orphL_length:∀ (l:List Task),(orphL l).length=l.length:=by
 have h:∀ (l a:List Task),(l.foldl orphStep a).length=a.length+l.length:=by
  intro l
  induction l with
  | nil=>simp
  | cons x l ih=>intro a;rw [List.foldl_cons,ih];simp [orphStep];omega
 intro l
 have:=h l []
 simpa [orphL] using this
theorem orphL_same (l:List Task):∀ k,k≤l.length→∀ j,j < k→(nth (orphL (l.take k)) j).label=(nth l j).label∧(nth (orphL (l.take k)) j).id=(nth l j).id:=by
 intro k
 induction k with
 | zero=>intro _ j hj;omega
 | succ k ih =>
   intro hk j hj
   have hlen:(orphL (l.take k)).length=k:=by rw [orphL_length,List.length_take];omega
   rw [orphL_succ (by omega),orphStep]
   rcases Nat.lt_or_ge j k with h | h
   · rw [nth_append_left (by omega)]
     exact ih (by omega) j h
   · obtain rfl:j=k:=by omega
     have e:=nth_append_right (l:=orphL (l.take j)) (m:=[if lost (orphL (l.take j)) (nth l j)=true then gone (nth l j) else nth l j]) (k:=0) (by simp)
     rw [hlen,Nat.add_zero] at e
     rw [e,show ∀ y:Task,nth [y] 0=y from fun _=>rfl]
     split <;> exact ⟨rfl,rfl⟩
theorem taskIx_front {a b:List Task} {x:Label} {n:Int} (h:0≤taskIx a x n):taskIx (a ++ b) x n=taskIx a x n:=by
 unfold taskIx at *
 rcases idxOf_cases (isTask x n) a with ⟨h1,_⟩ | ⟨k,hk,h1,hp,hf⟩
 · rw [h1] at h;omega
 · rw [h1]
   refine idxOf_some (by rw [List.length_append];omega) (fun j hj=>?_) ?_
   · rw [nth_append_left (by omega)];exact hf j hj
   · rw [nth_append_left hk];exact hp
theorem taskIx_lt {a:List Task} {x:Label} {n:Int} (h:0≤taskIx a x n):(taskIx a x n).toNat < a.length∧((taskIx a x n).toNat:Int)=taskIx a x n:=by
 unfold taskIx at *
 rcases idxOf_cases (isTask x n) a with ⟨h1,_⟩ | ⟨k,hk,h1,hp,hf⟩
 · rw [h1] at h;omega
 · rw [h1];exact ⟨by simpa using hk,by simp⟩
theorem taskIx_some_of {a:List Task} {x:Label} {n:Int} {j:Nat} (hj:j < a.length) (h1:(nth a j).label=x) (h2:(nth a j).id=n):0≤taskIx a x n:=taskIx_mem.2 ⟨j,hj,h1,h2⟩
theorem lost_front {a b:List Task} {x:Task} (h:waits x=true→0≤taskIx a x.under x.after):lost (a ++ b) x=lost a x:=by
 unfold lost
 cases hw:waits x with
 | false=>rfl
 | true =>
   have h0:=h hw
   rw [taskIx_front h0,nth_append_left (taskIx_lt h0).1]
theorem dep_front {l:List Task} {k:Nat} (hk:k < l.length) (h:tasksRight l=true) (hw:waits (nth l k)=true):0≤taskIx (orphL (l.take k)) (nth l k).under (nth l k).after:=by
 simp only [tasksRight,Bool.and_eq_true,List.all_eq_true,List.mem_range] at h
 have hs:=tS_of_tI h.2 hk
 simp only [tS,depI,Bool.and_eq_true,Bool.or_eq_true,decide_eq_true_eq] at hs
 have hn:(nth l k).after≠0:=by
  intro e
  simp [waits,e] at hw
 obtain ⟨j,hj,h1,h2⟩:=taskIx_mem.1 (hs.2.resolve_left hn)
 have hjk:j < k:=by rw [List.length_take] at hj;omega
 rw [nth_take hjk (by omega)] at h1 h2
 obtain ⟨e1,e2⟩:=orphL_same l k (by omega) j hjk
 exact taskIx_some_of (by rw [orphL_length,List.length_take];omega) (e1.trans h1) (e2.trans h2)
def orphM (l:List Task) (k:Nat):List Task:=orphL (l.take k) ++ l.drop k
theorem orphM_zero (l:List Task):orphM l 0=l:=by simp [orphM,orphL]
theorem orphM_full (l:List Task):orphM l l.length=orphL l:=by simp [orphM]
theorem orphM_length {l:List Task} {k:Nat} (hk:k≤l.length):(orphM l k).length=l.length:=by rw [orphM,List.length_append,orphL_length,List.length_take,List.length_drop];omega
theorem orphM_nth {l:List Task} {k:Nat} (hk:k < l.length):nth (orphM l k) k=nth l k:=by
 have hlen:(orphL (l.take k)).length=k:=by rw [orphL_length,List.length_take];omega
 have e:=nth_append_right (l:=orphL (l.take k)) (m:=l.drop k) (k:=0) (by rw [List.length_drop];omega)
 rw [hlen,Nat.add_zero] at e
 rw [orphM,e,nth_eq (by rw [List.length_drop];omega),nth_eq hk]
 simp
theorem orphM_lost {l:List Task} {k:Nat} (hk:k < l.length) (h:tasksRight l=true):lost (orphM l k) (nth l k)=lost (orphL (l.take k)) (nth l k):=lost_front fun hw=>dep_front hk h hw
theorem orphM_yes {l:List Task} {k:Nat} (hk:k < l.length) (h:tasksRight l=true) (hl:lost (orphM l k) (nth l k)=true):(orphM l k).set k (gone (nth l k))=orphM l (k+1):=by
 have hlen:(orphL (l.take k)).length=k:=by rw [orphL_length,List.length_take];omega
 rw [orphM_lost hk h] at hl
 rw [orphM,orphM,orphL_succ hk,orphStep,if_pos hl,List.set_append_right _ _ (by omega),hlen,Nat.sub_self,drop_nth hk,List.set_cons_zero,List.append_assoc]
 rfl
theorem orphM_no {l:List Task} {k:Nat} (hk:k < l.length) (h:tasksRight l=true) (hl:lost (orphM l k) (nth l k)=false):orphM l k=orphM l (k+1):=by
 rw [orphM_lost hk h] at hl
 rw [orphM,orphM,orphL_succ hk,orphStep,hl,if_neg (by simp),drop_nth hk,List.append_assoc]
 rfl
end Go.Proofs.YtoblacfjmcpbmaaGreat
namespace Go.Proofs.YtoblacfjmcpbmaaGreat
open Go.RowKit
attribute [local irreducible] wpQuiet
theorem copyTask_own {S:Nat→Prop} (x:Task) (cs:List Value) (w:World) (h:ETask.rel S w cs x) (hs:x.nodes.length≤1000000000) :
 Calls Tryz.prog 32 #[.agg cs.toArray] w (RetOS OTask x w):=by
 obtain ⟨v1,rfl,hi,h1⟩:=h
 have HI:=Lib.hid hi
 have H1:=Lib.hid h1
 have HS:=Lib.hid hs
 have ho:=h1.one
 have HO:=Lib.hid ho
 clear hi h1 hs ho
 simp only [cellsTask]
 go_enter Tryz.func32,Tryz.ntmps32
 go_wp2_with fail
 obtain ⟨W,B,hW,hB,hx0,a0,r0⟩:=boxes2 w #[.int .i64 x.label.level,.int .i64 x.label.set,.int .i64 x.id,.string x.owner,.int .i64 x.need,.int .i64 x.long,.int .i64 x.prio,.int .i64 x.under.level,.int .i64 x.under.set,.int .i64 x.after,.int .i64 x.born,.int .i64 x.state,.int .i64 x.start,v1] #[.int .i64 0,.int .i64 0,.int .i64 0,.string ⟨#[]⟩,.int .i64 0,.int .i64 0,.int .i64 0,.int .i64 0,.int .i64 0,.int .i64 0,.int .i64 0,.int .i64 0,.int .i64 0,.slice none 0 0] 46 46
 try rw [← hW,← hB]
 have HB:=Lib.hid hB
 clear hW hB
 have A_0:=Lib.hid a0
 have R_0:=Lib.hid r0
 have X_0:=Lib.hid hx0
 clear a0 r0 hx0
 have ac:=A_0.out.cell
 have af:=A_0.out.frozen
 refine (cloneInt_any x.nodes v1 _ (H1.out.ext X_0.out) HS.out).mono ?_
 rintro e w1 ⟨u1,F1,rfl,q1,g1,hx⟩
 obtain ⟨p1,k1,rfl,-⟩:=q1.form
 have Q1:=Lib.hid q1
 have L1:Hid (∀ b∈F1,B+1 < b):=Lib.hid (fun b hb=>Nat.lt_of_lt_of_le (by have hl:=(show Blk _ _ _ _ from R_0.out).lt;exact hl) (g1 b hb))
 clear g1 q1
 have A_1:Hid (Blk w1 B 46 #[.int .i64 x.label.level,.int .i64 x.label.set,.int .i64 x.id,.string x.owner,.int .i64 x.need,.int .i64 x.long,.int .i64 x.prio,.int .i64 x.under.level,.int .i64 x.under.set,.int .i64 x.after,.int .i64 x.born,.int .i64 x.state,.int .i64 x.start,v1]):=Lib.hid (A_0.out.ext hx)
 have R_1:Hid (Blk w1 (B+1) 46 #[.int .i64 0,.int .i64 0,.int .i64 0,.string ⟨#[]⟩,.int .i64 0,.int .i64 0,.int .i64 0,.int .i64 0,.int .i64 0,.int .i64 0,.int .i64 0,.int .i64 0,.int .i64 0,.slice none 0 0]):=Lib.hid (R_0.out.ext hx)
 have X_1:Hid (Ext w w1):=Lib.hid (Ext.trans X_0.out hx)
 clear hx
 try clear ac af
 have ac:=A_1.out.cell
 have af:=A_1.out.frozen
 clear A_0 R_0 X_0
 go_wp2_with (first
  | (refine wpList_load_mid rfl 46 _ rfl B 0 rfl [.int .i64 x.label.level,.int .i64 x.label.set,.int .i64 x.id,.string x.owner,.int .i64 x.need,.int .i64 x.long,.int .i64 x.prio,.int .i64 x.under.level,.int .i64 x.under.set,.int .i64 x.after,.int .i64 x.born,.int .i64 x.state,.int .i64 x.start,.slice p1 x.nodes.length k1] _ ?hl Tryz.underlying46 rfl (by kernel_rfl) ?_)
  | (refine wpList_store_mid rfl 46 _ _ rfl (B+1) 0 #[.int .i64 x.label.level,.int .i64 x.label.set,.int .i64 x.id,.string x.owner,.int .i64 x.need,.int .i64 x.long,.int .i64 x.prio,.int .i64 x.under.level,.int .i64 x.under.set,.int .i64 x.after,.int .i64 x.born,.int .i64 x.state,.int .i64 x.start,.slice p1 x.nodes.length k1] rfl rfl ?ht (by kernel_rfl) ?ho ?_))
 case hl=>exact Blk.range (t:=46) (cs:=#[.int .i64 x.label.level,.int .i64 x.label.set,.int .i64 x.id,.string x.owner,.int .i64 x.need,.int .i64 x.long,.int .i64 x.prio,.int .i64 x.under.level,.int .i64 x.under.set,.int .i64 x.after,.int .i64 x.born,.int .i64 x.state,.int .i64 x.start,.slice p1 x.nodes.length k1]) (by simpa using (A_1.out.set_ 13 (.slice p1 x.nodes.length k1)))
 case ht=>exact Blk.there (t:=46) (cs:=#[.int .i64 0,.int .i64 0,.int .i64 0,.string ⟨#[]⟩,.int .i64 0,.int .i64 0,.int .i64 0,.int .i64 0,.int .i64 0,.int .i64 0,.int .i64 0,.int .i64 0,.int .i64 0,.slice none 0 0]) (by repeat (first | with_reducible exact R_1.out | refine Blk.far ?_ (by simp <;> omega) _))
 case ho=>exact all_oneCell_toArray (cs:=[.int .i64 x.label.level,.int .i64 x.label.set,.int .i64 x.id,.string x.owner,.int .i64 x.need,.int .i64 x.long,.int .i64 x.prio,.int .i64 x.under.level,.int .i64 x.under.set,.int .i64 x.after,.int .i64 x.born,.int .i64 x.state,.int .i64 x.start,.slice p1 x.nodes.length k1]) (by simp [Value.oneCell'])
 exact bodyPost_ret (v:=.agg #[.int .i64 x.label.level,.int .i64 x.label.set,.int .i64 x.id,.string x.owner,.int .i64 x.need,.int .i64 x.long,.int .i64 x.prio,.int .i64 x.under.level,.int .i64 x.under.set,.int .i64 x.after,.int .i64 x.born,.int .i64 x.state,.int .i64 x.start,.slice p1 x.nodes.length k1]) (results_blk Tryz.results32 rfl (Blk.setAll (t:=46) (cs:=#[.int .i64 0,.int .i64 0,.int .i64 0,.string ⟨#[]⟩,.int .i64 0,.int .i64 0,.int .i64 0,.int .i64 0,.int .i64 0,.int .i64 0,.int .i64 0,.int .i64 0,.int .i64 0,.slice none 0 0]) (vs:=#[.int .i64 x.label.level,.int .i64 x.label.set,.int .i64 x.id,.string x.owner,.int .i64 x.need,.int .i64 x.long,.int .i64 x.prio,.int .i64 x.under.level,.int .i64 x.under.set,.int .i64 x.after,.int .i64 x.born,.int .i64 x.state,.int .i64 x.start,.slice p1 x.nodes.length k1]) (by repeat (first | with_reducible exact R_1.out | refine Blk.far ?_ (by simp <;> omega) _)) rfl) Tryz.underlying46 rfl (by kernel_rfl)) rfl ⟨_,F1,rfl,⟨_,rfl,HI.out,(Q1.out.kept (G:=[B,B+1]) (Kept.setCells (by simp) _ _ _ (by repeat (first | exact Kept.refl _ _ | refine Kept.setCell ?_ (by simp) _))) (fun b hb=>by have:=L1.out b hb;simp;omega))⟩,fun b hb=>(by have:=L1.out b hb;rw [← HB.out];omega),setCells_ext (by rw [← HB.out];omega) _ _ _ (by repeat (first | with_reducible exact X_1.out | refine Ext.setCell ?_ (by show w.heap.size≤B;rw [← HB.out];exact Nat.le_refl _) _))⟩
end Go.Proofs.YtoblacfjmcpbmaaGreat
namespace Go.Proofs.YtoblacfjmcpbmaaGreat
open Go.RowKit
attribute [local irreducible] wpQuiet
end Go.Proofs.YtoblacfjmcpbmaaGreat
namespace Go.Proofs.YtoblacfjmcpbmaaGreat
open Go.RowKit
attribute [local irreducible] wpQuiet
theorem copyTasks_any {S:Nat→Prop} (l:List Task) (v:Value) (w:World) (h:Rd ETask S w v l) (hl:l.length≤1000000) (hs:∀ k,k < l.length→(nth l k).nodes.length≤1000000000) :
 Calls Tryz.prog 71 #[v] w (RetO OTask 46 l w):=by
 obtain ⟨A,c,rfl,h1,h2,hk⟩:=h.open_
 unfold maxLen at h2
 have HK:=Lib.hid hk
 have HS:=Lib.hid hs
 clear hk h hs
 go_enter Tryz.func71,Tryz.ntmps71
 go_wp2_with fail
 obtain ⟨W,B,hW,hB,hx0,b0⟩:∃ W B,W=w.alloc (.cells #[] 46)∧B=w.heap.size∧Ext w W∧Blk W B 46 #[]:=⟨_,_,rfl,rfl,(Ext.refl w).alloc _,Blk.new _ _ _⟩
 rw [← hW,← hB]
 have HB:Hid (w.heap.size≤B):=Lib.hid (by omega)
 have B0:=Lib.hid b0
 have X0:=Lib.hid hx0
 clear hW hB hx0 b0
 go_loopw [3,9] (fun v i w'=>∃ (k:Nat) (F:List Nat),k≤l.length∧i=.int .i64 k∧OwS OTask 46 w' v (l.take k) F∧(∀ b∈F,w.heap.size≤b)∧Ext w w') (fun _ i _=>l.length - (intOf i).toNat)
 case atStart=>exact ⟨0,[B],by omega,rfl,.inr ⟨B,0,#[],[],rfl,B0.out,Nat.le_refl _,Nat.zero_le _,rfl,rfl,rfl,by simp,fun k hk=>absurd hk (Nat.not_lt_zero _)⟩,fun b hb=>by rw [List.mem_singleton.1 hb];exact HB.out,X0.out⟩
 case round =>
  obtain ⟨k,F,hk1,rfl,hown,hF,hx⟩:=hrel
  have HO:=Lib.hid hown
  have HF:=Lib.hid hF
  have HX:=Lib.hid hx
  have LF:=Lib.hid hown.lt
  clear hown hF
  by_cases hlt:k < l.length
  · obtain ⟨b,q,cs,rfl,_,⟨v1,rfl,hfit,hrd⟩,hc⟩:=HK.out k hlt
    obtain ⟨A1,c1,rfl,-⟩:=hrd.form
    have c0:=Ext.some hx (hc 0 _ rfl)
    have c1:=Ext.some hx (hc 1 _ rfl)
    have c2:=Ext.some hx (hc 2 _ rfl)
    have c3:=Ext.some hx (hc 3 _ rfl)
    have c4:=Ext.some hx (hc 4 _ rfl)
    have c5:=Ext.some hx (hc 5 _ rfl)
    have c6:=Ext.some hx (hc 6 _ rfl)
    have c7:=Ext.some hx (hc 7 _ rfl)
    have c8:=Ext.some hx (hc 8 _ rfl)
    have c9:=Ext.some hx (hc 9 _ rfl)
    have c10:=Ext.some hx (hc 10 _ rfl)
    have c11:=Ext.some hx (hc 11 _ rfl)
    have c12:=Ext.some hx (hc 12 _ rfl)
    have c13:=Ext.some hx (hc 13 _ rfl)
    simp only [ETask,Nat.add_zero] at c0 c1 c2 c3 c4 c5 c6 c7 c8 c9 c10 c11 c12 c13
    have HFit:=Lib.hid hfit
    have HRD:=Lib.hid (hrd.ext hx)
    have HN:=Lib.hid (HS.out k hlt)
    have HT:=Lib.hid (take_succ_nth hlt)
    clear hc hfit hx hrd
    go_wp2_with (first
     | (go_at_call 32;go_loud ((with_reducible refine (copyTask_own (S:=S) (nth l k) _ _ (rel_Task HFit.out (HRD.out.ext ((Ext.refl _).alloc _))) HN.out).mono ?_);rintro e w1 ⟨cs1,G1,rfl,⟨u1,rfl,f1,q1⟩,g1,hx1⟩;obtain ⟨p1,k1,rfl,-⟩:=q1.form;have Q1:=Lib.hid q1;have X1:=Lib.hid (((Ext.refl _).alloc _).trans hx1);have Z1:Hid (∀ b∈G1,wr.heap.size≤b):=Lib.hid (fun b hb=>Nat.le_trans ((Ext.refl wr).alloc _).size (g1 b hb));clear f1 q1 g1 hx1;simp only [cellsTask]))
     | (at_builtin;refine wpList_append_one (O:=OTask) (T:=46) (l:=l.take k) (F:=F) (G:=G1) (y:=nth l k) (cs:=cellsTask (nth l k) (.slice p1 (nth l k).nodes.length k1)) rfl _ _ 32 rfl (.agg #[.int .i64 0,.int .i64 0,.int .i64 0,.string ⟨#[]⟩,.int .i64 0,.int .i64 0,.int .i64 0,.int .i64 0,.int .i64 0,.int .i64 0,.int .i64 0,.int .i64 0,.int .i64 0,.slice none 0 0]) 14 136 Tryz.underlying32 (by kernel_rfl) rfl rfl rfl ?ow _ 0 1 rfl ?own ?rng ?nd ?len (by decide) ?_;rotate_right;intro v' w2 F' how hkp hF';have HOW:=Lib.hid how;have HKP:=Lib.hid hkp;have HFF:=Lib.hid hF';clear how hkp hF'))
    case ow=>exact HO.out.ext (X1.out.alloc _)
    case own=>exact ⟨_,rfl,HFit.out,Q1.out.ext ((Ext.refl _).alloc _)⟩
    case rng =>
     have h:=(Blk.new w1 46 (cellsTask (nth l k) (.slice p1 (nth l k).nodes.length k1)).toArray).range
     simpa [cellsTask] using h
    case nd=>exact nodup_two HO.out.nodup Q1.out.nodup (fun b h1 h2=>by have a:=LF.out b h1;have c:=Z1.out b h2;omega)
    case len=>rw [List.length_take];omega
    refine ⟨⟨k+1,F',by omega,by go_num,by rw [HT.out];exact HOW.out,fun b hb=>?_,HKP.out.ext ((HX.out.trans X1.out).alloc _) HF.out⟩,by simp [intOf];omega⟩
    rcases HFF.out b hb with h | h | h
    · exact HF.out b h
    · exact Nat.le_trans HX.out.size (Z1.out b h)
    · exact Nat.le_trans ((HX.out.trans X1.out).alloc _).size h
  · obtain rfl:k=l.length:=by omega
    go_wp2_with fail
    go_ret
    exact ⟨_,F,rfl,by have h:=HO.out;rw [List.take_length] at h;exact h,HF.out,HX.out⟩
end Go.Proofs.YtoblacfjmcpbmaaGreat
