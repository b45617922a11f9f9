/- What a right row of tasks gives of each task. -/
import Derived.Test.YtoblacfjmcpbmaaGreatTasksP
import Derived.Test.YtoblacfjmcpbmaaGreatNodeC
import Derived.Laws.IdiomStrings
import Derived.Laws.BytesArg
import Derived.Test.YtoblacfjmcpbmaaGreatRows
import Derived.Laws.BitsAllLaws
import Derived.Test.YtoblacfjmcpbmaaGreatUsesC
import Derived.Test.YtoblacfjmcpbmaaGreatReady
import Derived.Deep.RegionHeld3
import Derived.Test.YtoblacfjmcpbmaaGreatTaskR
import Derived.Test.YtoblacfjmcpbmaaGreatCopies
import Derived.Test.YtoblacfjmcpbmaaGreatYardTt
import Derived.Test.YtoblacfjmcpbmaaGreatOrdY
import Derived.Test.YtoblacfjmcpbmaaGreatOrderI
namespace Go.Proofs.YtoblacfjmcpbmaaGreat
theorem taskRight_nodes {x:Task} (h:taskRight x=true):x.nodes.length≤6:=by
 simp only [taskRight,isWorkB,isB,placeOk,Bool.and_eq_true,decide_eq_true_eq] at h
 split at h <;> simp only [Bool.and_eq_true,decide_eq_true_eq] at h <;> omega
theorem tasksRight_at {l:List Task} (h:tasksRight l=true) {k:Nat} (hk:k < l.length):taskRight (nth l k)=true:=by
 simp only [tasksRight,Bool.and_eq_true,List.all_eq_true,List.mem_range] at h
 have:=h.2 k hk
 simp only [tI,Bool.and_eq_true] at this
 exact this.1.1
theorem tasksRight_length {l:List Task} (h:tasksRight l=true):l.length≤96:=by
 simp only [tasksRight,Bool.and_eq_true,decide_eq_true_eq] at h
 exact h.1
theorem tasksRight_small {l:List Task} (h:tasksRight l=true):∀ k,k < l.length→(nth l k).nodes.length≤1000000000:=fun k hk=>by
 have:=taskRight_nodes (tasksRight_at h hk)
 omega
end Go.Proofs.YtoblacfjmcpbmaaGreat
/- TaskOf in plain Lean. The bytes of a number,in plain Lean. The walk of the program's PutNum. The walk of the reference's PutNum. The walks of PutText and putNums. The walks of TaskBytes,the program's. The walk of the reference's TaskBytes. Printed by wip/tbs.py. -/
namespace Go.Proofs.YtoblacfjmcpbmaaGreat
def noTask:Task:=⟨⟨0,0⟩,0,⟨#[]⟩,0,0,0,⟨0,0⟩,0,0,0,0,[]⟩
theorem fit_noTask:FitTask noTask:=by simp [FitTask,noTask,I64,Str,ByteArray.size]
def taskOf (l:List Task) (a:Label) (n:Int):Task:=if tasksRight l=true then (if 0≤taskIx l a n then nth l (taskIx l a n).toNat else noTask) else noTask
end Go.Proofs.YtoblacfjmcpbmaaGreat
namespace Go.Proofs.YtoblacfjmcpbmaaGreat
open Go.RowKit
def EByte:Elem Int where
 size:=1
 rel:=fun _ _ cs x=>cs = [.int .u8 x]∧0≤x∧x < 256
 len:=by rintro _ _ _ _ ⟨rfl,_⟩;rfl
 keep:=fun _ h=>h
 sub:=fun _ h=>h
 one:=by rintro _ _ _ _ ⟨rfl,_⟩ v hv;rw [List.mem_singleton.1 hv];rfl
end Go.Proofs.YtoblacfjmcpbmaaGreat
namespace Go.Proofs.YtoblacfjmcpbmaaGreat
open Go.RowKit
attribute [local irreducible] wpQuiet
end Go.Proofs.YtoblacfjmcpbmaaGreat
namespace Go.Proofs.YtoblacfjmcpbmaaGreat
open Go.RowKit
attribute [local irreducible] wpQuiet
end Go.Proofs.YtoblacfjmcpbmaaGreat
namespace Go.Proofs.YtoblacfjmcpbmaaGreat
open Go.RowKit
attribute [local irreducible] wpQuiet
end Go.Proofs.YtoblacfjmcpbmaaGreat
namespace Go.Proofs.YtoblacfjmcpbmaaGreat
open Go.RowKit
attribute [local irreducible] wpQuiet
end Go.Proofs.YtoblacfjmcpbmaaGreat
namespace Go.Proofs.YtoblacfjmcpbmaaGreat
open Go.RowKit
attribute [local irreducible] wpQuiet
end Go.Proofs.YtoblacfjmcpbmaaGreat
/- The walks of TaskOf,the program's and the reference's. Printed by wip/tof.py. -/
namespace Go.Proofs.YtoblacfjmcpbmaaGreat
open Go.RowKit
attribute [local irreducible] wpQuiet
set_option maxHeartbeats 8000000 in
set_option maxRecDepth 100000 in
theorem taskOf_any {S:Nat→Prop} (l:List Task) (a:Label) (n:Int) (v:Value) (w:World) (h:Rd ETask S w v l) :
 Calls Tryz.prog 9 #[v,.agg #[.int .i64 a.level,.int .i64 a.set],.int .i64 n] w (RetOS OTask (taskOf l a n) w):=by
 have HR:=Lib.hid h
 obtain ⟨A,c,rfl,h1,h2,hk⟩:=h.open_
 unfold maxLen at h2
 have HK:=Lib.hid hk
 clear h hk
 go_enter Tryz.func9,Tryz.ntmps9
 go_upto_region 1 with (fail)
 obtain ⟨W,B,hW,hB,hx0,a0,r0⟩:=boxes2 w #[.int .i64 a.level,.int .i64 a.set] #[.int .i64 0,.int .i64 0,.int .i64 0,.string ⟨#[]⟩,.int .i64 0,.int .i64 0,.int .i64 0,.int .i64 0,.int .i64 0,.int .i64 0,.int .i64 0,.int .i64 0,.int .i64 0,.slice none 0 0] 24 46
 rw [← hW,← hB]
 have HB:=Lib.hid hB
 have A0:=Lib.hid a0
 have R0:=Lib.hid r0
 have X0:=Lib.hid hx0
 clear hW hB a0 r0 hx0
 have e0:=A0.out.cell 0
 have e1:=A0.out.cell 1
 simp only [List.getElem?_toArray,List.getElem?_cons_succ,List.getElem?_cons_zero] at e0 e1
 go_wp2_with fail
 refine (taskAt_any (S:=S) l a n _ _ (HR.out.ext X0.out)).mono ?_
 rintro e w1 ⟨rfl,hx⟩
 have X1:=Lib.hid (X0.out.trans hx)
 have R1:=Lib.hid (R0.out.ext hx)
 clear hx e0 e1
 go_wp2_with fail
 refine (tasksRight_any (S:=S) l _ _ (HR.out.ext X1.out)).mono ?_
 rintro e w2 ⟨rfl,hx⟩
 have X2:=Lib.hid (X1.out.trans hx)
 have R2:=Lib.hid (R1.out.ext hx)
 clear hx
 cases ht:tasksRight l with
 | false =>
   have HE:Hid (taskOf l a n=noTask):=Lib.hid (by simp [taskOf,ht])
   clear HK
   go_wp2_with (refine wpList_store_mid rfl 46 _ _ rfl (B+1) 0 #[.int .i64 0,.int .i64 0,.int .i64 0,.string ⟨#[]⟩,.int .i64 0,.int .i64 0,.int .i64 0,.int .i64 0,.int .i64 0,.int .i64 0,.int .i64 0,.int .i64 0,.int .i64 0,.slice none 0 0] rfl rfl (Blk.there (t:=46) (cs:=#[.int .i64 0,.int .i64 0,.int .i64 0,.string ⟨#[]⟩,.int .i64 0,.int .i64 0,.int .i64 0,.int .i64 0,.int .i64 0,.int .i64 0,.int .i64 0,.int .i64 0,.int .i64 0,.slice none 0 0]) R2.out) (by kernel_rfl) (all_oneCell_toArray (cs:=[.int .i64 0,.int .i64 0,.int .i64 0,.string ⟨#[]⟩,.int .i64 0,.int .i64 0,.int .i64 0,.int .i64 0,.int .i64 0,.int .i64 0,.int .i64 0,.int .i64 0,.int .i64 0,.slice none 0 0]) (by simp [Value.oneCell'])) ?_)
   exact bodyPost_ret (v:=.agg #[.int .i64 0,.int .i64 0,.int .i64 0,.string ⟨#[]⟩,.int .i64 0,.int .i64 0,.int .i64 0,.int .i64 0,.int .i64 0,.int .i64 0,.int .i64 0,.int .i64 0,.int .i64 0,.slice none 0 0]) (results_blk Tryz.results9 rfl (Blk.setAll (t:=46) (cs:=#[.int .i64 0,.int .i64 0,.int .i64 0,.string ⟨#[]⟩,.int .i64 0,.int .i64 0,.int .i64 0,.int .i64 0,.int .i64 0,.int .i64 0,.int .i64 0,.int .i64 0,.int .i64 0,.slice none 0 0]) (vs:=#[.int .i64 0,.int .i64 0,.int .i64 0,.string ⟨#[]⟩,.int .i64 0,.int .i64 0,.int .i64 0,.int .i64 0,.int .i64 0,.int .i64 0,.int .i64 0,.int .i64 0,.int .i64 0,.slice none 0 0]) R2.out rfl) Tryz.underlying46 rfl (by kernel_rfl)) rfl ⟨_,[],rfl,⟨.slice none 0 0,by rw [HE.out];rfl,by rw [HE.out];exact fit_noTask,by rw [HE.out];exact OwS.nil _⟩,fun b hb=>absurd hb (by simp),setCells_ext (by rw [HB.out];exact Nat.le_succ _) _ _ _ X2.out⟩
 | true =>
   have HT:=Lib.hid ht
   clear ht
   rcases idxOf_cases (isTask a n) l with ⟨hi,hn⟩ | ⟨d,hlt,hi,hq,hn⟩
   · have HI:Hid (taskIx l a n = -1):=Lib.hid hi
     have HE:Hid (taskOf l a n=noTask):=Lib.hid (by simp [taskOf,HI.out])
     clear hi hn
     rw [HI.out]
     go_wp2_with (refine wpList_store_mid rfl 46 _ _ rfl (B+1) 0 #[.int .i64 0,.int .i64 0,.int .i64 0,.string ⟨#[]⟩,.int .i64 0,.int .i64 0,.int .i64 0,.int .i64 0,.int .i64 0,.int .i64 0,.int .i64 0,.int .i64 0,.int .i64 0,.slice none 0 0] rfl rfl (Blk.there (t:=46) (cs:=#[.int .i64 0,.int .i64 0,.int .i64 0,.string ⟨#[]⟩,.int .i64 0,.int .i64 0,.int .i64 0,.int .i64 0,.int .i64 0,.int .i64 0,.int .i64 0,.int .i64 0,.int .i64 0,.slice none 0 0]) R2.out) (by kernel_rfl) (all_oneCell_toArray (cs:=[.int .i64 0,.int .i64 0,.int .i64 0,.string ⟨#[]⟩,.int .i64 0,.int .i64 0,.int .i64 0,.int .i64 0,.int .i64 0,.int .i64 0,.int .i64 0,.int .i64 0,.int .i64 0,.slice none 0 0]) (by simp [Value.oneCell'])) ?_)
     exact bodyPost_ret (v:=.agg #[.int .i64 0,.int .i64 0,.int .i64 0,.string ⟨#[]⟩,.int .i64 0,.int .i64 0,.int .i64 0,.int .i64 0,.int .i64 0,.int .i64 0,.int .i64 0,.int .i64 0,.int .i64 0,.slice none 0 0]) (results_blk Tryz.results9 rfl (Blk.setAll (t:=46) (cs:=#[.int .i64 0,.int .i64 0,.int .i64 0,.string ⟨#[]⟩,.int .i64 0,.int .i64 0,.int .i64 0,.int .i64 0,.int .i64 0,.int .i64 0,.int .i64 0,.int .i64 0,.int .i64 0,.slice none 0 0]) (vs:=#[.int .i64 0,.int .i64 0,.int .i64 0,.string ⟨#[]⟩,.int .i64 0,.int .i64 0,.int .i64 0,.int .i64 0,.int .i64 0,.int .i64 0,.int .i64 0,.int .i64 0,.int .i64 0,.slice none 0 0]) R2.out rfl) Tryz.underlying46 rfl (by kernel_rfl)) rfl ⟨_,[],rfl,⟨.slice none 0 0,by rw [HE.out];rfl,by rw [HE.out];exact fit_noTask,by rw [HE.out];exact OwS.nil _⟩,fun b hb=>absurd hb (by simp),setCells_ext (by rw [HB.out];exact Nat.le_succ _) _ _ _ X2.out⟩
   · have HI:Hid (taskIx l a n=(d:Int)):=Lib.hid hi
     have HE:Hid (taskOf l a n=nth l d):=Lib.hid (by simp [taskOf,HI.out,HT.out])
     have HN:=Lib.hid (tasksRight_small HT.out d hlt)
     obtain ⟨b,q,cs,rfl,_,⟨v1,rfl,hfit,hrd⟩,hc⟩:=HK.out d hlt
     obtain ⟨A1,c1,rfl,-⟩:=hrd.form
     have HX:=X2.out
     have c0:=Ext.some HX (hc 0 _ rfl)
     have c1:=Ext.some HX (hc 1 _ rfl)
     have c2:=Ext.some HX (hc 2 _ rfl)
     have c3:=Ext.some HX (hc 3 _ rfl)
     have c4:=Ext.some HX (hc 4 _ rfl)
     have c5:=Ext.some HX (hc 5 _ rfl)
     have c6:=Ext.some HX (hc 6 _ rfl)
     have c7:=Ext.some HX (hc 7 _ rfl)
     have c8:=Ext.some HX (hc 8 _ rfl)
     have c9:=Ext.some HX (hc 9 _ rfl)
     have c10:=Ext.some HX (hc 10 _ rfl)
     have c11:=Ext.some HX (hc 11 _ rfl)
     have c12:=Ext.some HX (hc 12 _ rfl)
     have c13:=Ext.some HX (hc 13 _ rfl)
     simp only [ETask,Nat.add_zero] at c0 c1 c2 c3 c4 c5 c6 c7 c8 c9 c10 c11 c12 c13
     have HFit:=Lib.hid hfit
     have HRD:=Lib.hid (hrd.ext X2.out)
     have hd0:(0:Int)≤(d:Int):=Int.natCast_nonneg _
     clear hi hq hn hc hfit hrd HX
     rw [HI.out]
     go_wp2_with fail
     refine (copyTask_own (S:=S) (nth l d) _ _ (rel_Task HFit.out HRD.out) HN.out).mono ?_
     rintro e w4 ⟨cs1,G1,rfl,⟨u1,rfl,f1,q1⟩,g1,hx⟩
     obtain ⟨p1,k1,rfl,-⟩:=q1.form
     have Q1:=Lib.hid q1
     have Z1:=Lib.hid (fun b hb=>(Nat.le_trans X2.out.size (g1 b hb):w.heap.size≤b))
     have LR:Hid (∀ b∈G1,B+1 < b):=Lib.hid (fun b hb=>Nat.lt_of_lt_of_le R2.out.lt (g1 b hb))
     replace X2:=Lib.hid (X2.out.trans hx)
     replace R2:=Lib.hid (R2.out.ext hx)
     clear hx f1 q1 g1 c0 c1 c2 c3 c4 c5 c6 c7 c8 c9 c10 c11 c12 c13
     simp only [cellsTask]
     go_wp2_with (refine wpList_store_mid rfl 46 _ _ rfl (B+1) 0 #[.int .i64 (nth l d).label.level,.int .i64 (nth l d).label.set,.int .i64 (nth l d).id,.string (nth l d).owner,.int .i64 (nth l d).need,.int .i64 (nth l d).long,.int .i64 (nth l d).prio,.int .i64 (nth l d).under.level,.int .i64 (nth l d).under.set,.int .i64 (nth l d).after,.int .i64 (nth l d).born,.int .i64 (nth l d).state,.int .i64 (nth l d).start,.slice p1 (nth l d).nodes.length k1] rfl rfl (Blk.there (t:=46) (cs:=#[.int .i64 0,.int .i64 0,.int .i64 0,.string ⟨#[]⟩,.int .i64 0,.int .i64 0,.int .i64 0,.int .i64 0,.int .i64 0,.int .i64 0,.int .i64 0,.int .i64 0,.int .i64 0,.slice none 0 0]) R2.out) (by kernel_rfl) (all_oneCell_toArray (cs:=[.int .i64 (nth l d).label.level,.int .i64 (nth l d).label.set,.int .i64 (nth l d).id,.string (nth l d).owner,.int .i64 (nth l d).need,.int .i64 (nth l d).long,.int .i64 (nth l d).prio,.int .i64 (nth l d).under.level,.int .i64 (nth l d).under.set,.int .i64 (nth l d).after,.int .i64 (nth l d).born,.int .i64 (nth l d).state,.int .i64 (nth l d).start,.slice p1 (nth l d).nodes.length k1]) (by simp [Value.oneCell'])) ?_)
     exact bodyPost_ret (v:=.agg #[.int .i64 (nth l d).label.level,.int .i64 (nth l d).label.set,.int .i64 (nth l d).id,.string (nth l d).owner,.int .i64 (nth l d).need,.int .i64 (nth l d).long,.int .i64 (nth l d).prio,.int .i64 (nth l d).under.level,.int .i64 (nth l d).under.set,.int .i64 (nth l d).after,.int .i64 (nth l d).born,.int .i64 (nth l d).state,.int .i64 (nth l d).start,.slice p1 (nth l d).nodes.length k1]) (results_blk Tryz.results9 rfl (Blk.setAll (t:=46) (cs:=#[.int .i64 0,.int .i64 0,.int .i64 0,.string ⟨#[]⟩,.int .i64 0,.int .i64 0,.int .i64 0,.int .i64 0,.int .i64 0,.int .i64 0,.int .i64 0,.int .i64 0,.int .i64 0,.slice none 0 0]) (vs:=#[.int .i64 (nth l d).label.level,.int .i64 (nth l d).label.set,.int .i64 (nth l d).id,.string (nth l d).owner,.int .i64 (nth l d).need,.int .i64 (nth l d).long,.int .i64 (nth l d).prio,.int .i64 (nth l d).under.level,.int .i64 (nth l d).under.set,.int .i64 (nth l d).after,.int .i64 (nth l d).born,.int .i64 (nth l d).state,.int .i64 (nth l d).start,.slice p1 (nth l d).nodes.length k1]) R2.out rfl) Tryz.underlying46 rfl (by kernel_rfl)) rfl ⟨_,G1,rfl,⟨.slice p1 (nth l d).nodes.length k1,by rw [HE.out];rfl,by rw [HE.out];exact HFit.out,by rw [HE.out];exact Q1.out.kept (G:=[B+1]) (Kept.setCells (by simp) _ _ _ (Kept.refl _ _)) (fun b hb=>by have:=LR.out b hb;simp;omega)⟩,Z1.out,setCells_ext (by rw [HB.out];exact Nat.le_succ _) _ _ _ X2.out⟩
end Go.Proofs.YtoblacfjmcpbmaaGreat
/- The walk of the reference's rank of a task. Rows of elements that have blocks of their own: the row's block and its elements' by name;append(v,rows..). The walk of the reference's l14First: which of two tasks comes first. The walks of the reference's l14Order and TaskOrder. Printed by wip/orders.py. -/
namespace Go.Proofs.YtoblacfjmcpbmaaGreat
open Go.RowKit
attribute [local irreducible] wpQuiet
end Go.Proofs.YtoblacfjmcpbmaaGreat
namespace Go.Proofs.YtoblacfjmcpbmaaGreat
open Go.RowKit
attribute [local irreducible] wpQuiet
theorem putL_length {α:Type} {c:α→α→Int} (l:List α) (x:α):(putL c l x).length=l.length+1:=by
 have:=(putL_perm (c:=c) l x).length_eq
 simpa using this
theorem fold_length {α:Type} {c:α→α→Int}:∀ (l acc:List α),(l.foldl (putL c) acc).length=acc.length+l.length
 | [],acc=>by simp
 | x :: l,acc=>by
   rw [List.foldl_cons,fold_length l,putL_length,List.length_cons]
   omega
theorem sortL_length {α:Type} {c:α→α→Int} (l:List α):(sortL c l).length=l.length:=by rw [sortL,fold_length];simp
theorem putL_mem {α:Type} {c:α→α→Int} {l:List α} {x z:α}:z∈putL c l x↔z∈l∨z=x:=by
 rw [(putL_perm (c:=c) l x).mem_iff,List.mem_append,List.mem_singleton]
theorem fold_mem {α:Type} {c:α→α→Int} {z:α}:∀ (l acc:List α),z∈l.foldl (putL c) acc↔z∈acc∨z∈l
 | [],acc=>by simp
 | x :: l,acc=>by
   rw [List.foldl_cons,fold_mem l,putL_mem,List.mem_cons,or_assoc]
theorem sortL_mem {α:Type} {c:α→α→Int} {l:List α} {z:α}:z∈sortL c l↔z∈l:=by rw [sortL,fold_mem];simp
section
variable {α:Type} [Inhabited α] {E:Elem α} {O:Own E} {T:TypeId} {P:Program}
def RowsAt (O:Own E) (T:TypeId) (w:World) (v:Value) (l:List α) (B:Nat) (Fs:List (List Nat)):Prop :=
 ∃ c C,v=.slice (some ⟨B,0,none⟩) l.length c∧w.heap[B]? = some (.cells C T (0,0))∧l.length≤c∧c≤maxLen∧C.size=c * E.size∧Fs.length=l.length∧(B :: Fs.flatten).Nodup ∧
   ∀ k,k < l.length→∃ cs,O.own w cs (nth l k) (nth Fs k)∧w.rangeAt B (k * E.size) cs
theorem RowsAt.ow {w:World} {v:Value} {l:List α} {B:Nat} {Fs:List (List Nat)} (h:RowsAt O T w v l B Fs):OwS O T w v l (B :: Fs.flatten):=by
 obtain ⟨c,C,h1,h2,h3,h4,h5,h6,h7,h8⟩:=h
 exact .inr ⟨B,c,C,Fs,h1,h2,h3,h4,h5,h6,rfl,h7,h8⟩
theorem RowsAt.form {w:World} {v:Value} {l:List α} {B:Nat} {Fs:List (List Nat)} (h:RowsAt O T w v l B Fs):∃ c,v=.slice (some ⟨B,0,none⟩) l.length c∧l.length≤c∧c≤maxLen:=by
 obtain ⟨c,C,h1,h2,h3,h4,_⟩:=h
 exact ⟨c,h1,h3,h4⟩
theorem RowsAt.keep {w w':World} {v:Value} {l:List α} {B:Nat} {Fs:List (List Nat)} (h:RowsAt O T w v l B Fs) (hk:∀ b∈B :: Fs.flatten,w'.heap[b]? = w.heap[b]?):RowsAt O T w' v l B Fs:=by
 obtain ⟨c,C,h1,h2,h3,h4,h5,h6,h7,h8⟩:=h
 have hB:=hk B (List.mem_cons_self ..)
 refine ⟨c,C,h1,hB.trans h2,h3,h4,h5,h6,h7,fun k hlt=>?_⟩
 obtain ⟨cs,ho,hr⟩:=h8 k hlt
 refine ⟨cs,O.keep (fun b hb=>hk b (List.mem_cons_of_mem _ (nth_mem_flatten (by omega) hb))) ho,fun j u hj=>?_⟩
 have:=hr j u hj
 rw [← this]
 exact World.cell?_of_block hB
theorem RowsAt.ext {w w':World} {v:Value} {l:List α} {B:Nat} {Fs:List (List Nat)} (h:RowsAt O T w v l B Fs) (hx:Ext w w'):RowsAt O T w' v l B Fs :=
 h.keep fun b hb=>Below.block hx b (h.ow.lt b hb)
theorem flatten_take_sub {l:List (List Nat)} {n:Nat}:∀ b∈(l.take n).flatten,b∈l.flatten:=fun b hb=>by
 obtain ⟨x,hx,hb⟩:=List.mem_flatten.1 hb
 exact List.mem_flatten.2 ⟨x,List.mem_of_mem_take hx,hb⟩
theorem flatten_drop_sub {l:List (List Nat)} {n:Nat}:∀ b∈(l.drop n).flatten,b∈l.flatten:=fun b hb=>by
 obtain ⟨x,hx,hb⟩:=List.mem_flatten.1 hb
 exact List.mem_flatten.2 ⟨x,List.mem_of_mem_drop hx,hb⟩
theorem flatten_cut (l:List (List Nat)) (n:Nat):l.flatten=(l.take n).flatten ++ (l.drop n).flatten:=by rw [← List.flatten_append,List.take_append_drop]
theorem nth_takeL {β:Type} [Inhabited β] {l:List β} {n k:Nat} (h:k < n) (hl:k < l.length):nth (l.take n) k=nth l k:=by
 rw [nth_eq (by rw [List.length_take];omega),nth_eq hl]
 simp
theorem nth_dropL {β:Type} [Inhabited β] {l:List β} {n k:Nat} (h:n+k < l.length):nth (l.drop n) k=nth l (n+k):=by
 rw [nth_eq (by rw [List.length_drop];omega),nth_eq h]
 simp
theorem RowsAt.take {w:World} {v:Value} {l:List α} {B n:Nat} {Fs:List (List Nat)} (h:RowsAt O T w v l B Fs):∀ k,k < (l.take n).length→∃ cs,O.own w cs (nth (l.take n) k) (nth (Fs.take n) k)∧w.rangeAt B (0+k * E.size) cs:=fun k hk=>by
 obtain ⟨c,C,h1,h2,h3,h4,h5,h6,h7,h8⟩:=h
 rw [List.length_take] at hk
 rw [nth_takeL (by omega) (by omega),nth_takeL (by omega) (by omega),Nat.zero_add]
 exact h8 k (by omega)
theorem RowsAt.drop {w:World} {v:Value} {l:List α} {B n:Nat} {Fs:List (List Nat)} (h:RowsAt O T w v l B Fs):∀ k,k < (l.drop n).length→∃ cs,O.own w cs (nth (l.drop n) k) (nth (Fs.drop n) k)∧w.rangeAt B (n * E.size+k * E.size) cs:=fun k hk=>by
 obtain ⟨c,C,h1,h2,h3,h4,h5,h6,h7,h8⟩:=h
 rw [List.length_drop] at hk
 rw [nth_dropL (by omega),nth_dropL (by omega),← Nat.add_mul]
 exact h8 (n+k) (by omega)
theorem RowsAt.len {w:World} {v:Value} {l:List α} {B:Nat} {Fs:List (List Nat)} (h:RowsAt O T w v l B Fs):Fs.length=l.length:=by
 obtain ⟨c,C,h1,h2,h3,h4,h5,h6,h7,h8⟩:=h
 exact h6
theorem RowsAt.nd {w:World} {v:Value} {l:List α} {B:Nat} {Fs:List (List Nat)} (h:RowsAt O T w v l B Fs):(B :: Fs.flatten).Nodup:=by
 obtain ⟨c,C,h1,h2,h3,h4,h5,h6,h7,h8⟩:=h
 exact h7
theorem RowsAt.parts {w:World} {v:Value} {l:List α} {B n:Nat} {Fs:List (List Nat)} (h:RowsAt O T w v l B Fs):(Fs.take n).flatten.Nodup∧(Fs.drop n).flatten.Nodup∧(∀ b∈(Fs.take n).flatten,b∉(Fs.drop n).flatten)∧B∉(Fs.take n).flatten∧B∉(Fs.drop n).flatten:=by
 obtain ⟨h1,h2⟩:=List.nodup_cons.1 h.nd
 rw [flatten_cut Fs n] at h2
 obtain ⟨a,b,c⟩:=List.nodup_append.1 h2
 exact ⟨a,b,fun x hx hy=>c x hx x hy rfl,fun hm=>h1 (flatten_take_sub B hm),fun hm=>h1 (flatten_drop_sub B hm)⟩
end
end Go.Proofs.YtoblacfjmcpbmaaGreat
namespace Go.Proofs.YtoblacfjmcpbmaaGreat
open Go.RowKit
attribute [local irreducible] wpQuiet
end Go.Proofs.YtoblacfjmcpbmaaGreat
namespace Go.Proofs.YtoblacfjmcpbmaaGreat
open Go.RowKit
attribute [local irreducible] wpQuiet
end Go.Proofs.YtoblacfjmcpbmaaGreat
