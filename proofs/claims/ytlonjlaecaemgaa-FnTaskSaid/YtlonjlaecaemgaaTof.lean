/- The walks of TaskOf, the program's and the reference's. Printed by wip/tof.py. -/
import Derived.Test.YtlonjlaecaemgaaCopies
import Derived.Test.YtlonjlaecaemgaaLive
import Derived.Test.YtlonjlaecaemgaaTasksS
import Derived.Test.YtlonjlaecaemgaaTasksP
import Derived.Test.YtlonjlaecaemgaaTBytesS
import Derived.Test.YtlonjlaecaemgaaOwn
import Derived.Test.YtlonjlaecaemgaaRows
import Derived.Laws.IdiomStrings
import Derived.Laws.BytesArg
import Derived.Test.YtlonjlaecaemgaaOwn2
import Derived.Test.YtlonjlaecaemgaaNodeC
import Derived.Test.YtlonjlaecaemgaaGElems
import Derived.Test.YtlonjlaecaemgaaLib
namespace Go.Proofs.Ytlonjlaecaemgaa
open Go.RowKit
attribute [local irreducible] wpQuiet
set_option maxHeartbeats 8000000 in
set_option maxRecDepth 100000 in
theorem taskOf_any {S:Nat→Prop} (l:List Task) (a:Label) (n:Int) (v:Value) (w:World) (h:Rd ETask S w v l) :
 Calls Try.prog 19 #[v,.agg #[.int .i64 a.level,.int .i64 a.set],.int .i64 n] w (RetOS OTask (taskOf l a n) w):=by
 have HR:=Lib.hid h
 obtain ⟨A,c,rfl,h1,h2,hk⟩:=h.open_
 unfold maxLen at h2
 have HK:=Lib.hid hk
 clear h hk
 go_enter Try.func19,Try.ntmps19
 go_upto_region 1 with (fail)
 obtain ⟨W,B,hW,hB,hx0,a0,r0⟩:=boxes2 w #[.int .i64 a.level,.int .i64 a.set] #[.int .i64 0,.int .i64 0,.int .i64 0,.string ⟨#[]⟩,.int .i64 0,.int .i64 0,.int .i64 0,.int .i64 0,.int .i64 0,.int .i64 0,.int .i64 0,.int .i64 0,.int .i64 0,.slice none 0 0] 24 27
 rw [← hW,← hB]
 have HB:=Lib.hid hB
 have A0:=Lib.hid a0
 have R0:=Lib.hid r0
 have X0:=Lib.hid hx0
 clear hW hB a0 r0 hx0
 have e0:=A0.out.cell 0
 have e1:=A0.out.cell 1
 simp only [List.getElem?_toArray,List.getElem?_cons_succ,List.getElem?_cons_zero] at e0 e1
 go_wp2_with fail
 refine (taskAt_any (S:=S) l a n _ _ (HR.out.ext X0.out)).mono ?_
 rintro e w1 ⟨rfl,hx⟩
 have X1:=Lib.hid (X0.out.trans hx)
 have R1:=Lib.hid (R0.out.ext hx)
 clear hx e0 e1
 go_wp2_with fail
 refine (tasksRight_any (S:=S) l _ _ (HR.out.ext X1.out)).mono ?_
 rintro e w2 ⟨rfl,hx⟩
 have X2:=Lib.hid (X1.out.trans hx)
 have R2:=Lib.hid (R1.out.ext hx)
 clear hx
 cases ht:tasksRight l with
 | false =>
   have HE:Hid (taskOf l a n=noTask):=Lib.hid (by simp [taskOf,ht])
   clear HK
   go_wp2_with (refine wpList_store_mid rfl 27 _ _ rfl (B+1) 0 #[.int .i64 0,.int .i64 0,.int .i64 0,.string ⟨#[]⟩,.int .i64 0,.int .i64 0,.int .i64 0,.int .i64 0,.int .i64 0,.int .i64 0,.int .i64 0,.int .i64 0,.int .i64 0,.slice none 0 0] rfl rfl (Blk.there (t:=27) (cs:=#[.int .i64 0,.int .i64 0,.int .i64 0,.string ⟨#[]⟩,.int .i64 0,.int .i64 0,.int .i64 0,.int .i64 0,.int .i64 0,.int .i64 0,.int .i64 0,.int .i64 0,.int .i64 0,.slice none 0 0]) R2.out) (by kernel_rfl) (all_oneCell_toArray (cs:=[.int .i64 0,.int .i64 0,.int .i64 0,.string ⟨#[]⟩,.int .i64 0,.int .i64 0,.int .i64 0,.int .i64 0,.int .i64 0,.int .i64 0,.int .i64 0,.int .i64 0,.int .i64 0,.slice none 0 0]) (by simp [Value.oneCell'])) ?_)
   exact bodyPost_ret (v:=.agg #[.int .i64 0,.int .i64 0,.int .i64 0,.string ⟨#[]⟩,.int .i64 0,.int .i64 0,.int .i64 0,.int .i64 0,.int .i64 0,.int .i64 0,.int .i64 0,.int .i64 0,.int .i64 0,.slice none 0 0]) (results_blk Try.results19 rfl (Blk.setAll (t:=27) (cs:=#[.int .i64 0,.int .i64 0,.int .i64 0,.string ⟨#[]⟩,.int .i64 0,.int .i64 0,.int .i64 0,.int .i64 0,.int .i64 0,.int .i64 0,.int .i64 0,.int .i64 0,.int .i64 0,.slice none 0 0]) (vs:=#[.int .i64 0,.int .i64 0,.int .i64 0,.string ⟨#[]⟩,.int .i64 0,.int .i64 0,.int .i64 0,.int .i64 0,.int .i64 0,.int .i64 0,.int .i64 0,.int .i64 0,.int .i64 0,.slice none 0 0]) R2.out rfl) Try.underlying27 rfl (by kernel_rfl)) rfl ⟨_,[],rfl,⟨.slice none 0 0,by rw [HE.out];rfl,by rw [HE.out];exact fit_noTask,by rw [HE.out];exact OwS.nil _⟩,fun b hb=>absurd hb (by simp),setCells_ext (by rw [HB.out];exact Nat.le_succ _) _ _ _ X2.out⟩
 | true =>
   have HT:=Lib.hid ht
   clear ht
   rcases idxOf_cases (isTask a n) l with ⟨hi,hn⟩ | ⟨d,hlt,hi,hq,hn⟩
   · have HI:Hid (taskIx l a n = -1):=Lib.hid hi
     have HE:Hid (taskOf l a n=noTask):=Lib.hid (by simp [taskOf,HI.out])
     clear hi hn
     rw [HI.out]
     go_wp2_with (refine wpList_store_mid rfl 27 _ _ rfl (B+1) 0 #[.int .i64 0,.int .i64 0,.int .i64 0,.string ⟨#[]⟩,.int .i64 0,.int .i64 0,.int .i64 0,.int .i64 0,.int .i64 0,.int .i64 0,.int .i64 0,.int .i64 0,.int .i64 0,.slice none 0 0] rfl rfl (Blk.there (t:=27) (cs:=#[.int .i64 0,.int .i64 0,.int .i64 0,.string ⟨#[]⟩,.int .i64 0,.int .i64 0,.int .i64 0,.int .i64 0,.int .i64 0,.int .i64 0,.int .i64 0,.int .i64 0,.int .i64 0,.slice none 0 0]) R2.out) (by kernel_rfl) (all_oneCell_toArray (cs:=[.int .i64 0,.int .i64 0,.int .i64 0,.string ⟨#[]⟩,.int .i64 0,.int .i64 0,.int .i64 0,.int .i64 0,.int .i64 0,.int .i64 0,.int .i64 0,.int .i64 0,.int .i64 0,.slice none 0 0]) (by simp [Value.oneCell'])) ?_)
     exact bodyPost_ret (v:=.agg #[.int .i64 0,.int .i64 0,.int .i64 0,.string ⟨#[]⟩,.int .i64 0,.int .i64 0,.int .i64 0,.int .i64 0,.int .i64 0,.int .i64 0,.int .i64 0,.int .i64 0,.int .i64 0,.slice none 0 0]) (results_blk Try.results19 rfl (Blk.setAll (t:=27) (cs:=#[.int .i64 0,.int .i64 0,.int .i64 0,.string ⟨#[]⟩,.int .i64 0,.int .i64 0,.int .i64 0,.int .i64 0,.int .i64 0,.int .i64 0,.int .i64 0,.int .i64 0,.int .i64 0,.slice none 0 0]) (vs:=#[.int .i64 0,.int .i64 0,.int .i64 0,.string ⟨#[]⟩,.int .i64 0,.int .i64 0,.int .i64 0,.int .i64 0,.int .i64 0,.int .i64 0,.int .i64 0,.int .i64 0,.int .i64 0,.slice none 0 0]) R2.out rfl) Try.underlying27 rfl (by kernel_rfl)) rfl ⟨_,[],rfl,⟨.slice none 0 0,by rw [HE.out];rfl,by rw [HE.out];exact fit_noTask,by rw [HE.out];exact OwS.nil _⟩,fun b hb=>absurd hb (by simp),setCells_ext (by rw [HB.out];exact Nat.le_succ _) _ _ _ X2.out⟩
   · have HI:Hid (taskIx l a n=(d:Int)):=Lib.hid hi
     have HE:Hid (taskOf l a n=nth l d):=Lib.hid (by simp [taskOf,HI.out,HT.out])
     have HN:=Lib.hid (tasksRight_small HT.out d hlt)
     obtain ⟨b,q,cs,rfl,_,⟨v1,rfl,hfit,hrd⟩,hc⟩:=HK.out d hlt
     obtain ⟨A1,c1,rfl,-⟩:=hrd.form
     have HX:=X2.out
     have c0:=Ext.some HX (hc 0 _ rfl)
     have c1:=Ext.some HX (hc 1 _ rfl)
     have c2:=Ext.some HX (hc 2 _ rfl)
     have c3:=Ext.some HX (hc 3 _ rfl)
     have c4:=Ext.some HX (hc 4 _ rfl)
     have c5:=Ext.some HX (hc 5 _ rfl)
     have c6:=Ext.some HX (hc 6 _ rfl)
     have c7:=Ext.some HX (hc 7 _ rfl)
     have c8:=Ext.some HX (hc 8 _ rfl)
     have c9:=Ext.some HX (hc 9 _ rfl)
     have c10:=Ext.some HX (hc 10 _ rfl)
     have c11:=Ext.some HX (hc 11 _ rfl)
     have c12:=Ext.some HX (hc 12 _ rfl)
     have c13:=Ext.some HX (hc 13 _ rfl)
     simp only [ETask,Nat.add_zero] at c0 c1 c2 c3 c4 c5 c6 c7 c8 c9 c10 c11 c12 c13
     have HFit:=Lib.hid hfit
     have HRD:=Lib.hid (hrd.ext X2.out)
     have hd0:(0:Int)≤(d:Int):=Int.natCast_nonneg _
     clear hi hq hn hc hfit hrd HX
     rw [HI.out]
     go_wp2_with fail
     refine (copyTask_own (S:=S) (nth l d) _ _ (rel_Task HFit.out HRD.out) HN.out).mono ?_
     rintro e w4 ⟨cs1,G1,rfl,⟨u1,rfl,f1,q1⟩,g1,hx⟩
     obtain ⟨p1,k1,rfl,-⟩:=q1.form
     have Q1:=Lib.hid q1
     have Z1:=Lib.hid (fun b hb=>(Nat.le_trans X2.out.size (g1 b hb):w.heap.size≤b))
     have LR:Hid (∀ b∈G1,B+1 < b):=Lib.hid (fun b hb=>Nat.lt_of_lt_of_le R2.out.lt (g1 b hb))
     replace X2:=Lib.hid (X2.out.trans hx)
     replace R2:=Lib.hid (R2.out.ext hx)
     clear hx f1 q1 g1 c0 c1 c2 c3 c4 c5 c6 c7 c8 c9 c10 c11 c12 c13
     simp only [cellsTask]
     go_wp2_with (refine wpList_store_mid rfl 27 _ _ rfl (B+1) 0 #[.int .i64 (nth l d).label.level,.int .i64 (nth l d).label.set,.int .i64 (nth l d).id,.string (nth l d).owner,.int .i64 (nth l d).need,.int .i64 (nth l d).long,.int .i64 (nth l d).prio,.int .i64 (nth l d).under.level,.int .i64 (nth l d).under.set,.int .i64 (nth l d).after,.int .i64 (nth l d).born,.int .i64 (nth l d).state,.int .i64 (nth l d).start,.slice p1 (nth l d).nodes.length k1] rfl rfl (Blk.there (t:=27) (cs:=#[.int .i64 0,.int .i64 0,.int .i64 0,.string ⟨#[]⟩,.int .i64 0,.int .i64 0,.int .i64 0,.int .i64 0,.int .i64 0,.int .i64 0,.int .i64 0,.int .i64 0,.int .i64 0,.slice none 0 0]) R2.out) (by kernel_rfl) (all_oneCell_toArray (cs:=[.int .i64 (nth l d).label.level,.int .i64 (nth l d).label.set,.int .i64 (nth l d).id,.string (nth l d).owner,.int .i64 (nth l d).need,.int .i64 (nth l d).long,.int .i64 (nth l d).prio,.int .i64 (nth l d).under.level,.int .i64 (nth l d).under.set,.int .i64 (nth l d).after,.int .i64 (nth l d).born,.int .i64 (nth l d).state,.int .i64 (nth l d).start,.slice p1 (nth l d).nodes.length k1]) (by simp [Value.oneCell'])) ?_)
     exact bodyPost_ret (v:=.agg #[.int .i64 (nth l d).label.level,.int .i64 (nth l d).label.set,.int .i64 (nth l d).id,.string (nth l d).owner,.int .i64 (nth l d).need,.int .i64 (nth l d).long,.int .i64 (nth l d).prio,.int .i64 (nth l d).under.level,.int .i64 (nth l d).under.set,.int .i64 (nth l d).after,.int .i64 (nth l d).born,.int .i64 (nth l d).state,.int .i64 (nth l d).start,.slice p1 (nth l d).nodes.length k1]) (results_blk Try.results19 rfl (Blk.setAll (t:=27) (cs:=#[.int .i64 0,.int .i64 0,.int .i64 0,.string ⟨#[]⟩,.int .i64 0,.int .i64 0,.int .i64 0,.int .i64 0,.int .i64 0,.int .i64 0,.int .i64 0,.int .i64 0,.int .i64 0,.slice none 0 0]) (vs:=#[.int .i64 (nth l d).label.level,.int .i64 (nth l d).label.set,.int .i64 (nth l d).id,.string (nth l d).owner,.int .i64 (nth l d).need,.int .i64 (nth l d).long,.int .i64 (nth l d).prio,.int .i64 (nth l d).under.level,.int .i64 (nth l d).under.set,.int .i64 (nth l d).after,.int .i64 (nth l d).born,.int .i64 (nth l d).state,.int .i64 (nth l d).start,.slice p1 (nth l d).nodes.length k1]) R2.out rfl) Try.underlying27 rfl (by kernel_rfl)) rfl ⟨_,G1,rfl,⟨.slice p1 (nth l d).nodes.length k1,by rw [HE.out];rfl,by rw [HE.out];exact HFit.out,by rw [HE.out];exact Q1.out.kept (G:=[B+1]) (Kept.setCells (by simp) _ _ _ (Kept.refl _ _)) (fun b hb=>by have:=LR.out b hb;simp;omega)⟩,Z1.out,setCells_ext (by rw [HB.out];exact Nat.le_succ _) _ _ _ X2.out⟩
end Go.Proofs.Ytlonjlaecaemgaa
