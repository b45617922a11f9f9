/- The walk of the program's TaskRead. Printed by wip/readi.py. -/
import Derived.Test.YtlonjlaecaemgaaRdP
namespace Go.Proofs.Ytlonjlaecaemgaa
open Go.RowKit
attribute [local irreducible] wpQuiet
theorem fit_good {x:Task} {b:Int} (h:FitTask x) (hb:I64 b):FitTaskOut ⟨x,b,0⟩:=by
 unfold FitTask at h
 unfold FitTaskOut
 exact ⟨h.1,h.2.1,h.2.2.1,h.2.2.2.1,h.2.2.2.2.1,h.2.2.2.2.2.1,h.2.2.2.2.2.2.1,h.2.2.2.2.2.2.2.1,h.2.2.2.2.2.2.2.2.1,h.2.2.2.2.2.2.2.2.2.1,h.2.2.2.2.2.2.2.2.2.2.1,h.2.2.2.2.2.2.2.2.2.2.2.1,h.2.2.2.2.2.2.2.2.2.2.2.2,hb,by unfold I64;simp⟩
theorem rdTask_fit {t:ByteArray} {a:Int} (ht:Str t) (h:RFit a 0):RFit (rdTask t a 0).2.1 (rdTask t a 0).2.2:=by
 have h1:=(rdNum_fit ht h).2
 have h2:=(rdNum_fit ht h1).2
 have h3:=(rdNum_fit ht h2).2
 have h4:=(rdStr_fit (t:=t) h3).2
 have h5:=(rdNum_fit ht h4).2
 have h6:=(rdNum_fit ht h5).2
 have h7:=(rdNum_fit ht h6).2
 have h8:=(rdNum_fit ht h7).2
 have h9:=(rdNum_fit ht h8).2
 have h10:=(rdNum_fit ht h9).2
 have h11:=(rdNum_fit ht h10).2
 have h12:=(rdNum_fit ht h11).2
 have h13:=(rdNum_fit ht h12).2
 have h14:=(rdCount_fit (most:=6) ht h13).2
 exact (rdNums_fit ht h14 _).2.2
theorem fit_bad {e:Int} (h:I64 e):FitTaskOut ⟨zeroTask,0,e⟩:=by
 unfold FitTaskOut zeroTask Str
 simp [I64] at h ⊢
 exact ⟨Nat.zero_le _,h⟩
set_option maxHeartbeats 8000000 in
set_option maxRecDepth 100000 in
theorem taskRead_any (t:ByteArray) (a:Int) (w:World) (ha:I64 a) (ht:Str t) :
 Calls Try.prog 7 #[.string t,.int .i64 a] w (RetOS OTaskOut (taskRead t a) w):=by
 have HT:=Lib.hid ht
 have HA:Hid (RFit a 0):=Lib.hid ⟨ha,by unfold I64;decide⟩
 clear ha ht
 obtain ⟨q,hq⟩:∃ q,q=rdTask t a 0:=⟨_,rfl⟩
 have HQ:=Lib.hid hq
 have HE:Hid (taskRead t a=if q.2.2=0 then (if taskRight q.1=false then ⟨zeroTask,0,1⟩ else ⟨q.1,q.2.1,0⟩) else ⟨zeroTask,0,q.2.2⟩):=Lib.hid (by rw [hq];rfl)
 have HQF:Hid (RFit q.2.1 q.2.2):=Lib.hid (by rw [hq];exact rdTask_fit HT.out HA.out)
 clear hq
 go_enter Try.func7,Try.ntmps7
 go_upto_region 1 with (fail)
 obtain ⟨W,R,hW,hB,hBl,hx0,b0⟩:∃ W B,W=w.alloc (.cells #[.int .i64 0,.int .i64 0,.int .i64 0,.string ⟨#[]⟩,.int .i64 0,.int .i64 0,.int .i64 0,.int .i64 0,.int .i64 0,.int .i64 0,.int .i64 0,.int .i64 0,.int .i64 0,.slice none 0 0,.int .i64 0,.int .i64 0] 33)∧B=w.heap.size∧w.heap.size≤B∧Ext w W∧Blk W B 33 #[.int .i64 0,.int .i64 0,.int .i64 0,.string ⟨#[]⟩,.int .i64 0,.int .i64 0,.int .i64 0,.int .i64 0,.int .i64 0,.int .i64 0,.int .i64 0,.int .i64 0,.int .i64 0,.slice none 0 0,.int .i64 0,.int .i64 0]:=⟨_,_,rfl,rfl,Nat.le_refl _,(Ext.refl w).alloc _,Blk.new _ _ _⟩
 rw [← hW,← hB]
 have HRB:=Lib.hid hBl
 have R0:=Lib.hid b0
 have X0:=Lib.hid hx0
 clear hW hB hx0 b0 hBl
 go_upto_region 2 with (fail)
 obtain ⟨W1,B,hW,hB,hx0,b0⟩:∃ V B,V=W.alloc (.cells #[.string t,.int .i64 a,.int .i64 0] 54)∧B=W.heap.size∧Ext W V∧Blk V B 54 #[.string t,.int .i64 a,.int .i64 0]:=⟨_,_,rfl,rfl,(Ext.refl W).alloc _,Blk.new _ _ _⟩
 rw [← hW,← hB]
 have B1:=Lib.hid b0
 have X1:=Lib.hid (X0.out.trans hx0)
 have R1:=Lib.hid (R0.out.ext hx0)
 have HRN:Hid (R∉[B]):=Lib.hid (by have:=R0.out.lt;simp;omega)
 have HBW:Hid (w.heap.size≤B):=Lib.hid (by have:=X0.out.size;omega)
 clear hW hB hx0 b0
 go_upto_region 3 with (go_at_call 29;(with_reducible refine (rdTask_any t a 0 B _ B1.out HT.out HA.out).mono ?_);rw [← HQ.out];rintro e w2 ⟨cs,F,rfl,⟨v1,rfl,hfit,how⟩,hF,hb,hk⟩;obtain ⟨A1,c1,rfl,-⟩:=how.form;have HFIT:=Lib.hid hfit;have HOW:=Lib.hid how;have HF:=Lib.hid hF;have HB2:=Lib.hid hb;have HK2:=Lib.hid hk;simp only [cellsTask];clear hfit how hF hb hk)
 obtain ⟨W3,N,hW,hN,hx3,n⟩:∃ V N,V=w2.alloc (.cells #[.int .i64 q.1.label.level,.int .i64 q.1.label.set,.int .i64 q.1.id,.string q.1.owner,.int .i64 q.1.need,.int .i64 q.1.long,.int .i64 q.1.prio,.int .i64 q.1.under.level,.int .i64 q.1.under.set,.int .i64 q.1.after,.int .i64 q.1.born,.int .i64 q.1.state,.int .i64 q.1.start,.slice A1 q.1.nodes.length c1] 27)∧N=w2.heap.size∧Ext w2 V∧Blk V N 27 #[.int .i64 q.1.label.level,.int .i64 q.1.label.set,.int .i64 q.1.id,.string q.1.owner,.int .i64 q.1.need,.int .i64 q.1.long,.int .i64 q.1.prio,.int .i64 q.1.under.level,.int .i64 q.1.under.set,.int .i64 q.1.after,.int .i64 q.1.born,.int .i64 q.1.state,.int .i64 q.1.start,.slice A1 q.1.nodes.length c1]:=⟨_,_,rfl,rfl,(Ext.refl w2).alloc _,Blk.new _ _ _⟩
 rw [← hW,← hN]
 have X3:Hid (Ext w W3):=Lib.hid ((HK2.out.ext X1.out (fun b hb=>by rw [List.mem_singleton.1 hb];exact HBW.out)).trans hx3)
 have R3:Hid (Blk W3 R 33 #[.int .i64 0,.int .i64 0,.int .i64 0,.string ⟨#[]⟩,.int .i64 0,.int .i64 0,.int .i64 0,.int .i64 0,.int .i64 0,.int .i64 0,.int .i64 0,.int .i64 0,.int .i64 0,.slice none 0 0,.int .i64 0,.int .i64 0]):=Lib.hid (Blk.ext ((HK2.out.block R R1.out.lt HRN.out).trans R1.out) hx3)
 have B3:=Lib.hid (HB2.out.ext hx3)
 have HO3:=Lib.hid (HOW.out.ext hx3)
 have N3:=Lib.hid n
 have HFB:Hid (∀ b∈F,R < b):=Lib.hid (fun b hb=>Nat.lt_of_lt_of_le R1.out.lt (HF.out b hb))
 clear hW hN hx3 n
 have b1:W3.cell? ⟨B,1,none⟩=some (.int .i64 q.2.1):=B3.out.cell 1
 have b2:W3.cell? ⟨B,2,none⟩=some (.int .i64 q.2.2):=B3.out.cell 2
 by_cases hc:q.2.2=0
 · skip
   have HC:Hid (W3.rangeAt N 0 [.int .i64 q.1.label.level,.int .i64 q.1.label.set,.int .i64 q.1.id,.string q.1.owner,.int .i64 q.1.need,.int .i64 q.1.long,.int .i64 q.1.prio,.int .i64 q.1.under.level,.int .i64 q.1.under.set,.int .i64 q.1.after,.int .i64 q.1.born,.int .i64 q.1.state,.int .i64 q.1.start,.slice A1 q.1.nodes.length c1]):=Lib.hid N3.out.range
   have HI:Hid ((Try.prog.info? 27).map (·.size)=some ([.int .i64 q.1.label.level,.int .i64 q.1.label.set,.int .i64 q.1.id,.string q.1.owner,.int .i64 q.1.need,.int .i64 q.1.long,.int .i64 q.1.prio,.int .i64 q.1.under.level,.int .i64 q.1.under.set,.int .i64 q.1.after,.int .i64 q.1.born,.int .i64 q.1.state,.int .i64 q.1.start,.slice A1 q.1.nodes.length c1]:List Value).length):=Lib.hid (by kernel_rfl)
   rw [hc] at b2
   have HC0:=Lib.hid hc
   cases htr:taskRight q.1 with
   | false =>
     have HV:Hid (taskRead t a=⟨zeroTask,0,1⟩):=Lib.hid (by rw [HE.out,if_pos hc,if_pos htr])
     clear hc
     go_wp2_with (first | (refine wpList_load_mid rfl 27 _ rfl N 0 rfl [.int .i64 q.1.label.level,.int .i64 q.1.label.set,.int .i64 q.1.id,.string q.1.owner,.int .i64 q.1.need,.int .i64 q.1.long,.int .i64 q.1.prio,.int .i64 q.1.under.level,.int .i64 q.1.under.set,.int .i64 q.1.after,.int .i64 q.1.born,.int .i64 q.1.state,.int .i64 q.1.start,.slice A1 q.1.nodes.length c1] _ HC.out Try.underlying27 rfl HI.out ?_) | (go_at_call 11;(with_reducible refine (taskRight_any (S:=fun b=>b∈F) q.1 [.int .i64 q.1.label.level,.int .i64 q.1.label.set,.int .i64 q.1.id,.string q.1.owner,.int .i64 q.1.need,.int .i64 q.1.long,.int .i64 q.1.prio,.int .i64 q.1.under.level,.int .i64 q.1.under.set,.int .i64 q.1.after,.int .i64 q.1.born,.int .i64 q.1.state,.int .i64 q.1.start,.slice A1 q.1.nodes.length c1] _ (rel_Task HFIT.out HO3.out.rd)).mono ?_);rintro e w4 ⟨rfl,hx4⟩;have X4:=Lib.hid (X3.out.trans hx4);have R4:=Lib.hid (R3.out.ext hx4);have HC4:=Lib.hid (hx4.range HC.out);have HO4:=Lib.hid (HO3.out.ext hx4);have b14:w4.cell? ⟨B,1,none⟩=some (.int .i64 q.2.1):=Ext.some hx4 b1;clear hx4) | (refine wpList_store_mid rfl 33 _ _ rfl R 0 #[.int .i64 0,.int .i64 0,.int .i64 0,.string ⟨#[]⟩,.int .i64 0,.int .i64 0,.int .i64 0,.int .i64 0,.int .i64 0,.int .i64 0,.int .i64 0,.int .i64 0,.int .i64 0,.slice none 0 0,.int .i64 0,.int .i64 1] rfl rfl (Blk.there (t:=33) (cs:=#[.int .i64 0,.int .i64 0,.int .i64 0,.string ⟨#[]⟩,.int .i64 0,.int .i64 0,.int .i64 0,.int .i64 0,.int .i64 0,.int .i64 0,.int .i64 0,.int .i64 0,.int .i64 0,.slice none 0 0,.int .i64 0,.int .i64 0]) R4.out) (by kernel_rfl) (all_oneCell_toArray (cs:=[.int .i64 0,.int .i64 0,.int .i64 0,.string ⟨#[]⟩,.int .i64 0,.int .i64 0,.int .i64 0,.int .i64 0,.int .i64 0,.int .i64 0,.int .i64 0,.int .i64 0,.int .i64 0,.slice none 0 0,.int .i64 0,.int .i64 1]) (by simp [Value.oneCell'])) ?_))
     exact bodyPost_ret (v:=.agg #[.int .i64 0,.int .i64 0,.int .i64 0,.string ⟨#[]⟩,.int .i64 0,.int .i64 0,.int .i64 0,.int .i64 0,.int .i64 0,.int .i64 0,.int .i64 0,.int .i64 0,.int .i64 0,.slice none 0 0,.int .i64 0,.int .i64 1]) (results_blk Try.results7 rfl (Blk.setAll (t:=33) (cs:=#[.int .i64 0,.int .i64 0,.int .i64 0,.string ⟨#[]⟩,.int .i64 0,.int .i64 0,.int .i64 0,.int .i64 0,.int .i64 0,.int .i64 0,.int .i64 0,.int .i64 0,.int .i64 0,.slice none 0 0,.int .i64 0,.int .i64 0]) (vs:=#[.int .i64 0,.int .i64 0,.int .i64 0,.string ⟨#[]⟩,.int .i64 0,.int .i64 0,.int .i64 0,.int .i64 0,.int .i64 0,.int .i64 0,.int .i64 0,.int .i64 0,.int .i64 0,.slice none 0 0,.int .i64 0,.int .i64 1]) R4.out rfl) Try.underlying33 rfl (by kernel_rfl)) rfl ⟨_,[],rfl,⟨.slice none 0 0,by rw [HV.out];rfl,by rw [HV.out];exact fit_bad (by unfold I64;decide),by rw [HV.out];exact OwS.nil _⟩,fun b hb=>absurd hb (by simp),setCells_ext HRB.out _ _ _ X4.out⟩
   | true =>
     have HV:Hid (taskRead t a=⟨q.1,q.2.1,0⟩):=Lib.hid (by rw [HE.out,if_pos hc,if_neg (by simp [htr])])
     clear hc
     go_wp2_with (first | (refine wpList_load_mid rfl 27 _ rfl N 0 rfl [.int .i64 q.1.label.level,.int .i64 q.1.label.set,.int .i64 q.1.id,.string q.1.owner,.int .i64 q.1.need,.int .i64 q.1.long,.int .i64 q.1.prio,.int .i64 q.1.under.level,.int .i64 q.1.under.set,.int .i64 q.1.after,.int .i64 q.1.born,.int .i64 q.1.state,.int .i64 q.1.start,.slice A1 q.1.nodes.length c1] _ HC.out Try.underlying27 rfl HI.out ?_) | (go_at_call 11;(with_reducible refine (taskRight_any (S:=fun b=>b∈F) q.1 [.int .i64 q.1.label.level,.int .i64 q.1.label.set,.int .i64 q.1.id,.string q.1.owner,.int .i64 q.1.need,.int .i64 q.1.long,.int .i64 q.1.prio,.int .i64 q.1.under.level,.int .i64 q.1.under.set,.int .i64 q.1.after,.int .i64 q.1.born,.int .i64 q.1.state,.int .i64 q.1.start,.slice A1 q.1.nodes.length c1] _ (rel_Task HFIT.out HO3.out.rd)).mono ?_);rintro e w4 ⟨rfl,hx4⟩;have X4:=Lib.hid (X3.out.trans hx4);have R4:=Lib.hid (R3.out.ext hx4);have HC4:=Lib.hid (hx4.range HC.out);have HO4:=Lib.hid (HO3.out.ext hx4);have b14:w4.cell? ⟨B,1,none⟩=some (.int .i64 q.2.1):=Ext.some hx4 b1;clear hx4) | (refine wpList_load_mid rfl 27 _ rfl N 0 rfl [.int .i64 q.1.label.level,.int .i64 q.1.label.set,.int .i64 q.1.id,.string q.1.owner,.int .i64 q.1.need,.int .i64 q.1.long,.int .i64 q.1.prio,.int .i64 q.1.under.level,.int .i64 q.1.under.set,.int .i64 q.1.after,.int .i64 q.1.born,.int .i64 q.1.state,.int .i64 q.1.start,.slice A1 q.1.nodes.length c1] _ HC4.out Try.underlying27 rfl HI.out ?_) | (refine wpList_store_mid rfl 33 _ _ rfl R 0 #[.int .i64 q.1.label.level,.int .i64 q.1.label.set,.int .i64 q.1.id,.string q.1.owner,.int .i64 q.1.need,.int .i64 q.1.long,.int .i64 q.1.prio,.int .i64 q.1.under.level,.int .i64 q.1.under.set,.int .i64 q.1.after,.int .i64 q.1.born,.int .i64 q.1.state,.int .i64 q.1.start,.slice A1 q.1.nodes.length c1,.int .i64 q.2.1,.int .i64 0] rfl rfl (Blk.there (t:=33) (cs:=#[.int .i64 0,.int .i64 0,.int .i64 0,.string ⟨#[]⟩,.int .i64 0,.int .i64 0,.int .i64 0,.int .i64 0,.int .i64 0,.int .i64 0,.int .i64 0,.int .i64 0,.int .i64 0,.slice none 0 0,.int .i64 0,.int .i64 0]) R4.out) (by kernel_rfl) (all_oneCell_toArray (cs:=[.int .i64 q.1.label.level,.int .i64 q.1.label.set,.int .i64 q.1.id,.string q.1.owner,.int .i64 q.1.need,.int .i64 q.1.long,.int .i64 q.1.prio,.int .i64 q.1.under.level,.int .i64 q.1.under.set,.int .i64 q.1.after,.int .i64 q.1.born,.int .i64 q.1.state,.int .i64 q.1.start,.slice A1 q.1.nodes.length c1,.int .i64 q.2.1,.int .i64 0]) (by simp [Value.oneCell'])) ?_))
     exact bodyPost_ret (v:=.agg #[.int .i64 q.1.label.level,.int .i64 q.1.label.set,.int .i64 q.1.id,.string q.1.owner,.int .i64 q.1.need,.int .i64 q.1.long,.int .i64 q.1.prio,.int .i64 q.1.under.level,.int .i64 q.1.under.set,.int .i64 q.1.after,.int .i64 q.1.born,.int .i64 q.1.state,.int .i64 q.1.start,.slice A1 q.1.nodes.length c1,.int .i64 q.2.1,.int .i64 0]) (results_blk Try.results7 rfl (Blk.setAll (t:=33) (cs:=#[.int .i64 0,.int .i64 0,.int .i64 0,.string ⟨#[]⟩,.int .i64 0,.int .i64 0,.int .i64 0,.int .i64 0,.int .i64 0,.int .i64 0,.int .i64 0,.int .i64 0,.int .i64 0,.slice none 0 0,.int .i64 0,.int .i64 0]) (vs:=#[.int .i64 q.1.label.level,.int .i64 q.1.label.set,.int .i64 q.1.id,.string q.1.owner,.int .i64 q.1.need,.int .i64 q.1.long,.int .i64 q.1.prio,.int .i64 q.1.under.level,.int .i64 q.1.under.set,.int .i64 q.1.after,.int .i64 q.1.born,.int .i64 q.1.state,.int .i64 q.1.start,.slice A1 q.1.nodes.length c1,.int .i64 q.2.1,.int .i64 0]) R4.out rfl) Try.underlying33 rfl (by kernel_rfl)) rfl ⟨_,F,rfl,⟨.slice A1 q.1.nodes.length c1,by rw [HV.out];rfl,by rw [HV.out];exact fit_good HFIT.out HQF.out.1,by rw [HV.out];exact HO4.out.kept (G:=[R]) (Kept.setCells (by simp) _ _ _ (Kept.refl _ _)) (fun b hb=>by have:=HFB.out b hb;simp;omega)⟩,fun b hb=>Nat.le_trans HRB.out (Nat.le_of_lt (HFB.out b hb)),setCells_ext HRB.out _ _ _ X4.out⟩
 · have HV:Hid (taskRead t a=⟨zeroTask,0,q.2.2⟩):=Lib.hid (by rw [HE.out,if_neg hc])
   go_wp2_with (first | (refine wpList_store_mid rfl 33 _ _ rfl R 0 #[.int .i64 0,.int .i64 0,.int .i64 0,.string ⟨#[]⟩,.int .i64 0,.int .i64 0,.int .i64 0,.int .i64 0,.int .i64 0,.int .i64 0,.int .i64 0,.int .i64 0,.int .i64 0,.slice none 0 0,.int .i64 0,.int .i64 q.2.2] rfl rfl (Blk.there (t:=33) (cs:=#[.int .i64 0,.int .i64 0,.int .i64 0,.string ⟨#[]⟩,.int .i64 0,.int .i64 0,.int .i64 0,.int .i64 0,.int .i64 0,.int .i64 0,.int .i64 0,.int .i64 0,.int .i64 0,.slice none 0 0,.int .i64 0,.int .i64 0]) R3.out) (by kernel_rfl) (all_oneCell_toArray (cs:=[.int .i64 0,.int .i64 0,.int .i64 0,.string ⟨#[]⟩,.int .i64 0,.int .i64 0,.int .i64 0,.int .i64 0,.int .i64 0,.int .i64 0,.int .i64 0,.int .i64 0,.int .i64 0,.slice none 0 0,.int .i64 0,.int .i64 q.2.2]) (by simp [Value.oneCell'])) ?_))
   exact bodyPost_ret (v:=.agg #[.int .i64 0,.int .i64 0,.int .i64 0,.string ⟨#[]⟩,.int .i64 0,.int .i64 0,.int .i64 0,.int .i64 0,.int .i64 0,.int .i64 0,.int .i64 0,.int .i64 0,.int .i64 0,.slice none 0 0,.int .i64 0,.int .i64 q.2.2]) (results_blk Try.results7 rfl (Blk.setAll (t:=33) (cs:=#[.int .i64 0,.int .i64 0,.int .i64 0,.string ⟨#[]⟩,.int .i64 0,.int .i64 0,.int .i64 0,.int .i64 0,.int .i64 0,.int .i64 0,.int .i64 0,.int .i64 0,.int .i64 0,.slice none 0 0,.int .i64 0,.int .i64 0]) (vs:=#[.int .i64 0,.int .i64 0,.int .i64 0,.string ⟨#[]⟩,.int .i64 0,.int .i64 0,.int .i64 0,.int .i64 0,.int .i64 0,.int .i64 0,.int .i64 0,.int .i64 0,.int .i64 0,.slice none 0 0,.int .i64 0,.int .i64 q.2.2]) R3.out rfl) Try.underlying33 rfl (by kernel_rfl)) rfl ⟨_,[],rfl,⟨.slice none 0 0,by rw [HV.out];rfl,by rw [HV.out];exact fit_bad (HQF.out.2),by rw [HV.out];exact OwS.nil _⟩,fun b hb=>absurd hb (by simp),setCells_ext HRB.out _ _ _ X3.out⟩
end Go.Proofs.Ytlonjlaecaemgaa
