/- The program's YardTick: the walk. Printed by wip/scratch/mkyt.py. -/
import Derived.Test.YtoblacfjmcpbmaaGreatTickB
import Derived.Test.YtoblacfjmcpbmaaGreatUAddI
import Derived.Test.YtoblacfjmcpbmaaGreatHalf
import Derived.Test.YtoblacfjmcpbmaaGreatOrphI
import Derived.Test.YtoblacfjmcpbmaaGreatYardCp
import Derived.Test.YtoblacfjmcpbmaaGreatYardTt
import Derived.Deep.RegionHeld3
import Derived.Deep.CutBlock
namespace Go.Proofs.YtoblacfjmcpbmaaGreat
open Go.RowKit
attribute [local irreducible] wpQuiet
def RetR (x:YardOut) (w:World) (e:Ending) (w':World):Prop:=∃ cs:List Value,e=.returned (.agg cs.toArray)∧EYardOut.rel (fun b=>w.heap.size≤b) w' cs x∧Ext w w'
theorem rel_none {S:Nat→Prop} {w:World} {cs:List Value} {x:YardOut} (h:EYardOut.rel (fun b=>b∈([]:List Nat)) w cs x):EYardOut.rel S w cs x:=EYardOut.sub (fun b hb=>by cases hb) h
theorem apart6 {G1 G2 G3 G4 G5 G6:List Nat} (h:(G1 ++ (G2 ++ (G3 ++ (G4 ++ (G5 ++ G6))))).Nodup):(∀ b∈G1,b∉G5)∧(∀ b∈G2,b∉G5)∧(∀ b∈G3,b∉G5)∧(∀ b∈G4,b∉G5)∧(∀ b∈G6,b∉G5):=by
 simp only [List.nodup_append,List.mem_append] at h
 obtain ⟨-,⟨-,⟨-,⟨-,⟨-,-,h5⟩,h4⟩,h3⟩,h2⟩,h1⟩:=h
 exact ⟨fun b hb hc=>h1 b hb b (by simp [hc]) rfl,fun b hb hc=>h2 b hb b (by simp [hc]) rfl,fun b hb hc=>h3 b hb b (by simp [hc]) rfl,fun b hb hc=>h4 b hb b (by simp [hc]) rfl,fun b hb hc=>h5 b hc b hb rfl⟩
theorem end_bounds {t:Task} (h:taskRight t=true):0≤t.start∧t.start≤1000000∧1≤t.long∧t.long≤20:=by
 simp only [taskRight,isWorkB,isB,placeOk,timeOk,Bool.and_eq_true,decide_eq_true_eq] at h
 split at h <;> simp only [Bool.and_eq_true,decide_eq_true_eq] at h <;> omega
theorem mid_few {y:Yard} (h:yardRight y=true):∀ k,k < (midTasks y).length→(nth (midTasks y) k).nodes.length≤1000000000:=by
 intro k hk
 have h1:k < y.tasks.length:=by simpa [midTasks] using hk
 have h2:=(few_yard h).2.2.2.2.1 k h1
 rw [show nth (midTasks y) k=overT (y.now+1) (nth y.tasks k) from nth_map h1,overT]
 split
 · simp [withTask]
 · exact h2
theorem half_pos {y:Yard} (h:yardRight y=true):1≤y.config.half:=by
 have h:=right_config h
 simp only [configRight,isB,Bool.and_eq_true,decide_eq_true_eq] at h
 omega
theorem use_fold_take {l:List Task} {k:Nat} (hk:k < l.length) (u:List Use):useFold (l.take (k+1)) u=if runsB (nth l k)=true then useAdd (useFold (l.take k) u) (nth l k).label (nth l k).owner (nth l k).need else useFold (l.take k) u:=by
 rw [useFold,take_succ_nth hk,List.foldl_append];rfl
def ovMix (now:Int) (l:List Task) (k:Nat):List Task:=(l.take k).map (overT now) ++ l.drop k
theorem ovMix_zero (now:Int) (l:List Task):ovMix now l 0=l:=by simp [ovMix]
theorem ovMix_full (now:Int) (l:List Task):ovMix now l l.length=l.map (overT now):=by simp [ovMix]
theorem ovMix_length (now:Int) {l:List Task} {k:Nat} (hk:k≤l.length):(ovMix now l k).length=l.length:=by
 simp only [ovMix,List.length_append,List.length_map,List.length_take,List.length_drop];omega
theorem ovMix_set (now:Int) {l:List Task} {k:Nat} (hk:k < l.length):(ovMix now l k).set k (overT now (nth l k))=ovMix now l (k+1):=by
 have hd:l.drop k=nth l k :: l.drop (k+1):=by rw [nth_eq hk];exact List.drop_eq_getElem_cons hk
 have hl:((l.take k).map (overT now)).length=k:=by rw [List.length_map,List.length_take];omega
 unfold ovMix
 rw [take_map_succ hk,hd,List.set_append_right _ _ (by omega),hl,Nat.sub_self,List.append_assoc]
 rfl
theorem ovMix_nth (now:Int) {l:List Task} {k:Nat} (hk:k < l.length):nth (ovMix now l k) k=nth l k:=by
 have hd:l.drop k=nth l k :: l.drop (k+1):=by rw [nth_eq hk];exact List.drop_eq_getElem_cons hk
 have hl:((l.take k).map (overT now)).length=k:=by rw [List.length_map,List.length_take];omega
 have h:=nth_append_right (l:=(l.take k).map (overT now)) (m:=l.drop k) (k:=0) (by rw [List.length_drop];omega)
 rw [hl,Nat.add_zero] at h
 unfold ovMix
 rw [h,hd]
 rfl
theorem ovMix_same (now:Int) {l:List Task} {k:Nat} (hk:k < l.length) (h:overT now (nth l k)=nth l k):ovMix now l k=ovMix now l (k+1):=by
 have h1:=ovMix_set now hk
 rw [h] at h1
 rw [← h1]
 have hlen:=ovMix_length now (l:=l) (k:=k) (by omega)
 have hn:=ovMix_nth now hk
 rw [nth_eq (by omega)] at hn
 rw [← hn]
 exact (List.set_getElem_self (by omega)).symm
set_option maxHeartbeats 16000000 in
set_option maxRecDepth 100000 in
theorem tick_any {S:Nat→Prop} (y:Yard) (cs:List Value) (w:World) (h:EYard.rel S w cs y) :
 Calls Tryz.prog 12 #[.agg cs.toArray] w (RetR (tickY y) w):=by
 have H:=Lib.hid h
 obtain ⟨v1,v2,v3,v4,v5,v6,rfl,hf,h1,h2,h3,h4,h5,h6⟩:=h
 obtain ⟨A1,c1,rfl,-⟩:=h1.form
 obtain ⟨A2,c2,rfl,-⟩:=h2.form
 obtain ⟨A3,c3,rfl,-⟩:=h3.form
 obtain ⟨A4,c4,rfl,-⟩:=h4.form
 obtain ⟨A5,c5,rfl,-⟩:=h5.form
 obtain ⟨A6,c6,rfl,-⟩:=h6.form
 have HF:=Lib.hid hf
 have HYR:Hid (∀ V,Ext w V→EYard.rel S V [.slice A1 y.config.nodes.length c1,.slice A2 y.config.pairs.length c2,.slice A3 y.config.quotas.length c3,.int .i64 y.config.half,.slice A4 y.nodes.length c4,.slice A5 y.tasks.length c5,.slice A6 y.uses.length c6,.int .i64 y.now] y):=Lib.hid fun V hV=>EYard.keep (hV.same _) H.out
 clear hf h1 h2 h3 h4 h5 h6
 obtain ⟨t,ht⟩:∃ t,yardRight y=t:=⟨_,rfl⟩
 have HT:=Lib.hid ht
 clear ht
 simp only [cellsYard]
 go_enter Tryz.func12,Tryz.ntmps12
 go_upto_region 1 with (fail)
 obtain ⟨W,B,hW,hB,hx0,a0,b0⟩:=boxes2 w #[.slice A1 y.config.nodes.length c1,.slice A2 y.config.pairs.length c2,.slice A3 y.config.quotas.length c3,.int .i64 y.config.half,.slice A4 y.nodes.length c4,.slice A5 y.tasks.length c5,.slice A6 y.uses.length c6,.int .i64 y.now] #[.slice none 0 0,.slice none 0 0,.slice none 0 0,.int .i64 0,.slice none 0 0,.slice none 0 0,.slice none 0 0,.int .i64 0,.int .i64 0,.int .i64 0] 35 37
 rw [← hW,← hB]
 have HB:Hid (w.heap.size≤B+1):=Lib.hid (by omega)
 have X:=Lib.hid hx0
 have Q1:=Lib.hid a0
 have Q2:=Lib.hid b0
 clear hW hB hx0 a0 b0
 have q1:=Q1.out.cell
 cases t with
 | false =>
   go_wp2_with (first | (go_at_call 20;(with_reducible refine (yardRight_is (S:=S) y _ _ (HYR.out _ X.out) _ HT.out).mono ?_);rintro e w7 ⟨rfl,hx7⟩;have X7:=Lib.hid (X.out.trans hx7);have R7:=Lib.hid (Q2.out.ext hx7);have Q7:=Lib.hid (Q1.out.ext hx7);clear hx7 q1;have q1:=Q7.out.cell) | refine wpList_store_mid rfl 37 _ _ rfl (B+1) 0 #[.slice none 0 0,.slice none 0 0,.slice none 0 0,.int .i64 0,.slice none 0 0,.slice none 0 0,.slice none 0 0,.int .i64 0,.int .i64 0,.int .i64 1] rfl rfl (Blk.there (t:=37) (cs:=#[.slice none 0 0,.slice none 0 0,.slice none 0 0,.int .i64 0,.slice none 0 0,.slice none 0 0,.slice none 0 0,.int .i64 0,.int .i64 0,.int .i64 0]) R7.out) (by kernel_rfl) (all_oneCell_toArray (cs:=[.slice none 0 0,.slice none 0 0,.slice none 0 0,.int .i64 0,.slice none 0 0,.slice none 0 0,.slice none 0 0,.int .i64 0,.int .i64 0,.int .i64 1]) (by simp [Value.oneCell'])) ?_)
   exact bodyPost_ret (v:=.agg #[.slice none 0 0,.slice none 0 0,.slice none 0 0,.int .i64 0,.slice none 0 0,.slice none 0 0,.slice none 0 0,.int .i64 0,.int .i64 0,.int .i64 1]) (results_blk Tryz.results12 rfl (Blk.setAll (t:=37) (cs:=#[.slice none 0 0,.slice none 0 0,.slice none 0 0,.int .i64 0,.slice none 0 0,.slice none 0 0,.slice none 0 0,.int .i64 0,.int .i64 0,.int .i64 0]) (vs:=#[.slice none 0 0,.slice none 0 0,.slice none 0 0,.int .i64 0,.slice none 0 0,.slice none 0 0,.slice none 0 0,.int .i64 0,.int .i64 0,.int .i64 1]) R7.out rfl) Tryz.underlying37 rfl (by kernel_rfl)) rfl ⟨_,rfl,by rw [tick_bad HT.out];exact OYardOut.rel (own_ill _ _ (by unfold I64;decide)) |> rel_none,setCells_ext HB.out _ _ _ X7.out⟩
 | true =>
   by_cases hnow:y.now=999900
   · have HNW:=Lib.hid hnow
     have hnb:(y.now == 999900)=true:=by simp [hnow]
     clear hnow
     go_wp2_with (first | (go_at_call 20;(with_reducible refine (yardRight_is (S:=S) y _ _ (HYR.out _ X.out) _ HT.out).mono ?_);rintro e w7 ⟨rfl,hx7⟩;have X7:=Lib.hid (X.out.trans hx7);have R7:=Lib.hid (Q2.out.ext hx7);have Q7:=Lib.hid (Q1.out.ext hx7);clear hx7 q1;have q1:=Q7.out.cell) | refine wpList_store_mid rfl 37 _ _ rfl (B+1) 0 #[.slice none 0 0,.slice none 0 0,.slice none 0 0,.int .i64 0,.slice none 0 0,.slice none 0 0,.slice none 0 0,.int .i64 0,.int .i64 0,.int .i64 9] rfl rfl (Blk.there (t:=37) (cs:=#[.slice none 0 0,.slice none 0 0,.slice none 0 0,.int .i64 0,.slice none 0 0,.slice none 0 0,.slice none 0 0,.int .i64 0,.int .i64 0,.int .i64 0]) R7.out) (by kernel_rfl) (all_oneCell_toArray (cs:=[.slice none 0 0,.slice none 0 0,.slice none 0 0,.int .i64 0,.slice none 0 0,.slice none 0 0,.slice none 0 0,.int .i64 0,.int .i64 0,.int .i64 9]) (by simp [Value.oneCell'])) ?_)
     exact bodyPost_ret (v:=.agg #[.slice none 0 0,.slice none 0 0,.slice none 0 0,.int .i64 0,.slice none 0 0,.slice none 0 0,.slice none 0 0,.int .i64 0,.int .i64 0,.int .i64 9]) (results_blk Tryz.results12 rfl (Blk.setAll (t:=37) (cs:=#[.slice none 0 0,.slice none 0 0,.slice none 0 0,.int .i64 0,.slice none 0 0,.slice none 0 0,.slice none 0 0,.int .i64 0,.int .i64 0,.int .i64 0]) (vs:=#[.slice none 0 0,.slice none 0 0,.slice none 0 0,.int .i64 0,.slice none 0 0,.slice none 0 0,.slice none 0 0,.int .i64 0,.int .i64 0,.int .i64 9]) R7.out rfl) Tryz.underlying37 rfl (by kernel_rfl)) rfl ⟨_,rfl,by rw [tick_full HT.out HNW.out];exact OYardOut.rel (own_ill _ _ (by unfold I64;decide)) |> rel_none,setCells_ext HB.out _ _ _ X7.out⟩
   · have HNW:=Lib.hid hnow
     have hn0:0≤y.now∧y.now < 999900:=by
      have:=right_now HT.out;omega
     obtain ⟨hn1,hn2⟩:=hn0
     have HNB:Hid (0≤y.now∧y.now < 999900):=Lib.hid ⟨hn1,hn2⟩
     rw [tick_ok HT.out hnow]
     have hnb:(y.now == 999900)=false:=by simp [hnow]
     clear hnow
     go_upto_region 5 with (go_at_call 20;(with_reducible refine (yardRight_is (S:=S) y _ _ (HYR.out _ X.out) _ HT.out).mono ?_);rintro e w7 ⟨rfl,hx7⟩;have X7:=Lib.hid (X.out.trans hx7);have R7:=Lib.hid (Q2.out.ext hx7);have Q7:=Lib.hid (Q1.out.ext hx7);clear hx7 q1;have q1:=Q7.out.cell)
     clear hnb
     have hwr:IntKind.i64.wrap (y.now+1)=y.now+1:=IntWalk.i64_in _ (by omega)
     have HWR:=Lib.hid hwr
     clear hwr hn1 hn2
     have HHF:Hid (1≤y.config.half):=Lib.hid (half_pos HT.out)
     go_upto_region 6 with (go_at_call 27;(with_reducible refine (copyYard_own (S:=S) y _ _ (HYR.out _ X7.out) (few_yard HT.out)).mono ?_);rintro e w9 ⟨cs9,G9,rfl,⟨u1,u2,u3,u4,u5,u6,G1,G2,G3,G4,G5,G6,rfl,-,o1,o2,o3,o4,o5,o6,hG,hn⟩,g9,hx9⟩;obtain ⟨p1,k1,rfl,-⟩:=OwS.form o1;obtain ⟨p2,k2,rfl,-⟩:=OwS.form o2;obtain ⟨p3,k3,rfl,-⟩:=OwS.form o3;obtain ⟨p4,k4,rfl,-⟩:=OwS.form o4;obtain ⟨p5,k5,rfl,-⟩:=OwS.form o5;obtain ⟨p6,k6,rfl,-⟩:=OwS.form o6;have O1:=Lib.hid o1;have O2:=Lib.hid o2;have O3:=Lib.hid o3;have O4:=Lib.hid o4;have O5:=Lib.hid o5;have O6:=Lib.hid o6;have H9:=Lib.hid hx9;have G99:=Lib.hid g9;have HAP:=Lib.hid (apart6 (hG ▸ hn));have HG5:Hid (∀ b∈G5,b∈G9):=Lib.hid (fun b hb=>by rw [hG];simp [hb]);have HGG:=Lib.hid hG;have HB9:Hid (∀ b∈G9,B+1 < b):=Lib.hid (fun b hb=>by have:=g9 b hb;have:=R7.out.lt;omega);clear o1 o2 o3 o4 o5 o6 hG hn g9 hx9 q1;simp only [cellsYard])
     obtain ⟨ts,FT,hts,ot,hFT,hnd⟩:=tasks_ow O5.out
     have hTL:y.tasks.length=ts.length:=by rw [← hts,List.length_map]
     rw [hTL]
     rw [hTL] at ot
     have HTL:=Lib.hid hTL
     have HTS:=Lib.hid hts
     have OT:=Lib.hid ot
     have HFT:=Lib.hid hFT
     have HND:=Lib.hid hnd
     have hl96:ts.length≤96:=by have:=tasksRight_length (right_tasks HT.out);omega
     clear hTL hts ot hFT hnd
     obtain ⟨W10,C,hW__,hB__,hx__,hb__⟩:=new_box w9 #[.slice p1 y.config.nodes.length k1,.slice p2 y.config.pairs.length k2,.slice p3 y.config.quotas.length k3,.int .i64 y.config.half,.slice p4 y.nodes.length k4,.slice p5 ts.length k5,.slice p6 y.uses.length k6,.int .i64 (y.now)] 35
     rw [← hW__,← hB__]
     have XW10:=Lib.hid hx__
     have QC:=Lib.hid hb__
     have EC:=Lib.hid hB__
     clear hW__ hB__ hx__ hb__
     have X9:Hid (Ext w w9):=Lib.hid (X7.out.trans H9.out)
     have X10:Hid (Ext w W10):=Lib.hid ((X7.out.trans H9.out).trans XW10.out)
     have R10:Hid (Blk W10 (B+1) 37 #[.slice none 0 0,.slice none 0 0,.slice none 0 0,.int .i64 0,.slice none 0 0,.slice none 0 0,.slice none 0 0,.int .i64 0,.int .i64 0,.int .i64 0]):=Lib.hid ((R7.out.ext H9.out).ext XW10.out)
     have D1:Hid (Rd (ERow ELabel) (fun b=>b≠C∧b∉FT∧B+1 < b) W10 (.slice p1 y.config.nodes.length k1) y.config.nodes):=Lib.hid ((O1.out.rd.sub fun b hb=>⟨fun he=>by have:=O1.out.lt b hb;have:=EC.out;omega,fun h=>HAP.out.1 b hb (HFT.out b h),HB9.out b (by rw [HGG.out];simp [hb])⟩).ext XW10.out)
     have D2:Hid (Rd EPair (fun b=>b≠C∧b∉FT∧B+1 < b) W10 (.slice p2 y.config.pairs.length k2) y.config.pairs):=Lib.hid ((O2.out.rd.sub fun b hb=>⟨fun he=>by have:=O2.out.lt b hb;have:=EC.out;omega,fun h=>HAP.out.2.1 b hb (HFT.out b h),HB9.out b (by rw [HGG.out];simp [hb])⟩).ext XW10.out)
     have D3:Hid (Rd EQuota (fun b=>b≠C∧b∉FT∧B+1 < b) W10 (.slice p3 y.config.quotas.length k3) y.config.quotas):=Lib.hid ((O3.out.rd.sub fun b hb=>⟨fun he=>by have:=O3.out.lt b hb;have:=EC.out;omega,fun h=>HAP.out.2.2.1 b hb (HFT.out b h),HB9.out b (by rw [HGG.out];simp [hb])⟩).ext XW10.out)
     have D4:Hid (Rd ENode (fun b=>b≠C∧b∉FT∧B+1 < b) W10 (.slice p4 y.nodes.length k4) y.nodes):=Lib.hid ((O4.out.rd.sub fun b hb=>⟨fun he=>by have:=O4.out.lt b hb;have:=EC.out;omega,fun h=>HAP.out.2.2.2.1 b hb (HFT.out b h),HB9.out b (by rw [HGG.out];simp [hb])⟩).ext XW10.out)
     have D6:Hid (Rd EUse (fun b=>b≠C∧b∉FT∧B+1 < b) W10 (.slice p6 y.uses.length k6) y.uses):=Lib.hid ((O6.out.rd.sub fun b hb=>⟨fun he=>by have:=O6.out.lt b hb;have:=EC.out;omega,fun h=>HAP.out.2.2.2.2 b hb (HFT.out b h),HB9.out b (by rw [HGG.out];simp [hb])⟩).ext XW10.out)
     have D5:Hid (OwS OTV 46 W10 (.slice p5 ts.length k5) ts FT):=Lib.hid (OT.out.ext XW10.out)
     have DN:Hid (∀ e∈ts,Rd EInt (fun b=>b≠C∧b∉FT∧B+1 < b) W10 e.v e.x.nodes):=Lib.hid fun e he=>((HND.out e he).sub fun b hb=>⟨fun h=>by have:=O5.out.lt b hb.1;have:=EC.out;omega,hb.2,HB9.out b (HG5.out b hb.1)⟩).ext XW10.out
     have HFW:Hid (∀ b∈FT,w.heap.size≤b):=Lib.hid fun b hb=>Nat.le_trans (X7.out).size (G99.out b (HG5.out b (HFT.out b hb)))
     have HCW:Hid (w.heap.size≤C):=Lib.hid (by have:=X10.out.size;have:=QC.out.lt;have:=EC.out;have:=(X7.out.trans H9.out).size;omega)
     have HBC:Hid (B+1 < C):=Lib.hid (by have:=R7.out.lt;have:=H9.out.size;have:=EC.out;omega)
     have HCF:Hid (C∉FT):=Lib.hid fun h=>by have:=OT.out.lt C h;have:=EC.out;omega
     clear H9 XW10
     have qc:=QC.out.cell
     go_wp2_with fail
     clear qc
     go_loopw [23] (fun i w'=>∃ (k:Nat) (us:List Use) (p:Option Addr) (q:Nat),i=.int .i64 k∧k≤ts.length∧us=useFold (y.tasks.take k) y.uses∧Blk w' C 35 #[.slice p1 y.config.nodes.length k1,.slice p2 y.config.pairs.length k2,.slice p3 y.config.quotas.length k3,.int .i64 y.config.half,.slice p4 y.nodes.length k4,.slice p5 ts.length k5,.slice p us.length q,.int .i64 (y.now)]∧Rd EUse (fun b=>b≠C∧b∉FT∧B+1 < b) w' (.slice p us.length q) us∧Kept [C] W10 w') (fun i _=>ts.length - (intOf i).toNat)
     case atStart=>exact ⟨0,y.uses,p6,k6,rfl,by omega,by simp [useFold],QC.out,D6.out,Kept.refl _ _⟩
     case round =>
      obtain ⟨k,us,p,q,rfl,hk,hus,hC,hU,hkp⟩:=hrel
      have HO:Hid (OwS OTV 46 wr (.slice p5 ts.length k5) ts FT):=Lib.hid (D5.out.keep fun b hb=>hkp.block b (D5.out.lt b hb) (by intro h;exact HCF.out (List.mem_singleton.1 h ▸ hb)))
      have HCB:=Lib.hid hC
      have HU:=Lib.hid hU
      have HK:=Lib.hid hkp
      have HUS:=Lib.hid hus
      clear hC hU hkp hus
      by_cases hlt:k < ts.length
      · obtain ⟨Bt,c',G,cs,hv,hBF,-,-,hown,hc,-,-,-,-⟩:=HO.out.at (k:=k) hlt
        have hex:nth y.tasks k=(nth ts k).x:=by rw [← HTS.out,nth_map hlt]
        generalize nth ts k=e at hown hex
        obtain ⟨⟨rfl,hfit⟩,rfl⟩:=hown
        injection hv with hA hl1 hc1
        subst hA
        clear hl1 hc1
        have hcc:wr.rangeAt Bt (k * 14) [.int .i64 e.x.label.level,.int .i64 e.x.label.set,.int .i64 e.x.id,.string e.x.owner,.int .i64 e.x.need,.int .i64 e.x.long,.int .i64 e.x.prio,.int .i64 e.x.under.level,.int .i64 e.x.under.set,.int .i64 e.x.after,.int .i64 e.x.born,.int .i64 e.x.state,.int .i64 e.x.start,.slice e.A e.n e.c]:=hc
        have d0:wr.cell? ⟨Bt,k * 14,none⟩=some (.int .i64 e.x.label.level):=by simpa using hcc 0 _ rfl
        have d1:wr.cell? ⟨Bt,k * 14+1,none⟩=some (.int .i64 e.x.label.set):=by simpa using hcc 1 _ rfl
        have d2:wr.cell? ⟨Bt,k * 14+2,none⟩=some (.int .i64 e.x.id):=by simpa using hcc 2 _ rfl
        have d3:wr.cell? ⟨Bt,k * 14+3,none⟩=some (.string e.x.owner):=by simpa using hcc 3 _ rfl
        have d4:wr.cell? ⟨Bt,k * 14+4,none⟩=some (.int .i64 e.x.need):=by simpa using hcc 4 _ rfl
        have d5:wr.cell? ⟨Bt,k * 14+5,none⟩=some (.int .i64 e.x.long):=by simpa using hcc 5 _ rfl
        have d6:wr.cell? ⟨Bt,k * 14+6,none⟩=some (.int .i64 e.x.prio):=by simpa using hcc 6 _ rfl
        have d7:wr.cell? ⟨Bt,k * 14+7,none⟩=some (.int .i64 e.x.under.level):=by simpa using hcc 7 _ rfl
        have d8:wr.cell? ⟨Bt,k * 14+8,none⟩=some (.int .i64 e.x.under.set):=by simpa using hcc 8 _ rfl
        have d9:wr.cell? ⟨Bt,k * 14+9,none⟩=some (.int .i64 e.x.after):=by simpa using hcc 9 _ rfl
        have d10:wr.cell? ⟨Bt,k * 14+10,none⟩=some (.int .i64 e.x.born):=by simpa using hcc 10 _ rfl
        have d11:wr.cell? ⟨Bt,k * 14+11,none⟩=some (.int .i64 e.x.state):=by simpa using hcc 11 _ rfl
        have d12:wr.cell? ⟨Bt,k * 14+12,none⟩=some (.int .i64 e.x.start):=by simpa using hcc 12 _ rfl
        have d13:wr.cell? ⟨Bt,k * 14+13,none⟩=some (.slice e.A e.n e.c):=by simpa using hcc 13 _ rfl
        have HFIT:=Lib.hid hfit
        have HFL:Hid (FitLabel e.x.label):=Lib.hid ⟨hfit.1,hfit.2.1⟩
        have HSO:Hid (Str e.x.owner):=Lib.hid hfit.2.2.2.1
        have HNE:Hid (I64 e.x.need):=Lib.hid hfit.2.2.2.2.1
        have HEX:=Lib.hid hex
        clear hcc hc hfit hex hBF
        go_upto_region 9 with fail
        obtain ⟨W5,T5,hW__,hB__,hx__,hb__⟩:=new_box wr #[.int .i64 e.x.label.level,.int .i64 e.x.label.set,.int .i64 e.x.id,.string e.x.owner,.int .i64 e.x.need,.int .i64 e.x.long,.int .i64 e.x.prio,.int .i64 e.x.under.level,.int .i64 e.x.under.set,.int .i64 e.x.after,.int .i64 e.x.born,.int .i64 e.x.state,.int .i64 e.x.start,.slice e.A e.n e.c] 46
        rw [← hW__,← hB__]
        have XW5:=Lib.hid hx__
        have QT5:=Lib.hid hb__
        have ET5:=Lib.hid hB__
        clear hW__ hB__ hx__ hb__
        have qt:=QT5.out.cell
        have qc:=(HCB.out.ext XW5.out).cell
        clear d0 d1 d2 d3 d4 d5 d6 d7 d8 d9 d10 d11 d12 d13
        by_cases hs:e.x.state=2
        · have hsb:(e.x.state == 2)=true:=by simp [hs]
          have HS:=Lib.hid hs
          clear hs
          go_wp2_with (go_at_call 36;(with_reducible refine (useAdd_any (S:=fun b=>b≠C∧b∉FT∧B+1 < b) us e.x.label e.x.owner e.x.need _ _ (HU.out.ext XW5.out) HFL.out HSO.out HNE.out).mono ?_);rintro e6 w6 ⟨v6',F6,rfl,o6,g6,hx6⟩;obtain ⟨P6,K6,rfl,-⟩:=OwS.form o6;have O66:=Lib.hid o6;have G66:=Lib.hid g6;have X66:=Lib.hid hx6;clear o6 g6 hx6 qc qt;have qc:=((HCB.out.ext XW5.out).ext X66.out).cell;have qf:=((HCB.out.ext XW5.out).ext X66.out).frozen)
          refine ⟨⟨k+1,useAdd us e.x.label e.x.owner e.x.need,P6,K6,by go_num,by omega,?_,by simpa using ((HCB.out.ext XW5.out).ext X66.out).set_ 6 (.slice P6 (useAdd us e.x.label e.x.owner e.x.need).length K6),?_,?_⟩,by simp [intOf];omega⟩
          · rw [use_fold_take (show k < y.tasks.length by have:=HTL.out;omega),HEX.out,if_pos (by simp [runsB,HS.out]),← HUS.out]
          · refine (O66.out.rd.sub fun b hb=>?_).keep ((Same.refl _ _).setCell (p:=⟨C,6,none⟩) (by simp) _)
            have:=G66.out b hb
            have:=(HCB.out.ext XW5.out).lt
            have:=XW5.out.size
            exact ⟨by omega,fun h=>by have:=HO.out.lt b h;omega,by have:=HBC.out;omega⟩
          · exact Kept.setCell (p:=⟨C,6,none⟩) (HK.out.trans (Kept.of_ext (XW5.out.trans X66.out))) (by simp) _
        · have hsb:(e.x.state == 2)=false:=by simp [hs]
          have HS:=Lib.hid hs
          clear hs
          go_wp2_with fail
          refine ⟨⟨k+1,us,p,q,by go_num,by omega,?_,HCB.out.ext XW5.out,HU.out.ext XW5.out,HK.out.trans (Kept.of_ext XW5.out)⟩,by simp [intOf];omega⟩
          rw [use_fold_take (show k < y.tasks.length by have:=HTL.out;omega),HEX.out,if_neg (by simp [runsB,HS.out]),← HUS.out]
      · have hk':k=ts.length:=by omega
        subst hk'
        have husf:us=useFold y.tasks y.uses:=by rw [HUS.out,List.take_of_length_le (by have:=HTL.out;omega)]
        have HUF:=Lib.hid husf
        have qc:=HCB.out.cell
        have qf:=HCB.out.frozen
        have hwr:=HWR.out
        have hhf:y.config.half≠0:=by have:=HHF.out;omega
        clear husf hk hlt
        go_upto_if 51 with fail
        obtain ⟨W11,hW11,hC11,hK11,hU11⟩:∃ V,V=wr.setCell ⟨C,7,none⟩ (.int .i64 (y.now+1))∧Blk V C 35 #[.slice p1 y.config.nodes.length k1,.slice p2 y.config.pairs.length k2,.slice p3 y.config.quotas.length k3,.int .i64 y.config.half,.slice p4 y.nodes.length k4,.slice p5 ts.length k5,.slice p us.length q,.int .i64 (y.now+1)]∧Kept [C] W10 V∧Rd EUse (fun b=>b≠C∧b∉FT∧B+1 < b) V (.slice p us.length q) us:=⟨_,rfl,by simpa using HCB.out.set_ 7 (.int .i64 (y.now+1)),HK.out.setCell (p:=⟨C,7,none⟩) (by simp) _,HU.out.keep ((Same.refl _ _).setCell (p:=⟨C,7,none⟩) (by simp) _)⟩
        rw [← hW11]
        have C11:=Lib.hid hC11
        have K11:=Lib.hid hK11
        have U11:=Lib.hid hU11
        clear hW11 hC11 hK11 hU11 hwr qc qf HCB HU HK
        clear hhf
        go_cut [3] (fun pp wx=>pp=.pointer (some ⟨C,0,none⟩)∧∃ (u4:List Use) (P4:Option Addr) (K4:Nat),u4=halfU y (useFold y.tasks y.uses)∧Blk wx C 35 #[.slice p1 y.config.nodes.length k1,.slice p2 y.config.pairs.length k2,.slice p3 y.config.quotas.length k3,.int .i64 y.config.half,.slice p4 y.nodes.length k4,.slice p5 ts.length k5,.slice P4 u4.length K4,.int .i64 (y.now+1)]∧Rd EUse (fun b=>b≠C∧b∉FT∧B+1 < b) wx (.slice P4 u4.length K4) u4∧Kept [C] W10 wx)
        case first =>
         by_cases hh:(y.now+1) % y.config.half=0
         · have htm:(y.now+1).tmod y.config.half=0:=by rw [Int.tmod_eq_emod_of_nonneg (by have:=HNB.out;omega)];exact hh
           have HH:=Lib.hid hh
           clear hh
           have qc:=C11.out.cell
           have qf:=C11.out.frozen
           go_wp2_with (go_at_call 37;(with_reducible refine (usesHalf_any (S:=fun b=>b≠C∧b∉FT∧B+1 < b) us _ _ U11.out).mono ?_);rintro e6 w6 ⟨v6',F6,rfl,o6,g6,hx6⟩;obtain ⟨P6,K6,rfl,-⟩:=OwS.form o6;have O66:=Lib.hid o6;have G66:=Lib.hid g6;have X66:=Lib.hid hx6;clear o6 g6 hx6 qc qf;have qc:=(C11.out.ext X66.out).cell;have qf:=(C11.out.ext X66.out).frozen)
           go_meet
           refine ⟨rfl,usesHalf us,P6,K6,by rw [halfU,if_pos HH.out,← HUF.out],by simpa using (C11.out.ext X66.out).set_ 6 (.slice P6 (usesHalf us).length K6),?_,Kept.setCell (p:=⟨C,6,none⟩) (K11.out.trans (Kept.of_ext X66.out)) (by simp) _⟩
           refine (O66.out.rd.sub fun b hb=>?_).keep ((Same.refl _ _).setCell (p:=⟨C,6,none⟩) (by simp) _)
           have:=G66.out b hb
           have:=C11.out.lt
           have:=K11.out.size
           exact ⟨by omega,fun h=>by have:=D5.out.lt b h;omega,by have:=HBC.out;omega⟩
         · have htm:((y.now+1).tmod y.config.half == 0)=false:=by rw [Int.tmod_eq_emod_of_nonneg (by have:=HNB.out;omega)];simpa using hh
           have HH:=Lib.hid hh
           clear hh
           go_wp2_with fail
           go_meet
           exact ⟨rfl,us,p,q,by rw [halfU,if_neg HH.out,← HUF.out],C11.out,U11.out,K11.out⟩
        case rest =>
        obtain ⟨rfl,u4,P4,K4,hu4,hC4,hU4,hK4⟩:=hcut
        have HU4:=Lib.hid hu4
        have C4:=Lib.hid hC4
        have U4:=Lib.hid hU4
        have K4H:=Lib.hid hK4
        have D54:Hid (OwS OTV 46 wc (.slice p5 ts.length k5) ts FT):=Lib.hid (D5.out.keep fun b hb=>hK4.block b (D5.out.lt b hb) (by intro h;exact HCF.out (List.mem_singleton.1 h ▸ hb)))
        have SK4:Hid (Same (fun b=>b≠C∧b∉FT∧B+1 < b) W10 wc):=Lib.hid (fun b o u hb hc=>hK4.cell (by simpa using hb.1) hc)
        have DN4:Hid (∀ e∈ts,Rd EInt (fun b=>b≠C∧b∉FT∧B+1 < b) wc e.v e.x.nodes):=Lib.hid fun e he=>(DN.out e he).keep SK4.out
        clear hu4 hC4 hU4 hK4 C11 K11 U11 HUS HUF W11
        have qc:=C4.out.cell
        go_wp2_with fail
        clear qc
        go_loopw [59] (fun i w'=>∃ (k:Nat) (us:List TV),i=.int .i64 k∧k≤ts.length∧us.map TV.x=ovMix (y.now+1) y.tasks k∧OwS OTV 46 w' (.slice p5 ts.length k5) us FT∧(∀ e∈us,Rd EInt (fun b=>b≠C∧b∉FT∧B+1 < b) w' e.v e.x.nodes)∧Kept FT wc w') (fun i _=>ts.length - (intOf i).toNat)
        case atStart=>exact ⟨0,ts,rfl,by omega,by rw [ovMix_zero,HTS.out],D54.out,DN4.out,Kept.refl _ _⟩
        case round =>
         obtain ⟨k,us,rfl,hk,hmap,ho,hn,hkp⟩:=hrel
         have hul:us.length=ts.length:=by have:=congrArg List.length hmap;rw [List.length_map,ovMix_length _ (by have:=HTL.out;omega)] at this;have:=HTL.out;omega
         have HK:=Lib.hid hkp
         have HN:=Lib.hid hn
         have HMAP:=Lib.hid hmap
         have HO:=Lib.hid ho
         have HUL:=Lib.hid hul
         have HCC:Hid (Blk wr C 35 #[.slice p1 y.config.nodes.length k1,.slice p2 y.config.pairs.length k2,.slice p3 y.config.quotas.length k3,.int .i64 y.config.half,.slice p4 y.nodes.length k4,.slice p5 ts.length k5,.slice P4 u4.length K4,.int .i64 (y.now+1)]):=Lib.hid ((hkp.block C C4.out.lt HCF.out).trans C4.out)
         clear hkp hn hmap ho hul
         by_cases hlt:k < ts.length
         · obtain ⟨Bt,c',G,cs,hv,hBF,-,-,hown,hc,hfz,hth,hrow,hset⟩:=HO.out.at (k:=k) (by have:=HUL.out;omega)
           have hex:(nth us k).x=nth y.tasks k:=by
            have:=congrArg (fun l=>nth l k) HMAP.out
            simp only [nth_map (f:=TV.x) (show k < us.length by have:=HUL.out;omega),ovMix_nth (y.now+1) (show k < y.tasks.length by have:=HTL.out;omega)] at this
            exact this
           have hmem:nth us k∈us:=nth_mem (by have:=HUL.out;omega)
           generalize nth us k=e at hown hex hmem
           obtain ⟨⟨rfl,hfit⟩,rfl⟩:=hown
           injection hv with hA hl1 hc1
           subst hA
           clear hl1 hc1
           have hen:=HN.out e hmem
           have hcc:wr.rangeAt Bt (k * 14) [.int .i64 e.x.label.level,.int .i64 e.x.label.set,.int .i64 e.x.id,.string e.x.owner,.int .i64 e.x.need,.int .i64 e.x.long,.int .i64 e.x.prio,.int .i64 e.x.under.level,.int .i64 e.x.under.set,.int .i64 e.x.after,.int .i64 e.x.born,.int .i64 e.x.state,.int .i64 e.x.start,.slice e.A e.n e.c]:=hc
           have d0:wr.cell? ⟨Bt,k * 14,none⟩=some (.int .i64 e.x.label.level):=by simpa using hcc 0 _ rfl
           have d1:wr.cell? ⟨Bt,k * 14+1,none⟩=some (.int .i64 e.x.label.set):=by simpa using hcc 1 _ rfl
           have d2:wr.cell? ⟨Bt,k * 14+2,none⟩=some (.int .i64 e.x.id):=by simpa using hcc 2 _ rfl
           have d3:wr.cell? ⟨Bt,k * 14+3,none⟩=some (.string e.x.owner):=by simpa using hcc 3 _ rfl
           have d4:wr.cell? ⟨Bt,k * 14+4,none⟩=some (.int .i64 e.x.need):=by simpa using hcc 4 _ rfl
           have d5:wr.cell? ⟨Bt,k * 14+5,none⟩=some (.int .i64 e.x.long):=by simpa using hcc 5 _ rfl
           have d6:wr.cell? ⟨Bt,k * 14+6,none⟩=some (.int .i64 e.x.prio):=by simpa using hcc 6 _ rfl
           have d7:wr.cell? ⟨Bt,k * 14+7,none⟩=some (.int .i64 e.x.under.level):=by simpa using hcc 7 _ rfl
           have d8:wr.cell? ⟨Bt,k * 14+8,none⟩=some (.int .i64 e.x.under.set):=by simpa using hcc 8 _ rfl
           have d9:wr.cell? ⟨Bt,k * 14+9,none⟩=some (.int .i64 e.x.after):=by simpa using hcc 9 _ rfl
           have d10:wr.cell? ⟨Bt,k * 14+10,none⟩=some (.int .i64 e.x.born):=by simpa using hcc 10 _ rfl
           have d11:wr.cell? ⟨Bt,k * 14+11,none⟩=some (.int .i64 e.x.state):=by simpa using hcc 11 _ rfl
           have d12:wr.cell? ⟨Bt,k * 14+12,none⟩=some (.int .i64 e.x.start):=by simpa using hcc 12 _ rfl
           have d13:wr.cell? ⟨Bt,k * 14+13,none⟩=some (.slice e.A e.n e.c):=by simpa using hcc 13 _ rfl
           have HBF:=Lib.hid hBF
           have HTH:=Lib.hid hth
           have HROW:=Lib.hid hrow
           have HSET:=Lib.hid hset
           have HFIT:=Lib.hid hfit
           have HEX:=Lib.hid hex
           have HEN:=Lib.hid hen
           have HC:=Lib.hid hcc
           clear hc hcc hth hrow hset hfit hex hen hmem hBF
           have qc:=HCC.out.cell
           have hfin:∀ (w6:World) (e':TV),Kept [Bt] wr w6→RowBut 46 Bt (k * 14) 14 wr w6→FitTask e'.x→w6.rangeAt Bt (k * 14) (cellsTask e'.x e'.v)→Rd EInt (fun b=>b≠C∧b∉FT∧B+1 < b) w6 e'.v e'.x.nodes→e'.x=overT (y.now+1) (nth y.tasks k) →
            ∃ us2:List TV,us2.map TV.x=ovMix (y.now+1) y.tasks (k+1)∧OwS OTV 46 w6 (.slice (some ⟨Bt,0,none⟩) ts.length k5) us2 FT∧(∀ q∈us2,Rd EInt (fun b=>b≠C∧b∉FT∧B+1 < b) w6 q.v q.x.nodes)∧Kept FT wc w6:=fun w6 e' k1 k2 k3 k4 k5 k6=>by
            have kf:Kept FT wr w6:=k1.sub (fun b _ hb=>List.mem_singleton.1 hb ▸ HBF.out)
            refine ⟨us.set k e',?_,HSET.out w6 e' _ k1 k2 ⟨⟨rfl,k3⟩,rfl⟩ k4,fun q hq=>?_,HK.out.trans kf⟩
            · rw [List.map_set,HMAP.out,k6]
              exact ovMix_set (y.now+1) (by have:=HTL.out;omega)
            · rcases List.mem_or_eq_of_mem_set hq with h | rfl
              · exact (HN.out q h).keep (fun b o u hb hc=>kf.cell hb.2.1 hc)
              · exact k5
           have HFIN:=Lib.hid hfin
           have HEB:Hid (0≤e.x.start∧e.x.start≤1000000∧1≤e.x.long∧e.x.long≤20):=Lib.hid (by
            have:=all_right (right_tasks HT.out) (k:=k) (by have:=HTL.out;omega)
            rw [← HEX.out] at this
            exact end_bounds this)
           clear hfin
           have hsame:∀ w6:World,Ext wr w6→overT (y.now+1) (nth y.tasks k)=nth y.tasks k→∃ us2:List TV,us2.map TV.x=ovMix (y.now+1) y.tasks (k+1)∧OwS OTV 46 w6 (.slice (some ⟨Bt,0,none⟩) ts.length k5) us2 FT∧(∀ q∈us2,Rd EInt (fun b=>b≠C∧b∉FT∧B+1 < b) w6 q.v q.x.nodes)∧Kept FT wc w6:=fun w6 hx ho=>⟨us,by rw [HMAP.out];exact ovMix_same (y.now+1) (by have:=HTL.out;omega) ho,HO.out.ext hx,fun q hq=>(HN.out q hq).ext hx,HK.out.trans (Kept.of_ext hx)⟩
           have HSAME:=Lib.hid hsame
           clear hsame
           go_upto_region 19 with fail
           by_cases hs:e.x.state=2
           · have hsb:(e.x.state == 2)=true:=by simp [hs]
             have HS:=Lib.hid hs
             clear hs
             have c4c:wr.cell? ⟨C,7,none⟩=some (.int .i64 (y.now+1)):=HCC.out.cell 7
             clear qc
             by_cases hle:endOf e.x≤y.now+1
             · have hd:=decide_eq_true hle
               have HLE:=Lib.hid hle
               refine wp_region_ext (by kernel_rfl) (by kernel_rfl) ?_
               repeat (
                (refine wpQuiet_step (fun K hK=>?_)
                 go_simp
                 first
                  | (refine hK _ ?_;clear hK K)
                  | (apply Exists.intro
                     refine ⟨fun w__ hx__=>?_,hK _ ?_⟩
                     · have d0__:=Ext.some hx__ d0;have d1__:=Ext.some hx__ d1;have d2__:=Ext.some hx__ d2;have d3__:=Ext.some hx__ d3;have d4__:=Ext.some hx__ d4;have d5__:=Ext.some hx__ d5;have d6__:=Ext.some hx__ d6;have d7__:=Ext.some hx__ d7;have d8__:=Ext.some hx__ d8;have d9__:=Ext.some hx__ d9;have d10__:=Ext.some hx__ d10;have d11__:=Ext.some hx__ d11;have d12__:=Ext.some hx__ d12;have d13__:=Ext.some hx__ d13;have c4c__:=Ext.some hx__ c4c;first | exact rfl | (go_simp;done) | (go_simp;exact rfl) | (go_at_call 38;exact ext_of hx__ (taskEnd_any (S:=fun b=>b≠C∧b∉FT∧B+1 < b) e.x _ _ (rel_Task HFIT.out (HEN.out.ext hx__)) HEB.out.1 HEB.out.2.1 HEB.out.2.2.1 HEB.out.2.2.2))
                     clear hK K)))
               refine wpQuiet_nil ?_
               intro w1 hx1
               have X19:=Lib.hid hx1
               have d11':=Ext.some hx1 d11
               have d12':=Ext.some hx1 d12
               have d13':=Ext.some hx1 d13
               have HR5:Hid (RowBut 46 Bt (k * 14) 14 wr w1):=Lib.hid (RowBut.kept (F:=[]) HROW.out (Kept.of_ext hx1) (by simp))
               have fz:=HR5.out.frozen
               have HT5:Hid (w1.there Bt (k * 14) 14):=Lib.hid (there_ext HTH.out hx1 (HO.out.lt _ HBF.out))
               clear d0 d1 d2 d3 d4 d5 d6 d7 d8 d9 d10 d11 d12 d13 c4c hle hd hx1
               go_wp2_with (go_at_call 39;(with_reducible refine (clear_any Bt (k * 14) 5 _ _ _ _ fz d11' d12' d13').mono ?_);rintro e6 w6 ⟨rfl,rfl⟩)
               obtain ⟨us2,g1,g2,g3,g4⟩:=HFIN.out _ ⟨withTask e.x 5,none,0,0⟩ (Kept.setCells (by simp) _ _ _ (Kept.of_ext X19.out)) (RowBut.setCells _ _ _ HR5.out (by omega) (by simp)) (fit_with HFIT.out (by unfold I64;decide)) (range_back (a:=[.int .i64 e.x.label.level,.int .i64 e.x.label.set,.int .i64 e.x.id,.string e.x.owner,.int .i64 e.x.need,.int .i64 e.x.long,.int .i64 e.x.prio,.int .i64 e.x.under.level,.int .i64 e.x.under.set,.int .i64 e.x.after,.int .i64 e.x.born]) (b:=[.int .i64 e.x.state,.int .i64 e.x.start,.slice e.A e.n e.c]) (b':=[.int .i64 5,.int .i64 0,.slice none 0 0]) (X19.out.range HC.out) (there_sub HT5.out (by simp))) (Rd.nil (Nat.zero_le _)) (by rw [← HEX.out,overT,if_pos ⟨by simp [runsB,HS.out],HLE.out⟩])
               exact ⟨⟨k+1,us2,by go_num,by omega,g1,g2,g3,g4⟩,by simp [intOf];omega⟩
             · have hd:=decide_eq_false hle
               have HLE:=Lib.hid hle
               refine wp_region_ext (by kernel_rfl) (by kernel_rfl) ?_
               repeat (
                (refine wpQuiet_step (fun K hK=>?_)
                 go_simp
                 first
                  | (refine hK _ ?_;clear hK K)
                  | (apply Exists.intro
                     refine ⟨fun w__ hx__=>?_,hK _ ?_⟩
                     · have d0__:=Ext.some hx__ d0;have d1__:=Ext.some hx__ d1;have d2__:=Ext.some hx__ d2;have d3__:=Ext.some hx__ d3;have d4__:=Ext.some hx__ d4;have d5__:=Ext.some hx__ d5;have d6__:=Ext.some hx__ d6;have d7__:=Ext.some hx__ d7;have d8__:=Ext.some hx__ d8;have d9__:=Ext.some hx__ d9;have d10__:=Ext.some hx__ d10;have d11__:=Ext.some hx__ d11;have d12__:=Ext.some hx__ d12;have d13__:=Ext.some hx__ d13;have c4c__:=Ext.some hx__ c4c;first | exact rfl | (go_simp;done) | (go_simp;exact rfl) | (go_at_call 38;exact ext_of hx__ (taskEnd_any (S:=fun b=>b≠C∧b∉FT∧B+1 < b) e.x _ _ (rel_Task HFIT.out (HEN.out.ext hx__)) HEB.out.1 HEB.out.2.1 HEB.out.2.2.1 HEB.out.2.2.2))
                     clear hK K)))
               refine wpQuiet_nil ?_
               intro w1 hx1
               have X19:=Lib.hid hx1
               clear d0 d1 d2 d3 d4 d5 d6 d7 d8 d9 d10 d11 d12 d13 c4c hle hd hx1
               go_wp2_with fail
               obtain ⟨us2,g1,g2,g3,g4⟩:=HSAME.out _ X19.out (by rw [← HEX.out,overT,if_neg (fun h=>HLE.out h.2)])
               exact ⟨⟨k+1,us2,by go_num,by omega,g1,g2,g3,g4⟩,by simp [intOf];omega⟩
           · have hsb:(e.x.state == 2)=false:=by simp [hs]
             have HS:=Lib.hid hs
             clear hs qc
             refine wp_region_ext (by kernel_rfl) (by kernel_rfl) ?_
             repeat (
              (refine wpQuiet_step (fun K hK=>?_)
               go_simp
               first
                | (refine hK _ ?_;clear hK K)
                | (apply Exists.intro
                   refine ⟨fun w__ hx__=>?_,hK _ ?_⟩
                   · have d11__:=Ext.some hx__ d11;first | exact rfl | (go_simp;done) | (go_simp;exact rfl) | fail
                   clear hK K)))
             refine wpQuiet_nil ?_
             intro w1 hx1
             have X19:=Lib.hid hx1
             clear d0 d1 d2 d3 d4 d5 d6 d7 d8 d9 d10 d11 d12 d13 hx1
             go_wp2_with fail
             obtain ⟨us2,g1,g2,g3,g4⟩:=HSAME.out _ X19.out (by rw [← HEX.out,overT,if_neg (fun h=>HS.out (by simpa [runsB] using h.1))])
             exact ⟨⟨k+1,us2,by go_num,by omega,g1,g2,g3,g4⟩,by simp [intOf];omega⟩
         · have hk':k=ts.length:=by omega
           subst hk'
           have hmid:us.map TV.x=midTasks y:=by
            rw [HMAP.out,midTasks,← HTL.out];exact ovMix_full ..
           have HMID:=Lib.hid hmid
           have HRT:Hid (Rd ETask (fun _=>True) wr (.slice p5 ts.length k5) (midTasks y)):=Lib.hid (by
            have:=rd_tasks (S:=fun _=>True) (HO.out.rd.sub fun _ _=>trivial) (fun e he=>(HN.out e he).sub fun _ _=>trivial)
            rw [HMAP.out,← HTL.out,ovMix_full,HTL.out] at this
            exact this)
           have HMR:Hid (tasksRight (midTasks y)=true):=Lib.hid (mid_tasks HT.out)
           have HML:Hid ((midTasks y).length=ts.length):=Lib.hid (by rw [midTasks,List.length_map,HTL.out])
           have HMF:Hid (∀ k,k < (midTasks y).length→(nth (midTasks y) k).nodes.length≤1000000000):=Lib.hid (mid_few HT.out)
           clear hmid hlt hk
           have qc:=HCC.out.cell
           go_upto_region 23 with (go_at_call 40;(with_reducible refine (orphansN_any (S:=fun _=>True) (midTasks y) _ _ HRT.out HMR.out (by rw [HML.out];exact hl96) HMF.out).mono ?_);rintro e6 w6 ⟨v6',F6,rfl,o6,g6,hx6⟩;obtain ⟨P6,K6,rfl,-⟩:=OwS.form o6;have O66:=Lib.hid o6;have G66:=Lib.hid g6;have X66:=Lib.hid hx6;clear o6 g6 hx6 qc;have qc:=(HCC.out.ext X66.out).cell;have qf:=(HCC.out.ext X66.out).frozen)
           obtain ⟨ts2,FT2,hts2,ot2,hFT2,hnd2⟩:=tasks_ow O66.out
           have hTL2:(orphL (midTasks y)).length=ts2.length:=by rw [← hts2,List.length_map]
           rw [hTL2]
           rw [hTL2] at ot2
           have hC2:C∉FT2:=fun h=>by have:=G66.out C (hFT2 C h);have:=HCC.out.lt;omega
           obtain ⟨W23,hW23,hC23,hK23⟩:∃ V,V=w6.setCell ⟨C,5,none⟩ (.slice P6 ts2.length K6)∧Blk V C 35 #[.slice p1 y.config.nodes.length k1,.slice p2 y.config.pairs.length k2,.slice p3 y.config.quotas.length k3,.int .i64 y.config.half,.slice p4 y.nodes.length k4,.slice P6 ts2.length K6,.slice P4 u4.length K4,.int .i64 (y.now+1)]∧Kept [C] w6 V:=⟨_,rfl,by simpa using (HCC.out.ext X66.out).set_ 5 (.slice P6 ts2.length K6),(Kept.refl _ _).setCell (p:=⟨C,5,none⟩) (by simp) _⟩
           rw [← hW23]
           have hS23:Same (fun b=>b≠C∧b∉FT∧B+1 < b) wc W23:=fun b o u hb hc=>hK23.cell (by simpa using hb.1) (Ext.some X66.out (HK.out.cell hb.2.1 hc))
           have S23:=Lib.hid hS23
           have C23:=Lib.hid hC23
           have K23:=Lib.hid hK23
           have HC2:=Lib.hid hC2
           have HTS2:=Lib.hid hts2
           have OT2:=Lib.hid ot2
           have HFT2:=Lib.hid hFT2
           have HND2:=Lib.hid hnd2
           have HTL2:=Lib.hid hTL2
           have hl2:ts2.length≤1000:=by rw [← hTL2,orphL_length,HML.out];omega
           have HL2:=Lib.hid hl2
           clear hW23 hC23 hK23 hC2 hts2 ot2 hFT2 hnd2 hTL2 hS23 hl2 qc qf
           have qc:=C23.out.cell
           go_upto_region 24 with (go_at_call 41;(with_reducible refine (booksPass_any (S:=fun b=>b≠C∧b∉FT∧B+1 < b) y.nodes (y.now+1) _ _ (D4.out.keep (SK4.out.trans S23.out))).mono ?_);rintro e8 w8 ⟨v8',F8,rfl,o8,g8,hx8⟩;obtain ⟨P8,K8,rfl,-⟩:=OwS.form o8;have O88:=Lib.hid o8;have G88:=Lib.hid g8;have X88:=Lib.hid hx8;clear o8 g8 hx8 qc;have qc:=(C23.out.ext X88.out).cell;have qf:=(C23.out.ext X88.out).frozen)
           obtain ⟨W24,hW24,hC24,hK24⟩:∃ V,V=w8.setCell ⟨C,4,none⟩ (.slice P8 (booksPass y.nodes (y.now+1)).length K8)∧Blk V C 35 #[.slice p1 y.config.nodes.length k1,.slice p2 y.config.pairs.length k2,.slice p3 y.config.quotas.length k3,.int .i64 y.config.half,.slice P8 (booksPass y.nodes (y.now+1)).length K8,.slice P6 ts2.length K6,.slice P4 u4.length K4,.int .i64 (y.now+1)]∧Kept [C] w8 V:=⟨_,rfl,by simpa using (C23.out.ext X88.out).set_ 4 (.slice P8 (booksPass y.nodes (y.now+1)).length K8),(Kept.refl _ _).setCell (p:=⟨C,4,none⟩) (by simp) _⟩
           rw [← hW24]
           have hS24:Same (fun b=>b≠C∧b∉FT∧B+1 < b) wc W24:=fun b o u hb hc=>hK24.cell (by simpa using hb.1) (Ext.some X88.out (S23.out b o u hb hc))
           have hK64:Kept [C] w6 W24:=(K23.out.trans (Kept.of_ext X88.out)).trans hK24
           have S24:=Lib.hid hS24
           have C24:=Lib.hid hC24
           have K24:=Lib.hid hK24
           have K64:=Lib.hid hK64
           clear hW24 hC24 hK24 hS24 hK64 qc qf
           have L1:Hid (Rd (ERow ELabel) (fun b=>b∉FT2∧B+1 < b) W24 (.slice p1 y.config.nodes.length k1) y.config.nodes):=Lib.hid ((((D1.out.keep SK4.out).low (by rintro _ _ ⟨u,rfl,h⟩;exact ⟨u,rfl,h.low (fun h=>h) (by decide)⟩) (by decide)).keep (S24.out.sub fun b hb=>hb.1)).sub fun b hb=>⟨fun h=>by have:=G66.out b (HFT2.out b h);have:=HK.out.size;have:=hb.2;omega,hb.1.2.2⟩)
           have L2:Hid (Rd EPair (fun b=>b∉FT2∧B+1 < b) W24 (.slice p2 y.config.pairs.length k2) y.config.pairs):=Lib.hid ((((D2.out.keep SK4.out).low (fun h=>h) (by decide)).keep (S24.out.sub fun b hb=>hb.1)).sub fun b hb=>⟨fun h=>by have:=G66.out b (HFT2.out b h);have:=HK.out.size;have:=hb.2;omega,hb.1.2.2⟩)
           have L3:Hid (Rd EQuota (fun b=>b∉FT2∧B+1 < b) W24 (.slice p3 y.config.quotas.length k3) y.config.quotas):=Lib.hid ((((D3.out.keep SK4.out).low (fun h=>h) (by decide)).keep (S24.out.sub fun b hb=>hb.1)).sub fun b hb=>⟨fun h=>by have:=G66.out b (HFT2.out b h);have:=HK.out.size;have:=hb.2;omega,hb.1.2.2⟩)
           have L6:Hid (Rd EUse (fun b=>b∉FT2∧B+1 < b) W24 (.slice P4 u4.length K4) u4):=Lib.hid (((U4.out.low (fun h=>h) (by decide)).keep (S24.out.sub fun b hb=>hb.1)).sub fun b hb=>⟨fun h=>by have:=G66.out b (HFT2.out b h);have:=HK.out.size;have:=hb.2;omega,hb.1.2.2⟩)
           have hC8:C∉F8:=fun h=>by have:=G88.out C h;have:=C23.out.lt;omega
           have L4:Hid (Rd ENode (fun b=>b∉FT2∧B+1 < b) W24 (.slice P8 (booksPass y.nodes (y.now+1)).length K8) (booksPass y.nodes (y.now+1))):=Lib.hid ((O88.out.rd.keep fun b o u hb hc=>K24.out.cell (by intro h;exact hC8 (List.mem_singleton.1 h ▸ hb)) hc).sub fun b hb=>⟨fun h=>by have:=G88.out b hb;have:=O66.out.lt b (HFT2.out b h);have:=K23.out.size;omega,by have:=G88.out b hb;have:=C23.out.lt;have:=HBC.out;omega⟩)
           have hC6:C∉F6:=fun h=>by have:=G66.out C h;have:=HCC.out.lt;omega
           have L5:Hid (OwS OTV 46 W24 (.slice P6 ts2.length K6) ts2 FT2):=Lib.hid (OT2.out.keep fun b hb=>K64.out.block b (OT2.out.lt b hb) (by intro h;exact HC2.out (List.mem_singleton.1 h ▸ hb)))
           have LN:Hid (∀ e∈ts2,Rd EInt (fun b=>b∉FT2∧B+1 < b) W24 e.v e.x.nodes):=Lib.hid fun e he=>((HND2.out e he).keep fun b o u hb hc=>K64.out.cell (by intro h;exact hC6 (List.mem_singleton.1 h ▸ hb.1)) hc).sub fun b hb=>⟨hb.2,by have:=G66.out b hb.1;have:=HCC.out.lt;have:=HBC.out;omega⟩
           have LT:Hid (Rd ETask (fun _=>True) W24 (.slice P6 ts2.length K6) (orphL (midTasks y))):=Lib.hid (by
            have:=rd_tasks (S:=fun _=>True) (L5.out.rd.sub fun _ _=>trivial) (fun e he=>(LN.out e he).sub fun _ _=>trivial)
            rw [HTS2.out] at this
            exact this)
           clear hC8 hC6
           have HYM:Hid (∀ V,Ext W24 V→EYard.rel (fun _=>True) V [.slice p1 y.config.nodes.length k1,.slice p2 y.config.pairs.length k2,.slice p3 y.config.quotas.length k3,.int .i64 y.config.half,.slice P8 (booksPass y.nodes (y.now+1)).length K8,.slice P6 ts2.length K6,.slice P4 u4.length K4,.int .i64 (y.now+1)] (midY y)):=Lib.hid fun V hV=>by
            have e6:halfU y (useFold y.tasks y.uses)=u4:=HU4.out.symm
            have:=rel_Yard (S:=fun _=>True) (w:=V) (x:=midY y) (v1:=.slice p1 y.config.nodes.length k1) (v2:=.slice p2 y.config.pairs.length k2) (v3:=.slice p3 y.config.quotas.length k3) (v4:=.slice P8 (booksPass y.nodes (y.now+1)).length K8) (v5:=.slice P6 ts2.length K6) (v6:=.slice P4 u4.length K4) ⟨HF.out.1,by have:=HNB.out;show I64 (y.now+1);unfold I64;omega⟩ ((L1.out.sub fun _ _=>trivial).ext hV) ((L2.out.sub fun _ _=>trivial).ext hV) ((L3.out.sub fun _ _=>trivial).ext hV) ((L4.out.sub fun _ _=>trivial).ext hV) (LT.out.ext hV) (by show Rd EUse _ V _ (halfU y (useFold y.tasks y.uses));rw [e6];exact (L6.out.sub fun _ _=>trivial).ext hV)
            exact this
           have HPL:Hid (∀ V,Ext W24 V→Calls Tryz.prog 43 #[.agg #[.slice p1 y.config.nodes.length k1,.slice p2 y.config.pairs.length k2,.slice p3 y.config.quotas.length k3,.int .i64 y.config.half,.slice P8 (booksPass y.nodes (y.now+1)).length K8,.slice P6 ts2.length K6,.slice P4 u4.length K4,.int .i64 (y.now+1)],.agg #[.int .i64 3,.int .i64 7]] V (RetPl (midY y) (planTo (midY y) 31) V)):=Lib.hid fun V hV=>planTo_any (S:=fun _=>True) (midY y) ⟨3,7⟩ _ V (HYM.out V hV) (mid_ok HT.out HNW.out) (by decide)
           have HAPP:Hid (∀ V vp ms,Ext W24 V→Rd EPV (fun b=>b∉FT2∧B+1 < b) V vp ms→(∀ e∈ms,Rd EInt (fun b=>b∉FT2∧B+1 < b) V e.v e.x.nodes)→ms.map PV.x=planTo (midY y) 31→Calls Tryz.prog 42 #[.pointer (some ⟨C,0,none⟩),vp] V fun e w'=>e=.returned (.tuple #[])∧∃ us:List TV,us.map TV.x=(orphL (midTasks y)).map (putT (y.now+1) (planTo (midY y) 31))∧OwS OTV 46 w' (.slice P6 ts2.length K6) us FT2∧(∀ e∈us,Rd EInt (fun b=>b∉FT2∧B+1 < b) w' e.v e.x.nodes)∧Kept FT2 V w'):=Lib.hid fun V vp ms hV h1 h2 h3=>by
            have:=apply_any (Sx:=fun b=>b∉FT2∧B+1 < b) (y.now+1) y.config.half (.slice p1 y.config.nodes.length k1) (.slice p2 y.config.pairs.length k2) (.slice p3 y.config.quotas.length k3) (.slice P8 (booksPass y.nodes (y.now+1)).length K8) (.slice P4 u4.length K4) vp P6 K6 C ts2 ms FT2 V (C24.out.ext hV) HC2.out (L5.out.ext hV) (fun e he=>(LN.out e he).ext hV) h1 h2 (fun b hb=>hb.1) HL2.out
            rw [HTS2.out,h3] at this
            exact this
           have HBT:Hid (∀ b∈FT2,B+1 < b∧b < W24.heap.size):=Lib.hid fun b hb=>⟨by have:=G66.out b (HFT2.out b hb);have:=HCC.out.lt;have:=HBC.out;omega,L5.out.lt b hb⟩
           have R24:Hid (Blk W24 (B+1) 37 #[.slice none 0 0,.slice none 0 0,.slice none 0 0,.int .i64 0,.slice none 0 0,.slice none 0 0,.slice none 0 0,.int .i64 0,.int .i64 0,.int .i64 0]):=Lib.hid (by
            have r1:Blk wc (B+1) 37 #[.slice none 0 0,.slice none 0 0,.slice none 0 0,.int .i64 0,.slice none 0 0,.slice none 0 0,.slice none 0 0,.int .i64 0,.int .i64 0,.int .i64 0]:=(K4H.out.block _ R10.out.lt (by have:=HBC.out;simp;omega)).trans R10.out
            have r2:Blk wr (B+1) 37 #[.slice none 0 0,.slice none 0 0,.slice none 0 0,.int .i64 0,.slice none 0 0,.slice none 0 0,.slice none 0 0,.int .i64 0,.int .i64 0,.int .i64 0]:=(HK.out.block _ r1.lt (fun h=>by have:=HB9.out _ (HG5.out _ (HFT.out _ h));omega)).trans r1
            exact (K64.out.block _ (r2.ext X66.out).lt (by have:=HBC.out;simp;omega)).trans (r2.ext X66.out))
           have X24:Hid (Ext w W24):=Lib.hid (by
            have x1:Ext w wc:=Kept.ext X10.out K4H.out (by intro b hb;have:=List.mem_singleton.1 hb;have:=HCW.out;omega)
            have x2:Ext w wr:=Kept.ext x1 HK.out HFW.out
            exact Kept.ext (x2.trans X66.out) K64.out (by intro b hb;have:=List.mem_singleton.1 hb;have:=HCW.out;omega))
           have qc:=C24.out.cell
           have qcd:=(C24.out.ext (Ext.refl W24).drew).cell
           clear C4 HCC
           go_region_law (first
            | (go_simp;go_at_call 44;(with_reducible refine (lastLabel_any _).mono ?_);rintro e w85 ⟨rfl,hx8⟩;have X78:Hid (Ext W24 w85):=Lib.hid (Ext.trans (by repeat (first | with_reducible assumption | with_reducible exact Ext.refl _ | with_reducible refine Ext.alloc ?_ _ | with_reducible refine Ext.drew ?_ | with_reducible refine Ext.setCell ?_ (by first | exact Nat.le_refl _ | exact Ext.size (by assumption) | (simp;done) | (simp;omega) | (show _≤_;omega)) _ )) hx8);have q8:=(C24.out.ext X78.out).cell;have q8d:=(C24.out.ext X78.out.drew).cell)
            | (go_simp;go_at_call 43;(with_reducible refine (HPL.out _ (by have hxx:=X78.out;repeat (first | with_reducible assumption | with_reducible exact Ext.refl _ | with_reducible refine Ext.alloc ?_ _ | with_reducible refine Ext.drew ?_ | with_reducible refine Ext.setCell ?_ (by first | exact Nat.le_refl _ | exact Ext.size (by assumption) | (simp;done) | (simp;omega) | (show _≤_;omega)) _ ))).mono ?_);rintro e w9' ⟨B9,z1,z2,z3,z4,z5,z6,z7,z8,rfl,hq,hr,hB9,hx9⟩;obtain ⟨vp,m,F,hCC,hm,ho,hF,hn,hnd,hg⟩:=hq;obtain ⟨Ap,cp,rfl,-⟩:=OwS.form ho;have b10:=Blk.cell hCC 10;have b10d:=Blk.cell (hCC.ext (Ext.refl w9').drew) 10;have X89:Hid (Ext w85 w9'):=Lib.hid (Ext.trans (by repeat (first | with_reducible assumption | with_reducible exact Ext.refl _ | with_reducible refine Ext.alloc ?_ _ | with_reducible refine Ext.drew ?_ | with_reducible refine Ext.setCell ?_ (by first | exact Nat.le_refl _ | exact Ext.size (by assumption) | (simp;done) | (simp;omega) | (show _≤_;omega)) _ )) hx9);have HMS:=Lib.hid hm;have HFF:Hid (∀ b∈F,w85.heap.size≤b):=Lib.hid (fun b h=>by first | exact hF b h | exact Nat.le_trans (Nat.le_of_eq rfl) (hF b h));have HGF:Hid (∀ b∈(m.map PV.F).flatten,w85.heap.size≤b):=Lib.hid (fun b h=>by first | exact hg b h | exact Nat.le_trans (Nat.le_of_eq rfl) (hg b h));have HR9:Hid (Rd EPV (fun b=>b∉FT2∧B+1 < b) w9' (.slice Ap m.length cp) m):=Lib.hid (ho.rd.sub fun b hb=>⟨fun h=>by have:=HFF.out b hb;have:=(HBT.out b h).2;have:=X78.out.size;omega,by have:=HFF.out b hb;have:=R24.out.lt;have:=X78.out.size;omega⟩);have HN9:Hid (∀ e∈m,Rd EInt (fun b=>b∉FT2∧B+1 < b) w9' e.v e.x.nodes):=Lib.hid (fun e he=>(hn e he).rd.sub fun b hb=>by have hin:b∈(m.map PV.F).flatten:=List.mem_flatten.2 ⟨_,List.mem_map.2 ⟨e,he,rfl⟩,hb⟩;have:=HGF.out b hin;have:=X78.out.size;have:=R24.out.lt;exact ⟨fun h=>by have:=(HBT.out b h).2;omega,by omega⟩);clear hr hB9 hx9 hCC hm ho hF hn hnd hg)
            | (go_simp;go_at_call 42;(with_reducible refine (HAPP.out _ _ m (X78.out.trans (X89.out.trans (by repeat (first | with_reducible assumption | with_reducible exact Ext.refl _ | with_reducible refine Ext.alloc ?_ _ | with_reducible refine Ext.drew ?_ | with_reducible refine Ext.setCell ?_ (by first | exact Nat.le_refl _ | exact Ext.size (by assumption) | (simp;done) | (simp;omega) | (show _≤_;omega)) _ )))) (HR9.out.ext (by repeat (first | with_reducible assumption | with_reducible exact Ext.refl _ | with_reducible refine Ext.alloc ?_ _ | with_reducible refine Ext.drew ?_ | with_reducible refine Ext.setCell ?_ (by first | exact Nat.le_refl _ | exact Ext.size (by assumption) | (simp;done) | (simp;omega) | (show _≤_;omega)) _ ))) (fun e he=>(HN9.out e he).ext (by repeat (first | with_reducible assumption | with_reducible exact Ext.refl _ | with_reducible refine Ext.alloc ?_ _ | with_reducible refine Ext.drew ?_ | with_reducible refine Ext.setCell ?_ (by first | exact Nat.le_refl _ | exact Ext.size (by assumption) | (simp;done) | (simp;omega) | (show _≤_;omega)) _ ))) HMS.out).mono ?_);rintro e wA ⟨rfl,us9,hus,ous,nus,kus⟩;have KA:Hid (Kept FT2 W24 wA):=Lib.hid (Kept.trans (Kept.of_ext (X78.out.trans (X89.out.trans (by repeat (first | with_reducible assumption | with_reducible exact Ext.refl _ | with_reducible refine Ext.alloc ?_ _ | with_reducible refine Ext.drew ?_ | with_reducible refine Ext.setCell ?_ (by first | exact Nat.le_refl _ | exact Ext.size (by assumption) | (simp;done) | (simp;omega) | (show _≤_;omega)) _ ))))) kus);have HUS:=Lib.hid hus;have OUS:=Lib.hid ous;have NUS:=Lib.hid nus;have CA:Hid (Blk wA C 35 #[.slice p1 y.config.nodes.length k1,.slice p2 y.config.pairs.length k2,.slice p3 y.config.quotas.length k3,.int .i64 y.config.half,.slice P8 (booksPass y.nodes (y.now+1)).length K8,.slice P6 ts2.length K6,.slice P4 u4.length K4,.int .i64 (y.now+1)]):=Lib.hid ((KA.out.block C C24.out.lt HC2.out).trans C24.out);have qa:=CA.out.cell;have qad:=(CA.out.ext (Ext.refl wA).drew).cell;clear hus ous nus kus))
           all_goals
            have hrel:∀ V,Same (fun b=>B+1 < b) wA V→EYardOut.rel (fun b=>w.heap.size≤b) V [.slice p1 y.config.nodes.length k1,.slice p2 y.config.pairs.length k2,.slice p3 y.config.quotas.length k3,.int .i64 y.config.half,.slice P8 (booksPass y.nodes (y.now+1)).length K8,.slice P6 ts2.length K6,.slice P4 u4.length K4,.int .i64 (y.now+1),.int .i64 0,.int .i64 0] ⟨applyY (midY y) (planTo (midY y) 31),0,0⟩:=fun V hV=>by
             have e6:halfU y (useFold y.tasks y.uses)=u4:=HU4.out.symm
             have hV2:Same (fun b=>b∉FT2∧B+1 < b) W24 V:=fun b o u hb hc=>hV b o u hb.2 (KA.out.cell hb.1 hc)
             have ht:Rd ETask (fun b=>w.heap.size≤b) V (.slice P6 ts2.length K6) (us9.map TV.x):=rd_tasks (S:=fun b=>w.heap.size≤b) ((OUS.out.rd.keep fun b o u hb hc=>hV b o u (HBT.out b hb).1 hc).sub fun b hb=>by have:=HB.out;have:=(HBT.out b hb).1;omega) (fun e he=>((NUS.out e he).keep fun b o u hb hc=>hV b o u hb.2 hc).sub fun b hb=>by have:=HB.out;have:=hb.2;omega)
             rw [HUS.out] at ht
             exact rel_YardOut (S:=fun b=>w.heap.size≤b) (w:=V) (x:=⟨applyY (midY y) (planTo (midY y) 31),0,0⟩) (v1:=.slice p1 y.config.nodes.length k1) (v2:=.slice p2 y.config.pairs.length k2) (v3:=.slice p3 y.config.quotas.length k3) (v4:=.slice P8 (booksPass y.nodes (y.now+1)).length K8) (v5:=.slice P6 ts2.length K6) (v6:=.slice P4 u4.length K4) ⟨HF.out.1,by have:=HNB.out;show I64 (y.now+1);unfold I64;omega,show I64 0 by unfold I64;decide,show I64 0 by unfold I64;decide⟩ ((L1.out.keep hV2).sub fun b hb=>by have:=HB.out;have:=hb.2;omega) ((L2.out.keep hV2).sub fun b hb=>by have:=HB.out;have:=hb.2;omega) ((L3.out.keep hV2).sub fun b hb=>by have:=HB.out;have:=hb.2;omega) ((L4.out.keep hV2).sub fun b hb=>by have:=HB.out;have:=hb.2;omega) ht (by show Rd EUse _ V _ (halfU y (useFold y.tasks y.uses));rw [e6];exact (L6.out.keep hV2).sub fun b hb=>by have:=HB.out;have:=hb.2;omega)
            have HREL:=Lib.hid hrel
            have RA:Hid (Blk wA (B+1) 37 #[.slice none 0 0,.slice none 0 0,.slice none 0 0,.int .i64 0,.slice none 0 0,.slice none 0 0,.slice none 0 0,.int .i64 0,.int .i64 0,.int .i64 0]):=Lib.hid ((KA.out.block _ R24.out.lt (fun h=>by have:=(HBT.out _ h).1;omega)).trans R24.out)
            have XA:Hid (Ext w wA):=Lib.hid (Kept.ext X24.out KA.out fun b hb=>by have:=G66.out b (HFT2.out b hb);have:=(Kept.ext (Kept.ext X10.out K4H.out (by intro b hb;have:=List.mem_singleton.1 hb;have:=HCW.out;omega)) HK.out HFW.out).size;omega)
            clear hrel qc qcd q8 q8d b10 b10d
            go_wp2_with (refine wpList_store_mid rfl 37 _ _ rfl (B+1) 0 #[.slice p1 y.config.nodes.length k1,.slice p2 y.config.pairs.length k2,.slice p3 y.config.quotas.length k3,.int .i64 y.config.half,.slice P8 (booksPass y.nodes (y.now+1)).length K8,.slice P6 ts2.length K6,.slice P4 u4.length K4,.int .i64 (y.now+1),.int .i64 0,.int .i64 0] rfl rfl (Blk.there (t:=37) (cs:=#[.slice none 0 0,.slice none 0 0,.slice none 0 0,.int .i64 0,.slice none 0 0,.slice none 0 0,.slice none 0 0,.int .i64 0,.int .i64 0,.int .i64 0]) (by first | with_reducible exact RA.out | with_reducible exact RA.out.ext (Ext.refl _).drew)) (by kernel_rfl) (all_oneCell_toArray (cs:=[.slice p1 y.config.nodes.length k1,.slice p2 y.config.pairs.length k2,.slice p3 y.config.quotas.length k3,.int .i64 y.config.half,.slice P8 (booksPass y.nodes (y.now+1)).length K8,.slice P6 ts2.length K6,.slice P4 u4.length K4,.int .i64 (y.now+1),.int .i64 0,.int .i64 0]) (by simp [Value.oneCell'])) ?_)
            exact bodyPost_ret (v:=.agg #[.slice p1 y.config.nodes.length k1,.slice p2 y.config.pairs.length k2,.slice p3 y.config.quotas.length k3,.int .i64 y.config.half,.slice P8 (booksPass y.nodes (y.now+1)).length K8,.slice P6 ts2.length K6,.slice P4 u4.length K4,.int .i64 (y.now+1),.int .i64 0,.int .i64 0]) (results_blk Tryz.results12 rfl (Blk.setAll (t:=37) (cs:=#[.slice none 0 0,.slice none 0 0,.slice none 0 0,.int .i64 0,.slice none 0 0,.slice none 0 0,.slice none 0 0,.int .i64 0,.int .i64 0,.int .i64 0]) (vs:=#[.slice p1 y.config.nodes.length k1,.slice p2 y.config.pairs.length k2,.slice p3 y.config.quotas.length k3,.int .i64 y.config.half,.slice P8 (booksPass y.nodes (y.now+1)).length K8,.slice P6 ts2.length K6,.slice P4 u4.length K4,.int .i64 (y.now+1),.int .i64 0,.int .i64 0]) (by first | with_reducible exact RA.out | with_reducible exact RA.out.ext (Ext.refl _).drew) rfl) Tryz.underlying37 rfl (by kernel_rfl)) rfl ⟨_,rfl,(by rw [tick_ok HT.out HNW.out];exact HREL.out _ (by first | with_reducible exact setCells_same (B:=B+1) (Nat.lt_irrefl _) | with_reducible exact setCells_same' (B:=B+1) ((Ext.refl _).drew.same _) (Nat.lt_irrefl _))),setCells_ext HB.out _ _ _ (by first | with_reducible exact XA.out | with_reducible exact XA.out.drew)⟩
end Go.Proofs.YtoblacfjmcpbmaaGreat
