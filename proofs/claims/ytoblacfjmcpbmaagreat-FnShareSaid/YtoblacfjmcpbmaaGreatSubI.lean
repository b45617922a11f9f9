/- The program's YardSubmit, at few tasks: the walk. Printed by wip/scratch/mksub.py. -/
import Derived.Test.YtoblacfjmcpbmaaGreatSubS
import Derived.Test.YtoblacfjmcpbmaaGreatYardCp
import Derived.Test.YtoblacfjmcpbmaaGreatYardTt
import Derived.Test.YtoblacfjmcpbmaaGreatReady
import Derived.Test.YtoblacfjmcpbmaaGreatUsesC
import Derived.Test.YtoblacfjmcpbmaaGreatNavK
import Derived.Deep.RegionHeld3
import Derived.Deep.CutBlock
set_option maxHeartbeats 16000000
set_option maxRecDepth 100000
namespace Go.Proofs.YtoblacfjmcpbmaaGreat
open Go.RowKit
attribute [local irreducible] wpQuiet
theorem boxes4w (w:World) (A O P R:Array Value) (T U V X:TypeId):∃ W B,W=(((w.alloc (.cells A T)).alloc (.cells O U)).alloc (.cells P V)).alloc (.cells R X)∧B=w.heap.size∧Ext w W∧Blk W B T A∧Blk W (B+1) U O∧Blk W (B+1+1) V P∧Blk W (B+1+1+1) X R:=by
 obtain ⟨W,B,hW,hB,hx,h1,h2,h3⟩:=boxes3 w A O P T U V
 have hs:W.heap.size=B+1+1+1:=by rw [hW,hB];simp only [World.size_alloc]
 refine ⟨W.alloc (.cells R X),B,by rw [hW],hB,hx.alloc _,h1.ext ((Ext.refl _).alloc _),h2.ext ((Ext.refl _).alloc _),h3.ext ((Ext.refl _).alloc _),?_⟩
 have h:=Blk.new W X R
 rwa [hs] at h
theorem wishRight_is {S:Nat→Prop} (x:Wish) (cs:List Value) (w:World) (h:EWish.rel S w cs x) (r:Bool) (hr:wishRight x=r):Calls Tryz.prog 21 #[.agg cs.toArray] w fun e w'=>e=.returned (.bool r)∧Ext w w':=hr ▸ wishRight_any x cs w h
theorem kept_over {w0 w w':World} {G F:List Nat} (h:Kept G w0 w) (k:Kept F w w') (hF:∀ b∈F,b∈G∨w0.heap.size≤b):Kept G w0 w' :=
 Kept.sub (F:=G ++ F) ((h.sub (G:=G ++ F) (fun _ _ hm=>List.mem_append_left _ hm)).trans (k.sub (G:=G ++ F) (fun _ _ hm=>List.mem_append_right _ hm))) (fun b hb hm=>by
  rcases List.mem_append.1 hm with hm | hm
  · exact hm
  · rcases hF b hm with h' | h'
    · exact h'
    · omega)
theorem own_five {y:Yard} {l:List Task} {n:Int} {w w':World} {v1 v2 v3 v4 v5 v6:Value} {F1 F2 F3 F4 F5 F5' F6 K:List Nat} (hf:FitYard y) (hn:I64 n)
 (o1:OwS (ORow OLabel 24) 39 w v1 y.config.nodes F1) (o2:OwS OPair 100 w v2 y.config.pairs F2) (o3:OwS OQuota 103 w v3 y.config.quotas F3) (o4:OwS ONode 107 w v4 y.nodes F4) (o6:OwS OUse 75 w v6 y.uses F6)
 (p5:OwS OTask 46 w' v5 l F5') (hk:Kept K w w') (hK:∀ b∈K,b∈F5∨w.heap.size≤b) (hd:(F1 ++ (F2 ++ (F3 ++ (F4 ++ (F5 ++ F6))))).Nodup) (h5:∀ b∈F5',b∈F5∨w.heap.size≤b) :
 OYardOut.own w' [v1,v2,v3,.int .i64 y.config.half,v4,v5,v6,.int .i64 y.now,.int .i64 n,.int .i64 0] ⟨⟨y.config,y.nodes,l,y.uses,y.now⟩,n,0⟩ (F1 ++ (F2 ++ (F3 ++ (F4 ++ (F5' ++ F6))))):=by
 have hd':((F1 ++ (F2 ++ (F3 ++ F4))) ++ (F5 ++ F6)).Nodup:=by
  have h:=hd
  simp only [List.append_assoc] at h ⊢
  exact h
 obtain ⟨_,h56,hAd⟩:=List.nodup_append.1 hd'
 obtain ⟨_,_,h56d⟩:=List.nodup_append.1 h56
 have lA:∀ b∈F1 ++ (F2 ++ (F3 ++ F4)),b < w.heap.size:=fun b hb=>by
  simp only [List.mem_append] at hb
  rcases hb with hb | hb | hb | hb
  · exact o1.lt b hb
  · exact o2.lt b hb
  · exact o3.lt b hb
  · exact o4.lt b hb
 have far:∀ b∈F1 ++ (F2 ++ (F3 ++ F4)),b∉K:=fun b hb hm=>by
  rcases hK b hm with h | h
  · exact hAd b hb b (List.mem_append_left _ h) rfl
  · have:=lA b hb;omega
 have far6:∀ b∈F6,b∉K:=fun b hb hm=>by
  rcases hK b hm with h | h
  · exact h56d b h b hb rfl
  · have:=o6.lt b hb;omega
 have hnn:=nodup_swap hd' p5.nodup h5 lA o6.lt
 simp only [List.append_assoc] at hnn
 exact ⟨_,_,_,_,_,_,F1,F2,F3,F4,F5',F6,rfl,⟨hf.1,hf.2,hn,show I64 0 by unfold I64;decide⟩,o1.kept hk (fun b hb=>far b (by simp [hb])),o2.kept hk (fun b hb=>far b (by simp [hb])),o3.kept hk (fun b hb=>far b (by simp [hb])),o4.kept hk (fun b hb=>far b (by simp [hb])),p5,o6.kept hk far6,rfl,hnn⟩
theorem wish_fit {x:Wish} (h:wishRight x=true):1≤x.count∧x.count≤4∧1≤x.need:=by
 simp only [wishRight,isWorkB,isB,Bool.and_eq_true,decide_eq_true_eq] at h
 omega
theorem wish_task_fit {now:Int} {a:Label} {x:Wish} {n:Int} (ha:FitLabel a) (hx:FitWish x) (h:I64 now) (hn:I64 n):FitTask (wishT now a x n) :=
 ⟨ha.1,ha.2,hn,hx.1,hx.2.1,hx.2.2.1,hx.2.2.2.1,hx.2.2.2.2.1,hx.2.2.2.2.2.1,hx.2.2.2.2.2.2.1,h,show I64 1 by unfold I64;decide,show I64 0 by unfold I64;decide⟩
theorem born_right {y:Yard} (h:yardRight y=true) {t:Task} (ht:t∈y.tasks):bornOk t:=by
 obtain ⟨k,hk,rfl⟩:=List.getElem_of_mem ht
 have:=right_at (right_tasks h) hk
 rw [nth_eq hk] at this
 exact born_of this
theorem now_right {y:Yard} (h:yardRight y=true):0≤y.now∧y.now≤999900:=by
 simp only [yardRight,yardHead,Bool.and_eq_true] at h
 exact isB_true h.1.1.1.2
theorem isL_iff {a:Label} {x:Task}:isL a x=(decide (x.label.level=a.level) && decide (x.label.set=a.set)):=by
 obtain ⟨⟨l,s⟩,_⟩:=x
 obtain ⟨m,t⟩:=a
 simp [isL]
theorem manyT_le (l:List Task) (a:Label) (k:Nat):manyT (l.take k) a≤k:=Nat.le_trans (List.countP_le_length) (by rw [List.length_take];omega)
theorem sub_end {S:Nat→Prop} (y:Yard) (a:Label) (x:Wish) (w:World) (A1:Option Addr) (c1:Nat) (A2:Option Addr) (c2:Nat) (A3:Option Addr) (c3:Nat) (A4:Option Addr) (c4:Nat) (A5:Option Addr) (c5:Nat) (A6:Option Addr) (c6:Nat) (_n0 B:Nat) {wc:World}
 (_m5:c5≤2 ^ 63 - 1) (hc1:1≤x.count) (hc4:x.count≤4) (HF:Hid (FitYard y)) (HYR:Hid (∀ V,Ext w V→EYard.rel S V [.slice A1 y.config.nodes.length c1,.slice A2 y.config.pairs.length c2,.slice A3 y.config.quotas.length c3,.int .i64 y.config.half,.slice A4 y.nodes.length c4,.slice A5 y.tasks.length c5,.slice A6 y.uses.length c6,.int .i64 y.now] y)) (_HCR:Hid (∀ V,Ext w V→EConfig.rel S V [.slice A1 y.config.nodes.length c1,.slice A2 y.config.pairs.length c2,.slice A3 y.config.quotas.length c3,.int .i64 y.config.half] y.config))
 (_HT5:Hid (Rd ETask S w (.slice A5 y.tasks.length c5) y.tasks)) (_K5:Hid (∀ k,k < y.tasks.length→∃ b o cs,A5=some ⟨b,o,none⟩∧S b∧ETask.rel S w cs (nth y.tasks k)∧w.rangeAt b (o+k * ETask.size) cs)) (HX:Hid (FitWish x)) (HA:Hid (FitLabel a)) (HM:Hid (y.tasks.length≤14)) (T:Hid (yardRight y=true)) (U:Hid (wishRight x=true)) (HNB:Hid (noLabelS y a x=false)) (HNT:Hid (noTaskS y x=false)) (HB:Hid (w.heap.size≤(B+1+1+1))) (X:Hid (Ext w wc))
 (QA:Hid (Blk wc B 35 #[.slice A1 y.config.nodes.length c1,.slice A2 y.config.pairs.length c2,.slice A3 y.config.quotas.length c3,.int .i64 y.config.half,.slice A4 y.nodes.length c4,.slice A5 y.tasks.length c5,.slice A6 y.uses.length c6,.int .i64 y.now])) (QB:Hid (Blk wc (B+1) 24 #[.int .i64 a.level,.int .i64 a.set])) (QC:Hid (Blk wc (B+1+1) 42 #[.string x.owner,.int .i64 x.need,.int .i64 x.long,.int .i64 x.prio,.int .i64 x.under.level,.int .i64 x.under.set,.int .i64 x.after,.int .i64 x.count])) (QR:Hid (Blk wc (B+1+1+1) 37 #[.slice none 0 0,.slice none 0 0,.slice none 0 0,.int .i64 0,.slice none 0 0,.slice none 0 0,.slice none 0 0,.int .i64 0,.int .i64 0,.int .i64 0]))
 (n L:Nat) (qu:Int) (hn15:(n:Int)≤14) (HN:Hid (manyT y.tasks a=n)) (_HL:Hid (liveN y.tasks a=L)) (_HQ:Hid (quotaOf y.config a=qu)) (HFU:Hid ((manyT y.tasks a:Int)+x.count≤12)) (HQ2:Hid ((liveN y.tasks a:Int)+x.count≤quotaOf y.config a)) {s0 s1 s2 s7 s9 s10 s11 s12 s13 s14 s15 s16 s17 s18 s19 s20 s21 s22 s23 s24 s25 s26 s27 s28 s29 s30 s31 s32 s33 s34 s35 s36 s37 s38 s39 s40 s41 s42 s43 s44 s45 s46 s47 s48 s49 s50 s51 s52 s53 s54 s55 s56 s57 s58 s59 s60 s61 s62 s63 s64 s65 s66 s67 s68 s69 s70 s71 s72 s73 s74 s75 s76 s77 s78 s79 s80 s81 s82 s83 s84 s85 s86 s87 s88 s89 s90 s91 s92 s93 s94 s95 s96 s97 s98 s99 s100 s101 s102 s103 s104 s105 s106 s107 s108 s109 s110 s111 s112 s113 s114 s115 s116 s117 s118 s119 s120 s121 s122 s123 s124 s125 s126 s127 s128 s129 s130 s131 s132:Value}
 {K:Act→World→Prop} (hK:∀ (z:Act) (w':World),Code.wp Tryz.prog (nav [1,1,1,1,1,1,1,1,1] (codeOf Tryz.f7)) (bodyPost Tryz.prog Tryz.f7 (RetOS OYardOut (subY y a x) w)) z w'→K z w') :
 Code.wp Tryz.prog (nav [1,1,1,1,1,1,1,1,0] (codeOf Tryz.f7)) (Exit.then K (bodyPost Tryz.prog Tryz.f7 (RetOS OYardOut (subY y a x) w))) { tmps:=#[s0,s1,s2,.pointer (some ⟨B,0,none⟩),.pointer (some ⟨B+1,0,none⟩),.pointer (some ⟨B+1+1,0,none⟩),.pointer (some ⟨(B+1+1+1),0,none⟩),s7,.int .i64 n,s9,s10,s11,s12,s13,s14,s15,s16,s17,s18,s19,s20,s21,s22,s23,s24,s25,s26,s27,s28,s29,s30,s31,s32,s33,s34,s35,s36,s37,s38,s39,s40,s41,s42,s43,s44,s45,s46,s47,s48,s49,s50,s51,s52,s53,s54,s55,s56,s57,s58,s59,s60,s61,s62,s63,s64,s65,s66,s67,s68,s69,s70,s71,s72,s73,s74,s75,s76,s77,s78,s79,s80,s81,s82,s83,s84,s85,s86,s87,s88,s89,s90,s91,s92,s93,s94,s95,s96,s97,s98,s99,s100,s101,s102,s103,s104,s105,s106,s107,s108,s109,s110,s111,s112,s113,s114,s115,s116,s117,s118,s119,s120,s121,s122,s123,s124,s125,s126,s127,s128,s129,s130,s131,s132],defers:=[] } wc:=by
 conv=>arg 2;simp only [nav,codeOf,Tryz.f7,Option.getD_some]
 conv at hK=>enter [z,w',1,2];simp only [nav,codeOf,Tryz.f7,Option.getD_some]
 clear _HL _HQ _HCR _HT5 _K5
 have qa:=QA.out.cell
 go_upto_region 20 with (go_at_call 27;(with_reducible refine (copyYard_own (S:=S) y _ _ (HYR.out _ X.out) (few_yard T.out)).mono ?_);rintro e w9 ⟨cs9,G9,rfl,⟨u1,u2,u3,u4,u5,u6,G1,G2,G3,G4,G5,G6,rfl,-,o1,o2,o3,o4,o5,o6,hG,hgn⟩,g9,hx9⟩;obtain ⟨p1,k1,rfl,-⟩:=OwS.form o1;obtain ⟨p2,k2,rfl,-⟩:=OwS.form o2;obtain ⟨p3,k3,rfl,-⟩:=OwS.form o3;obtain ⟨p4,k4,rfl,-⟩:=OwS.form o4;obtain ⟨p5,k5,rfl,-⟩:=OwS.form o5;obtain ⟨p6,k6,rfl,-⟩:=OwS.form o6;have O1:=Lib.hid o1;have O2:=Lib.hid o2;have O3:=Lib.hid o3;have O4:=Lib.hid o4;have O5:=Lib.hid o5;have O6:=Lib.hid o6;have HG:=Lib.hid (hG ▸ hgn);have Z9:Hid (∀ b∈G1 ++ (G2 ++ (G3 ++ (G4 ++ (G5 ++ G6)))),wc.heap.size≤b):=Lib.hid (hG ▸ g9);have H9:=Lib.hid hx9;clear o1 o2 o3 o4 o5 o6 hG hgn g9 hx9 qa;simp only [cellsYard])
 obtain ⟨W10,C,hW10,hC10,hx10,b10⟩:∃ W B,W=w9.alloc (.cells #[.slice p1 y.config.nodes.length k1,.slice p2 y.config.pairs.length k2,.slice p3 y.config.quotas.length k3,.int .i64 y.config.half,.slice p4 y.nodes.length k4,.slice p5 y.tasks.length k5,.slice p6 y.uses.length k6,.int .i64 y.now] 35)∧B=w9.heap.size∧Ext w9 W∧Blk W B 35 #[.slice p1 y.config.nodes.length k1,.slice p2 y.config.pairs.length k2,.slice p3 y.config.quotas.length k3,.int .i64 y.config.half,.slice p4 y.nodes.length k4,.slice p5 y.tasks.length k5,.slice p6 y.uses.length k6,.int .i64 y.now]:=⟨_,_,rfl,rfl,(Ext.refl w9).alloc _,Blk.new _ _ _⟩
 rw [← hW10,← hC10]
 have EC:=Lib.hid hC10
 have Q10:=Lib.hid b10
 have X10:=Lib.hid hx10
 clear hW10 hC10 hx10 b10
 have qc:=(QC.out.ext (H9.out.trans X10.out)).cell
 go_upto_region 21 with (fail)
 clear qc
 have GE:Hid (∀ b∈G5,b < w9.heap.size∧b∉G1 ++ (G2 ++ (G3 ++ G4))):=Lib.hid fun b hb=>⟨O5.out.lt b hb,fun hc=>by
  have h:=HG.out
  have hd:((G1 ++ (G2 ++ (G3 ++ G4))) ++ (G5 ++ G6)).Nodup:=by simp only [List.append_assoc] at h ⊢;exact h
  exact (List.nodup_append.1 hd).2.2 b hc b (List.mem_append_left _ hb) rfl⟩
 go_loopw [12,97] (fun z i w'=>∃ (k:Nat) (l:List Task) (F:List Nat) (p:Option Addr) (q:Nat),i=.int .i64 k∧(k:Int)≤x.count∧l=y.tasks ++ newT y.now a x n k∧Blk w' C 35 #[.slice p1 y.config.nodes.length k1,.slice p2 y.config.pairs.length k2,.slice p3 y.config.quotas.length k3,.int .i64 y.config.half,.slice p4 y.nodes.length k4,.slice p l.length q,.slice p6 y.uses.length k6,.int .i64 y.now]∧OwS OTask 46 w' (.slice p l.length q) l F∧(∀ b∈F,b∈G5∨w9.heap.size≤b)∧C∉F∧Kept G5 w9 w') (fun _ i _=>(x.count - intOf i).toNat)
 case atStart=>exact ⟨0,y.tasks,G5,p5,k5,rfl,by omega,by simp [newT],Q10.out,O5.out.ext X10.out,fun b hb=>.inl hb,fun hb=>by have:=(GE.out C hb).1;have:=EC.out;omega,Kept.of_ext X10.out⟩
 case round =>
  obtain ⟨k,l,F,p,q,rfl,hk,hl,hC,hO,hF,hCF,hK⟩:=hrel
  have HLL:=Lib.hid hl
  have HC:=Lib.hid hC
  have HO:=Lib.hid hO
  have HFF:=Lib.hid hF
  have HCF:=Lib.hid hCF
  have HK:=Lib.hid hK
  have KB:Hid (∀ (b:Nat) (t:TypeId) (c:Array Value),b < B+1+1+1+1→Blk w9 b t c→Blk wr b t c):=Lib.hid fun b t c hb h=>(HK.out.block b h.lt (fun hm=>by have:=Z9.out b (by simp [hm]);have:=QR.out.lt;omega)).trans h
  clear hl hC hO hF hCF hK
  by_cases hlt:(k:Int) < x.count
  · have qa:=(KB.out _ _ _ (by omega) (QA.out.ext H9.out)).cell
    have qb:=(KB.out _ _ _ (by omega) (QB.out.ext H9.out)).cell
    have qc:=(KB.out _ _ _ (by omega) (QC.out.ext H9.out)).cell
    have q9:=HC.out.cell
    have f9:=HC.out.frozen
    have hll:l.length≤18:=by rw [HLL.out,List.length_append,newT_length];have:=HM.out;omega
    have hll2:=Lib.hid hll
    have HNI:Hid (I64 ((n:Int)+1+k)):=Lib.hid (by unfold I64;omega)
    clear hll
    have HB1:Hid (∀ V,Ext wr V→Blk V C 35 #[.slice p1 y.config.nodes.length k1,.slice p2 y.config.pairs.length k2,.slice p3 y.config.quotas.length k3,.int .i64 y.config.half,.slice p4 y.nodes.length k4,.slice p l.length q,.slice p6 y.uses.length k6,.int .i64 y.now]):=Lib.hid fun V hV=>HC.out.ext hV
    go_wp2_with (at_builtin;refine wpList_append_one (O:=OTask) (T:=46) (l:=l) (F:=F) (G:=[]) (y:=wishT y.now a x ((n:Int)+1+k)) (cs:=[.int .i64 a.level,.int .i64 a.set,.int .i64 ((n:Int)+1+k),.string x.owner,.int .i64 x.need,.int .i64 x.long,.int .i64 x.prio,.int .i64 x.under.level,.int .i64 x.under.set,.int .i64 x.after,.int .i64 y.now,.int .i64 1,.int .i64 0,.slice none 0 0]) rfl _ _ 32 rfl (.agg #[.int .i64 0,.int .i64 0,.int .i64 0,.string ⟨#[]⟩,.int .i64 0,.int .i64 0,.int .i64 0,.int .i64 0,.int .i64 0,.int .i64 0,.int .i64 0,.int .i64 0,.int .i64 0,.slice none 0 0]) 14 136 Tryz.underlying32 (by kernel_rfl) rfl rfl rfl (HO.out.ext ((Ext.refl _).alloc _)) _ 0 1 rfl ⟨_,rfl,wish_task_fit HA.out HX.out HF.out.2 HNI.out,OwS.nil _⟩ (Blk.new _ _ _).range (by simpa using HO.out.nodup) ?len (by decide) ?_;rotate_right;intro v' w2 F' how hkp hF';obtain ⟨P2,K2,rfl,-⟩:=OwS.form how;have HOW:=Lib.hid how;have HKP:=Lib.hid hkp;have HF2:=Lib.hid hF';have C2:Hid (Blk w2 C 35 #[.slice p1 y.config.nodes.length k1,.slice p2 y.config.pairs.length k2,.slice p3 y.config.quotas.length k3,.int .i64 y.config.half,.slice p4 y.nodes.length k4,.slice p l.length q,.slice p6 y.uses.length k6,.int .i64 y.now]):=Lib.hid ((hkp.block C (HB1.out _ ((Ext.refl _).alloc _)).lt HCF.out).trans (HB1.out _ ((Ext.refl _).alloc _)));clear how hkp hF' q9 f9 qa qb qc;have q9:=C2.out.cell;have f9:=C2.out.frozen)
    case len=>have:=hll2.out;omega
    have hsz:(l ++ [wishT y.now a x ((n:Int)+1+k)]).length=l.length+1:=by simp
    have hCn:C∉F':=fun hm=>by
     rcases HF2.out C hm with h | h | h
     · exact HCF.out h
     · cases h
     · have:=HC.out.lt;have:=((Ext.refl wr).alloc (.cells #[.int .i64 a.level,.int .i64 a.set,.int .i64 ((n:Int)+1+k),.string x.owner,.int .i64 x.need,.int .i64 x.long,.int .i64 x.prio,.int .i64 x.under.level,.int .i64 x.under.set,.int .i64 x.after,.int .i64 y.now,.int .i64 1,.int .i64 0,.slice none 0 0] 46)).size;omega
    refine ⟨⟨k+1,l ++ [wishT y.now a x ((n:Int)+1+k)],F',P2,K2,by go_num,by omega,by rw [newT_succ,← List.append_assoc,← HLL.out],by simpa using C2.out.set_ 5 (.slice P2 (l ++ [wishT y.now a x ((n:Int)+1+k)]).length K2),?_,fun b hb=>?_,hCn,?_⟩,by simp [intOf];omega⟩
    · exact HOW.out.kept (Kept.setCell (p:=⟨C,5,none⟩) (Kept.refl _ _) (F:=[C]) (by simp) _) (fun b hb hm=>hCn (List.mem_singleton.1 hm ▸ hb))
    · rcases HF2.out b hb with h | h | h
      · exact HFF.out b h
      · cases h
      · have:=HK.out.size;have:=((Ext.refl wr).alloc (.cells #[.int .i64 a.level,.int .i64 a.set,.int .i64 ((n:Int)+1+k),.string x.owner,.int .i64 x.need,.int .i64 x.long,.int .i64 x.prio,.int .i64 x.under.level,.int .i64 x.under.set,.int .i64 x.after,.int .i64 y.now,.int .i64 1,.int .i64 0,.slice none 0 0] 46)).size;exact .inr (by omega)
    · refine kept_over (F:=[C]) (kept_over (HK.out.trans (Kept.of_ext ((Ext.refl _).alloc _))) HKP.out HFF.out) (Kept.setCell (p:=⟨C,5,none⟩) (Kept.refl _ _) (by simp) _) (fun b hb=>.inr ?_)
      rw [List.mem_singleton.1 hb,EC.out]
      exact Nat.le_refl _
  · have hkc:(k:Int)=x.count:=by omega
    have hkn:k=x.count.toNat:=by omega
    have q9:=HC.out.cell
    have HL0:Hid (0 < l.length∧l.length < 20):=Lib.hid (by rw [HLL.out,List.length_append,newT_length];have:=HM.out;omega)
    have HBO:Hid (∀ t∈l,bornOk t):=Lib.hid fun t ht=>by
     rw [HLL.out] at ht
     rcases List.mem_append.1 ht with h | h
     · exact born_right T.out h
     · obtain ⟨i,hi,rfl⟩:=List.mem_map.1 h
       have:=now_right T.out
       exact ⟨by simp only [wishT];omega,by simp only [wishT];omega⟩
    have HKN:=Lib.hid hkn
    clear hkc hkn
    go_upto_region 26 with (go_at_call 28;(with_reducible refine (stableFew_any l _ F _ HO.out HL0.out.1 HL0.out.2 HBO.out).mono ?_);rintro e w5 ⟨rfl,m,F5,om,hpm,hsm,hFm,hkm⟩;have OM:=Lib.hid om;have PM:=Lib.hid hpm;have SM:=Lib.hid hsm;have FM:=Lib.hid hFm;have KM:=Lib.hid hkm;clear om hpm hsm hFm hkm q9)
    have hml:m.length=l.length:=PM.out.length_eq
    have hms:m=subT y a x:=by
     have h:=PM.out
     rw [HLL.out,← HN.out,HKN.out] at h
     exact sub_sorted (right_tasks T.out) h SM.out
    have HMS:=Lib.hid hms
    have HML:=Lib.hid hml
    have C5:Hid (Blk w5 C 35 #[.slice p1 y.config.nodes.length k1,.slice p2 y.config.pairs.length k2,.slice p3 y.config.quotas.length k3,.int .i64 y.config.half,.slice p4 y.nodes.length k4,.slice p l.length q,.slice p6 y.uses.length k6,.int .i64 y.now]):=Lib.hid ((KM.out.block C HC.out.lt HCF.out).trans HC.out)
    have K59:Hid (Kept G5 w9 w5):=Lib.hid (kept_over HK.out KM.out HFF.out)
    have R5:Hid (Blk w5 (B+1+1+1) 37 #[.slice none 0 0,.slice none 0 0,.slice none 0 0,.int .i64 0,.slice none 0 0,.slice none 0 0,.slice none 0 0,.int .i64 0,.int .i64 0,.int .i64 0]):=Lib.hid ((K59.out.block (B+1+1+1) (QR.out.ext H9.out).lt (fun hm=>by have:=Z9.out (B+1+1+1) (by simp [hm]);have:=QR.out.lt;omega)).trans (QR.out.ext H9.out))
    have OM2:Hid (OwS OTask 46 w5 (.slice p l.length q) (subT y a x) F5):=Lib.hid (HMS.out ▸ OM.out)
    have HE:Hid (subY y a x=⟨⟨y.config,y.nodes,subT y a x,y.uses,y.now⟩,(n:Int)+1,0⟩):=Lib.hid (by rw [← HN.out];exact sub_done T.out U.out HNB.out HNT.out (Int.not_lt.2 HFU.out) (Int.not_lt.2 HQ2.out))
    clear hms hml
    have q5:=C5.out.cell
    go_wp2_with (refine wpList_store_mid rfl 37 _ _ rfl (B+1+1+1) 0 (List.toArray [.slice p1 y.config.nodes.length k1,.slice p2 y.config.pairs.length k2,.slice p3 y.config.quotas.length k3,.int .i64 y.config.half,.slice p4 y.nodes.length k4,.slice p l.length q,.slice p6 y.uses.length k6,.int .i64 y.now,.int .i64 ((n:Int)+1),.int .i64 0]) rfl rfl (Blk.there (t:=37) (cs:=#[.slice none 0 0,.slice none 0 0,.slice none 0 0,.int .i64 0,.slice none 0 0,.slice none 0 0,.slice none 0 0,.int .i64 0,.int .i64 0,.int .i64 0]) R5.out) (by kernel_rfl) (all_oneCell_toArray (cs:=[.slice p1 y.config.nodes.length k1,.slice p2 y.config.pairs.length k2,.slice p3 y.config.quotas.length k3,.int .i64 y.config.half,.slice p4 y.nodes.length k4,.slice p l.length q,.slice p6 y.uses.length k6,.int .i64 y.now,.int .i64 ((n:Int)+1),.int .i64 0]) (by simp [Value.oneCell'])) ?_)
    have hFF5:∀ b∈F5,b∈G5∨w9.heap.size≤b:=fun b hb=>HFF.out b (FM.out b hb)
    have OW:=own_five (n:=(n:Int)+1) HF.out (by unfold I64;omega) O1.out O2.out O3.out O4.out O6.out OM2.out K59.out (fun b hb=>.inl hb) HG.out hFF5
    have hsR:=QR.out.lt
    have hs9:=H9.out.size
    have far:∀ b∈G1 ++ (G2 ++ (G3 ++ (G4 ++ (F5 ++ G6)))),b∉[(B+1+1+1)]:=fun b hb hm=>by
     have:=set_ge Z9.out hFF5 (by omega) b hb
     have:=List.mem_singleton.1 hm
     omega
    exact bodyPost_ret (v:=.agg (List.toArray [.slice p1 y.config.nodes.length k1,.slice p2 y.config.pairs.length k2,.slice p3 y.config.quotas.length k3,.int .i64 y.config.half,.slice p4 y.nodes.length k4,.slice p l.length q,.slice p6 y.uses.length k6,.int .i64 y.now,.int .i64 ((n:Int)+1),.int .i64 0])) (results_blk Tryz.results7 rfl (Blk.setAll (t:=37) (cs:=#[.slice none 0 0,.slice none 0 0,.slice none 0 0,.int .i64 0,.slice none 0 0,.slice none 0 0,.slice none 0 0,.int .i64 0,.int .i64 0,.int .i64 0]) (vs:=List.toArray [.slice p1 y.config.nodes.length k1,.slice p2 y.config.pairs.length k2,.slice p3 y.config.quotas.length k3,.int .i64 y.config.half,.slice p4 y.nodes.length k4,.slice p l.length q,.slice p6 y.uses.length k6,.int .i64 y.now,.int .i64 ((n:Int)+1),.int .i64 0]) R5.out rfl) Tryz.underlying37 rfl (by kernel_rfl)) rfl
     ⟨_,G1 ++ (G2 ++ (G3 ++ (G4 ++ (F5 ++ G6)))),rfl,by rw [HE.out];exact ownk OW (Kept.setCells (F:=[(B+1+1+1)]) (by simp) _ _ _ (Kept.refl _ _)) far,
       fun b hb=>Nat.le_trans X.out.size (set_ge Z9.out hFF5 (by omega) b hb),
       setCells_ext HB.out _ _ _ (Kept.ext (X.out.trans H9.out) K59.out (fun b hb=>Nat.le_trans X.out.size (Z9.out b (by simp [hb]))))⟩
theorem sub_mid {S:Nat→Prop} (y:Yard) (a:Label) (x:Wish) (w:World) (A1:Option Addr) (c1:Nat) (A2:Option Addr) (c2:Nat) (A3:Option Addr) (c3:Nat) (A4:Option Addr) (c4:Nat) (A5:Option Addr) (c5:Nat) (A6:Option Addr) (c6:Nat) (n0 B:Nat) {wc:World}
 (m5:c5≤2 ^ 63 - 1) (hc1:1≤x.count) (hc4:x.count≤4) (HF:Hid (FitYard y)) (HYR:Hid (∀ V,Ext w V→EYard.rel S V [.slice A1 y.config.nodes.length c1,.slice A2 y.config.pairs.length c2,.slice A3 y.config.quotas.length c3,.int .i64 y.config.half,.slice A4 y.nodes.length c4,.slice A5 y.tasks.length c5,.slice A6 y.uses.length c6,.int .i64 y.now] y)) (HCR:Hid (∀ V,Ext w V→EConfig.rel S V [.slice A1 y.config.nodes.length c1,.slice A2 y.config.pairs.length c2,.slice A3 y.config.quotas.length c3,.int .i64 y.config.half] y.config))
 (HT5:Hid (Rd ETask S w (.slice A5 y.tasks.length c5) y.tasks)) (K5:Hid (∀ k,k < y.tasks.length→∃ b o cs,A5=some ⟨b,o,none⟩∧S b∧ETask.rel S w cs (nth y.tasks k)∧w.rangeAt b (o+k * ETask.size) cs)) (HX:Hid (FitWish x)) (HA:Hid (FitLabel a)) (HM:Hid (y.tasks.length≤14)) (T:Hid (yardRight y=true)) (U:Hid (wishRight x=true)) (HNB:Hid (noLabelS y a x=false)) (HNT:Hid (noTaskS y x=false)) (HB:Hid (w.heap.size≤(B+1+1+1))) (X:Hid (Ext w wc))
 (QA:Hid (Blk wc B 35 #[.slice A1 y.config.nodes.length c1,.slice A2 y.config.pairs.length c2,.slice A3 y.config.quotas.length c3,.int .i64 y.config.half,.slice A4 y.nodes.length c4,.slice A5 y.tasks.length c5,.slice A6 y.uses.length c6,.int .i64 y.now])) (QB:Hid (Blk wc (B+1) 24 #[.int .i64 a.level,.int .i64 a.set])) (QC:Hid (Blk wc (B+1+1) 42 #[.string x.owner,.int .i64 x.need,.int .i64 x.long,.int .i64 x.prio,.int .i64 x.under.level,.int .i64 x.under.set,.int .i64 x.after,.int .i64 x.count])) (QR:Hid (Blk wc (B+1+1+1) 37 #[.slice none 0 0,.slice none 0 0,.slice none 0 0,.int .i64 0,.slice none 0 0,.slice none 0 0,.slice none 0 0,.int .i64 0,.int .i64 0,.int .i64 0])) {s0 s1 s2 s8 s9 s10 s11 s12 s13 s14 s15 s16 s17 s18 s19 s20 s21 s22 s23 s24 s25 s26 s27 s28 s29 s30 s31 s32 s33 s34 s35 s36 s37 s38 s39 s40 s41 s42 s43 s44 s45 s46 s47 s48 s49 s50 s51 s52 s53 s54 s55 s56 s57 s58 s59 s60 s61 s62 s63 s64 s65 s66 s67 s68 s69 s70 s71 s72 s73 s74 s75 s76 s77 s78 s79 s80 s81 s82 s83 s84 s85 s86 s87 s88 s89 s90 s91 s92 s93 s94 s95 s96 s97 s98 s99 s100 s101 s102 s103 s104 s105 s106 s107 s108 s109 s110 s111 s112 s113 s114 s115 s116 s117 s118 s119 s120 s121 s122 s123 s124 s125 s126 s127 s128 s129 s130 s131 s132:Value}
 {K:Act→World→Prop} (hK:∀ (z:Act) (w':World),Code.wp Tryz.prog (nav [1,1,1,1,1,1] (codeOf Tryz.f7)) (bodyPost Tryz.prog Tryz.f7 (RetOS OYardOut (subY y a x) w)) z w'→K z w') :
 Code.wp Tryz.prog (nav [1,1,1,1,1,0] (codeOf Tryz.f7)) (Exit.then K (bodyPost Tryz.prog Tryz.f7 (RetOS OYardOut (subY y a x) w))) { tmps:=#[s0,s1,s2,.pointer (some ⟨B,0,none⟩),.pointer (some ⟨B+1,0,none⟩),.pointer (some ⟨B+1+1,0,none⟩),.pointer (some ⟨(B+1+1+1),0,none⟩),.int .i64 n0,s8,s9,s10,s11,s12,s13,s14,s15,s16,s17,s18,s19,s20,s21,s22,s23,s24,s25,s26,s27,s28,s29,s30,s31,s32,s33,s34,s35,s36,s37,s38,s39,s40,s41,s42,s43,s44,s45,s46,s47,s48,s49,s50,s51,s52,s53,s54,s55,s56,s57,s58,s59,s60,s61,s62,s63,s64,s65,s66,s67,s68,s69,s70,s71,s72,s73,s74,s75,s76,s77,s78,s79,s80,s81,s82,s83,s84,s85,s86,s87,s88,s89,s90,s91,s92,s93,s94,s95,s96,s97,s98,s99,s100,s101,s102,s103,s104,s105,s106,s107,s108,s109,s110,s111,s112,s113,s114,s115,s116,s117,s118,s119,s120,s121,s122,s123,s124,s125,s126,s127,s128,s129,s130,s131,s132],defers:=[] } wc:=by
 conv=>arg 2;simp only [nav,codeOf,Tryz.f7,Option.getD_some]
 conv at hK=>enter [z,w',1,2];simp only [nav,codeOf,Tryz.f7,Option.getD_some]
 have qa:=QA.out.cell
 have qb:=QB.out.cell
 have qc:=QC.out.cell
 go_upto_region 10 with (fail)
 go_loopw [8,61] (fun m i w'=>∃ k:Nat,k≤y.tasks.length∧i=.int .i64 k∧m=.int .i64 (manyT (y.tasks.take k) a)∧Ext w w'∧Blk w' B 35 #[.slice A1 y.config.nodes.length c1,.slice A2 y.config.pairs.length c2,.slice A3 y.config.quotas.length c3,.int .i64 y.config.half,.slice A4 y.nodes.length c4,.slice A5 y.tasks.length c5,.slice A6 y.uses.length c6,.int .i64 y.now]∧Blk w' (B+1) 24 #[.int .i64 a.level,.int .i64 a.set]∧Blk w' (B+1+1) 42 #[.string x.owner,.int .i64 x.need,.int .i64 x.long,.int .i64 x.prio,.int .i64 x.under.level,.int .i64 x.under.set,.int .i64 x.after,.int .i64 x.count]∧Blk w' (B+1+1+1) 37 #[.slice none 0 0,.slice none 0 0,.slice none 0 0,.int .i64 0,.slice none 0 0,.slice none 0 0,.slice none 0 0,.int .i64 0,.int .i64 0,.int .i64 0]) (fun _ i _=>y.tasks.length - (intOf i).toNat)
 case atStart=>exact ⟨0,Nat.zero_le _,rfl,rfl,X.out,QA.out,QB.out,QC.out,QR.out⟩
 case round =>
  clear X QA QB QC QR qa qb qc
  obtain ⟨k,hk1,rfl,rfl,hX,hA,hBB,hCC,hR9⟩:=hrel
  have X:=Lib.hid hX
  have QA:=Lib.hid hA
  have QB:=Lib.hid hBB
  have QC:=Lib.hid hCC
  have QR:=Lib.hid hR9
  clear hX hA hBB hCC hR9
  by_cases hlt:k < y.tasks.length
  · obtain ⟨b,q,cs,rfl,_,⟨v1,rfl,hfit,hrd⟩,hc⟩:=K5.out k hlt
    obtain ⟨A1',c1',rfl,-⟩:=hrd.form
    have hxx:=X.out
    have c0:=Ext.some hxx (hc 0 _ rfl)
    have c1:=Ext.some hxx (hc 1 _ rfl)
    have c2:=Ext.some hxx (hc 2 _ rfl)
    have c3:=Ext.some hxx (hc 3 _ rfl)
    have c4:=Ext.some hxx (hc 4 _ rfl)
    have c5:=Ext.some hxx (hc 5 _ rfl)
    have c6:=Ext.some hxx (hc 6 _ rfl)
    have c7:=Ext.some hxx (hc 7 _ rfl)
    have c8:=Ext.some hxx (hc 8 _ rfl)
    have c9:=Ext.some hxx (hc 9 _ rfl)
    have c10:=Ext.some hxx (hc 10 _ rfl)
    have c11:=Ext.some hxx (hc 11 _ rfl)
    have c12:=Ext.some hxx (hc 12 _ rfl)
    have c13:=Ext.some hxx (hc 13 _ rfl)
    simp only [ETask,Nat.add_zero] at c0 c1 c2 c3 c4 c5 c6 c7 c8 c9 c10 c11 c12 c13
    have d0:=fun o:Obj=>Ext.some ((Ext.refl wr).alloc o) (show wr.cell? ⟨B+1,0,none⟩=some (.int .i64 a.level) from QB.out.cell 0)
    have d1:=fun o:Obj=>Ext.some ((Ext.refl wr).alloc o) (show wr.cell? ⟨B+1,1,none⟩=some (.int .i64 a.set) from QB.out.cell 1)
    have HS:=Lib.hid (manyT_succ (a:=a) hlt)
    have hle:=manyT_le y.tasks a k
    have hn14:=HM.out
    clear hc hfit hrd hxx
    generalize hn:manyT (y.tasks.take k) a=n at *
    have HN:=Lib.hid hn
    clear hn
    have ite__:=@ite_ok
    go_wp2_with fail
    all_goals
     refine ⟨⟨k+1,by omega,by go_num,by rw [HS.out,isL_iff];clear ite__;go_light;(first | (simp [*];done) | (by_cases hz:(nth y.tasks k).label.level=a.level∧(nth y.tasks k).label.set=a.set;(exact absurd hz (by omega));(simp [hz]))),X.out.alloc _,QA.out.ext ((Ext.refl _).alloc _),QB.out.ext ((Ext.refl _).alloc _),QC.out.ext ((Ext.refl _).alloc _),QR.out.ext ((Ext.refl _).alloc _)⟩,?_⟩
     simp [intOf]
     omega
  · obtain rfl:k=y.tasks.length:=by omega
    rw [List.take_length]
    have hnle:manyT y.tasks a≤y.tasks.length:=by have:=manyT_le y.tasks a y.tasks.length;rwa [List.take_length] at this
    have hn14:=HM.out
    obtain ⟨n,hn⟩:∃ n,manyT y.tasks a=n:=⟨_,rfl⟩
    have HN:=Lib.hid hn
    rw [hn]
    rw [hn] at hnle
    clear hn hlt hk1
    have hn15:(n:Int)≤14:=by omega
    clear hnle hn14
    have qc:=QC.out.cell
    have hcc:1≤x.count∧x.count≤4:=⟨hc1,hc4⟩
    by_cases hfu:12 < (n:Int)+x.count
    · have HFU:Hid (12 < (manyT y.tasks a:Int)+x.count):=Lib.hid (by rw [HN.out];exact hfu)
      go_upto_region 16 with (fail)
      clear qc hfu
      go_wp2_with (refine wpList_store_mid rfl 37 _ _ rfl (B+1+1+1) 0 #[.slice none 0 0,.slice none 0 0,.slice none 0 0,.int .i64 0,.slice none 0 0,.slice none 0 0,.slice none 0 0,.int .i64 0,.int .i64 0,.int .i64 9] rfl rfl (Blk.there (t:=37) (cs:=#[.slice none 0 0,.slice none 0 0,.slice none 0 0,.int .i64 0,.slice none 0 0,.slice none 0 0,.slice none 0 0,.int .i64 0,.int .i64 0,.int .i64 0]) QR.out) (by kernel_rfl) (all_oneCell_toArray (cs:=[.slice none 0 0,.slice none 0 0,.slice none 0 0,.int .i64 0,.slice none 0 0,.slice none 0 0,.slice none 0 0,.int .i64 0,.int .i64 0,.int .i64 9]) (by simp [Value.oneCell'])) ?_)
      exact bodyPost_ret (v:=.agg #[.slice none 0 0,.slice none 0 0,.slice none 0 0,.int .i64 0,.slice none 0 0,.slice none 0 0,.slice none 0 0,.int .i64 0,.int .i64 0,.int .i64 9]) (results_blk Tryz.results7 rfl (Blk.setAll (t:=37) (cs:=#[.slice none 0 0,.slice none 0 0,.slice none 0 0,.int .i64 0,.slice none 0 0,.slice none 0 0,.slice none 0 0,.int .i64 0,.int .i64 0,.int .i64 0]) (vs:=#[.slice none 0 0,.slice none 0 0,.slice none 0 0,.int .i64 0,.slice none 0 0,.slice none 0 0,.slice none 0 0,.int .i64 0,.int .i64 0,.int .i64 9]) QR.out rfl) Tryz.underlying37 rfl (by kernel_rfl)) rfl ⟨_,[],rfl,by rw [sub_full T.out U.out HNB.out HNT.out HFU.out];exact own_ill _ _ (by unfold I64;decide),fun b hb=>(by cases hb),setCells_ext HB.out _ _ _ X.out⟩
    · have HFU:Hid ((manyT y.tasks a:Int)+x.count≤12):=Lib.hid (by rw [HN.out];omega)
      go_upto_region 17 with (fail)
      clear qc hfu
      obtain ⟨L,hL⟩:∃ L,liveN y.tasks a=L:=⟨_,rfl⟩
      have HL:=Lib.hid hL
      have hLn:(L:Int)≤14:=by have:=liveN_le y.tasks a y.tasks.length;rw [List.take_length,hL] at this;have:=HM.out;omega
      clear hL
      obtain ⟨qu,hqu⟩:∃ q,quotaOf y.config a=q:=⟨_,rfl⟩
      have HQ:=Lib.hid hqu
      clear hqu
      go_cut [79] (fun v wx=>v=.bool (decide ((L:Int)+x.count > qu))∧Ext wr wx)
      case first =>
       have al:∀ V,Ext wr V→∀ i,V.cell? ⟨B,i,none⟩=_:=fun V hV=>(QA.out.ext hV).cell
       have bl:∀ V,Ext wr V→∀ i,V.cell? ⟨B+1,i,none⟩=_:=fun V hV=>(QB.out.ext hV).cell
       have cl:∀ V,Ext wr V→∀ i,V.cell? ⟨B+1+1,i,none⟩=_:=fun V hV=>(QC.out.ext hV).cell
       go_region_held3 (fun w'=>Ext wr w') (first | with_reducible exact Ext.refl _ | with_reducible assumption | with_reducible exact Ext.drew (by assumption) | with_reducible exact (Ext.refl _).drew | with_reducible exact Ext.trans (by assumption) hx9 | with_reducible exact Ext.trans (by assumption) hx8 | with_reducible exact Ext.trans (Ext.refl _).drew hx8 | with_reducible exact Ext.trans (Ext.refl _).drew hx9) (first
        | (go_at_call 25;(with_reducible refine (liveOfN_any (S:=S) y.tasks a _ _ (HT5.out.ext (X.out.trans (by first | exact Ext.refl _ | assumption | exact (Ext.refl _).drew))) (by have:=HM.out;omega)).mono ?_);rintro e w8 ⟨rfl,hx8⟩;rw [HL.out])
        | (go_at_call 26;(with_reducible refine (quotaOf_any (S:=S) y.config _ a _ (HCR.out _ (X.out.trans (by first | exact Ext.refl _ | assumption | exact (Ext.refl _).drew)))).mono ?_);rintro e w9 ⟨rfl,hx9⟩;rw [HQ.out]))
       all_goals
        clear al bl cl
        go_wp2_with fail
        go_meet
        exact ⟨congrArg (fun z=>Value.bool (decide (qu < z))) (IntWalk.i64_in ((L:Int)+x.count) (by omega)),by assumption⟩
      case rest =>
       obtain ⟨rfl,hX⟩:=hcut
       have hXX:=X.out.trans hX
       have hAA:=QA.out.ext hX
       have hBB:=QB.out.ext hX
       have hCC:=QC.out.ext hX
       have hR9:=QR.out.ext hX
       clear X QA QB QC QR hX
       have X:=Lib.hid hXX
       have QA:=Lib.hid hAA
       have QB:=Lib.hid hBB
       have QC:=Lib.hid hCC
       have QR:=Lib.hid hR9
       clear hXX hAA hBB hCC hR9
       by_cases hq:(L:Int)+x.count > qu
       · have HQ2:Hid (quotaOf y.config a < (liveN y.tasks a:Int)+x.count):=Lib.hid (by rw [HQ.out,HL.out];exact hq)
         go_upto_region 18 with (fail)
         clear hq
         go_wp2_with (refine wpList_store_mid rfl 37 _ _ rfl (B+1+1+1) 0 #[.slice none 0 0,.slice none 0 0,.slice none 0 0,.int .i64 0,.slice none 0 0,.slice none 0 0,.slice none 0 0,.int .i64 0,.int .i64 0,.int .i64 8] rfl rfl (Blk.there (t:=37) (cs:=#[.slice none 0 0,.slice none 0 0,.slice none 0 0,.int .i64 0,.slice none 0 0,.slice none 0 0,.slice none 0 0,.int .i64 0,.int .i64 0,.int .i64 0]) QR.out) (by kernel_rfl) (all_oneCell_toArray (cs:=[.slice none 0 0,.slice none 0 0,.slice none 0 0,.int .i64 0,.slice none 0 0,.slice none 0 0,.slice none 0 0,.int .i64 0,.int .i64 0,.int .i64 8]) (by simp [Value.oneCell'])) ?_)
         exact bodyPost_ret (v:=.agg #[.slice none 0 0,.slice none 0 0,.slice none 0 0,.int .i64 0,.slice none 0 0,.slice none 0 0,.slice none 0 0,.int .i64 0,.int .i64 0,.int .i64 8]) (results_blk Tryz.results7 rfl (Blk.setAll (t:=37) (cs:=#[.slice none 0 0,.slice none 0 0,.slice none 0 0,.int .i64 0,.slice none 0 0,.slice none 0 0,.slice none 0 0,.int .i64 0,.int .i64 0,.int .i64 0]) (vs:=#[.slice none 0 0,.slice none 0 0,.slice none 0 0,.int .i64 0,.slice none 0 0,.slice none 0 0,.slice none 0 0,.int .i64 0,.int .i64 0,.int .i64 8]) QR.out rfl) Tryz.underlying37 rfl (by kernel_rfl)) rfl ⟨_,[],rfl,by rw [sub_quota T.out U.out HNB.out HNT.out (Int.not_lt.2 HFU.out) HQ2.out];exact own_ill _ _ (by unfold I64;decide),fun b hb=>(by cases hb),setCells_ext HB.out _ _ _ X.out⟩
       · have HQ2:Hid ((liveN y.tasks a:Int)+x.count≤quotaOf y.config a):=Lib.hid (by rw [HQ.out,HL.out];omega)
         go_upto_region 19 with (fail)
         exact sub_end (S:=S) y a x w A1 c1 A2 c2 A3 c3 A4 c4 A5 c5 A6 c6 n0 B m5 hc1 hc4 HF HYR HCR HT5 K5 HX HA HM T U HNB HNT HB X QA QB QC QR n L qu hn15 HN HL HQ HFU HQ2 (by assumption)
theorem submit_any {S:Nat→Prop} (y:Yard) (a:Label) (x:Wish) (cs:List Value) (w:World) (h:EYard.rel S w cs y) (ha:FitLabel a) (hx:FitWish x) (hm:y.tasks.length≤14) :
 Calls Tryz.prog 7 #[.agg cs.toArray,.agg #[.int .i64 a.level,.int .i64 a.set],.agg #[.string x.owner,.int .i64 x.need,.int .i64 x.long,.int .i64 x.prio,.int .i64 x.under.level,.int .i64 x.under.set,.int .i64 x.after,.int .i64 x.count]] w (RetOS OYardOut (subY y a x) w):=by
 have H:=Lib.hid h
 obtain ⟨v1,v2,v3,v4,v5,v6,rfl,hf,h1,h2,h3,h4,h5,h6⟩:=h
 obtain ⟨A1,c1,rfl,-⟩:=h1.form
 obtain ⟨A2,c2,rfl,-⟩:=h2.form
 obtain ⟨A3,c3,rfl,-⟩:=h3.form
 obtain ⟨A4,c4,rfl,-⟩:=h4.form
 have HT5:=Lib.hid h5
 obtain ⟨A5,c5,rfl,l5,m5,hk5⟩:=h5.open_
 unfold maxLen at m5
 obtain ⟨A6,c6,rfl,-⟩:=h6.form
 have HF:=Lib.hid hf
 have HYR:Hid (∀ V,Ext w V→EYard.rel S V [.slice A1 y.config.nodes.length c1,.slice A2 y.config.pairs.length c2,.slice A3 y.config.quotas.length c3,.int .i64 y.config.half,.slice A4 y.nodes.length c4,.slice A5 y.tasks.length c5,.slice A6 y.uses.length c6,.int .i64 y.now] y):=Lib.hid fun V hV=>EYard.keep (hV.same _) H.out
 have HCR:Hid (∀ V,Ext w V→EConfig.rel S V [.slice A1 y.config.nodes.length c1,.slice A2 y.config.pairs.length c2,.slice A3 y.config.quotas.length c3,.int .i64 y.config.half] y.config):=Lib.hid fun V hV=>rel_Config hf.1 (h1.ext hV) (h2.ext hV) (h3.ext hV)
 have K5:=Lib.hid hk5
 have HX:=Lib.hid hx
 have HA:=Lib.hid ha
 have HUL:Hid (FitLabel x.under):=Lib.hid ⟨hx.2.2.2.2.1,hx.2.2.2.2.2.1⟩
 have HM:=Lib.hid hm
 clear hf h1 h2 h3 h4 h5 h6 hk5 hx ha hm l5
 obtain ⟨t,ht⟩:∃ t,yardRight y=t:=⟨_,rfl⟩
 have T:=Lib.hid ht
 obtain ⟨u,hu⟩:∃ u,wishRight x=u:=⟨_,rfl⟩
 have U:=Lib.hid hu
 clear ht hu
 simp only [cellsYard]
 go_enter Tryz.func7,Tryz.ntmps7
 go_upto_region 1 with (fail)
 obtain ⟨W,B,hW,hB,hx0,a0,b0,d0,r0⟩:=boxes4w w #[.slice A1 y.config.nodes.length c1,.slice A2 y.config.pairs.length c2,.slice A3 y.config.quotas.length c3,.int .i64 y.config.half,.slice A4 y.nodes.length c4,.slice A5 y.tasks.length c5,.slice A6 y.uses.length c6,.int .i64 y.now] #[.int .i64 a.level,.int .i64 a.set] #[.string x.owner,.int .i64 x.need,.int .i64 x.long,.int .i64 x.prio,.int .i64 x.under.level,.int .i64 x.under.set,.int .i64 x.after,.int .i64 x.count] #[.slice none 0 0,.slice none 0 0,.slice none 0 0,.int .i64 0,.slice none 0 0,.slice none 0 0,.slice none 0 0,.int .i64 0,.int .i64 0,.int .i64 0] 35 24 42 37
 rw [← hW,← hB]
 have HB:Hid (w.heap.size≤B+1+1+1):=Lib.hid (by omega)
 have QA:=Lib.hid a0
 have QB:=Lib.hid b0
 have QC:=Lib.hid d0
 have QR:=Lib.hid r0
 have X:=Lib.hid hx0
 clear hW hB hx0 a0 b0 d0 r0
 have qa:=QA.out.cell
 have qb:=QB.out.cell
 have qc:=QC.out.cell
 cases t with
 | false =>
   go_upto_region 2 with (go_at_call 20;(with_reducible refine (yardRight_is (S:=S) y _ _ (HYR.out _ X.out) _ T.out).mono ?_);rintro e w7 ⟨rfl,hx7⟩;replace X:=Lib.hid (X.out.trans hx7);replace QA:=Lib.hid (QA.out.ext hx7);replace QB:=Lib.hid (QB.out.ext hx7);replace QC:=Lib.hid (QC.out.ext hx7);replace QR:=Lib.hid (QR.out.ext hx7);clear hx7 qa qb qc;have qa:=QA.out.cell;have qb:=QB.out.cell;have qc:=QC.out.cell)
   clear qa qb qc
   go_wp2_with (refine wpList_store_mid rfl 37 _ _ rfl (B+1+1+1) 0 #[.slice none 0 0,.slice none 0 0,.slice none 0 0,.int .i64 0,.slice none 0 0,.slice none 0 0,.slice none 0 0,.int .i64 0,.int .i64 0,.int .i64 1] rfl rfl (Blk.there (t:=37) (cs:=#[.slice none 0 0,.slice none 0 0,.slice none 0 0,.int .i64 0,.slice none 0 0,.slice none 0 0,.slice none 0 0,.int .i64 0,.int .i64 0,.int .i64 0]) QR.out) (by kernel_rfl) (all_oneCell_toArray (cs:=[.slice none 0 0,.slice none 0 0,.slice none 0 0,.int .i64 0,.slice none 0 0,.slice none 0 0,.slice none 0 0,.int .i64 0,.int .i64 0,.int .i64 1]) (by simp [Value.oneCell'])) ?_)
   exact bodyPost_ret (v:=.agg #[.slice none 0 0,.slice none 0 0,.slice none 0 0,.int .i64 0,.slice none 0 0,.slice none 0 0,.slice none 0 0,.int .i64 0,.int .i64 0,.int .i64 1]) (results_blk Tryz.results7 rfl (Blk.setAll (t:=37) (cs:=#[.slice none 0 0,.slice none 0 0,.slice none 0 0,.int .i64 0,.slice none 0 0,.slice none 0 0,.slice none 0 0,.int .i64 0,.int .i64 0,.int .i64 0]) (vs:=#[.slice none 0 0,.slice none 0 0,.slice none 0 0,.int .i64 0,.slice none 0 0,.slice none 0 0,.slice none 0 0,.int .i64 0,.int .i64 0,.int .i64 1]) QR.out rfl) Tryz.underlying37 rfl (by kernel_rfl)) rfl ⟨_,[],rfl,by rw [sub_form (.inl T.out)];exact own_ill _ _ (by unfold I64;decide),fun b hb=>(by cases hb),setCells_ext HB.out _ _ _ X.out⟩
 | true =>
   cases u with
   | false =>
     go_upto_region 2 with (first | (go_at_call 20;(with_reducible refine (yardRight_is (S:=S) y _ _ (HYR.out _ X.out) _ T.out).mono ?_);rintro e w7 ⟨rfl,hx7⟩;replace X:=Lib.hid (X.out.trans hx7);replace QA:=Lib.hid (QA.out.ext hx7);replace QB:=Lib.hid (QB.out.ext hx7);replace QC:=Lib.hid (QC.out.ext hx7);replace QR:=Lib.hid (QR.out.ext hx7);clear hx7 qa qb qc;have qa:=QA.out.cell;have qb:=QB.out.cell;have qc:=QC.out.cell) | (go_at_call 21;(with_reducible refine (wishRight_is (S:=S) x _ _ (rel_Wish HX.out) _ U.out).mono ?_);rintro e w6 ⟨rfl,hx6⟩;replace X:=Lib.hid (X.out.trans hx6);replace QA:=Lib.hid (QA.out.ext hx6);replace QB:=Lib.hid (QB.out.ext hx6);replace QC:=Lib.hid (QC.out.ext hx6);replace QR:=Lib.hid (QR.out.ext hx6);clear hx6 qa qb qc;have qa:=QA.out.cell;have qb:=QB.out.cell;have qc:=QC.out.cell))
     clear qa qb qc
     go_wp2_with (refine wpList_store_mid rfl 37 _ _ rfl (B+1+1+1) 0 #[.slice none 0 0,.slice none 0 0,.slice none 0 0,.int .i64 0,.slice none 0 0,.slice none 0 0,.slice none 0 0,.int .i64 0,.int .i64 0,.int .i64 1] rfl rfl (Blk.there (t:=37) (cs:=#[.slice none 0 0,.slice none 0 0,.slice none 0 0,.int .i64 0,.slice none 0 0,.slice none 0 0,.slice none 0 0,.int .i64 0,.int .i64 0,.int .i64 0]) QR.out) (by kernel_rfl) (all_oneCell_toArray (cs:=[.slice none 0 0,.slice none 0 0,.slice none 0 0,.int .i64 0,.slice none 0 0,.slice none 0 0,.slice none 0 0,.int .i64 0,.int .i64 0,.int .i64 1]) (by simp [Value.oneCell'])) ?_)
     exact bodyPost_ret (v:=.agg #[.slice none 0 0,.slice none 0 0,.slice none 0 0,.int .i64 0,.slice none 0 0,.slice none 0 0,.slice none 0 0,.int .i64 0,.int .i64 0,.int .i64 1]) (results_blk Tryz.results7 rfl (Blk.setAll (t:=37) (cs:=#[.slice none 0 0,.slice none 0 0,.slice none 0 0,.int .i64 0,.slice none 0 0,.slice none 0 0,.slice none 0 0,.int .i64 0,.int .i64 0,.int .i64 0]) (vs:=#[.slice none 0 0,.slice none 0 0,.slice none 0 0,.int .i64 0,.slice none 0 0,.slice none 0 0,.slice none 0 0,.int .i64 0,.int .i64 0,.int .i64 1]) QR.out rfl) Tryz.underlying37 rfl (by kernel_rfl)) rfl ⟨_,[],rfl,by rw [sub_form (.inr U.out)];exact own_ill _ _ (by unfold I64;decide),fun b hb=>(by cases hb),setCells_ext HB.out _ _ _ X.out⟩
   | true =>
     obtain ⟨hc1,hc4,hn1⟩:=wish_fit U.out
     have HNL:Hid (y.config.nodes.length≤6):=Lib.hid (clear_length (config_clear (right_config T.out))).2
     obtain ⟨n0,hn0⟩:∃ n0,(clearOf y.config.nodes a y.config.nodes.length).length=n0:=⟨_,rfl⟩
     have HZN:=Lib.hid hn0
     clear hn0
     go_upto_region 4 with (first | (go_at_call 20;(with_reducible refine (yardRight_is (S:=S) y _ _ (HYR.out _ X.out) _ T.out).mono ?_);rintro e w7 ⟨rfl,hx7⟩;replace X:=Lib.hid (X.out.trans hx7);replace QA:=Lib.hid (QA.out.ext hx7);replace QB:=Lib.hid (QB.out.ext hx7);replace QC:=Lib.hid (QC.out.ext hx7);replace QR:=Lib.hid (QR.out.ext hx7);clear hx7 qa qb qc;have qa:=QA.out.cell;have qb:=QB.out.cell;have qc:=QC.out.cell) | (go_at_call 21;(with_reducible refine (wishRight_is (S:=S) x _ _ (rel_Wish HX.out) _ U.out).mono ?_);rintro e w6 ⟨rfl,hx6⟩;replace X:=Lib.hid (X.out.trans hx6);replace QA:=Lib.hid (QA.out.ext hx6);replace QB:=Lib.hid (QB.out.ext hx6);replace QC:=Lib.hid (QC.out.ext hx6);replace QR:=Lib.hid (QR.out.ext hx6);clear hx6 qa qb qc;have qa:=QA.out.cell;have qb:=QB.out.cell;have qc:=QC.out.cell) | (go_at_call 22;(with_reducible refine (clearForC_any (S:=S) y.config _ a _ (HCR.out _ X.out) HNL.out).mono ?_);rintro e wl ⟨v8,F8,rfl,o8,-,hxl⟩;obtain ⟨A8,c8,rfl,-⟩:=o8.form;rw [HZN.out];clear o8;replace X:=Lib.hid (X.out.trans hxl);replace QA:=Lib.hid (QA.out.ext hxl);replace QB:=Lib.hid (QB.out.ext hxl);replace QC:=Lib.hid (QC.out.ext hxl);replace QR:=Lib.hid (QR.out.ext hxl);clear hxl qa qb qc;have qa:=QA.out.cell;have qb:=QB.out.cell;have qc:=QC.out.cell))
     by_cases hzn:(n0:Int) < x.need
     · have HE:Hid (noLabelS y a x=true):=Lib.hid (by rw [noLabelS,manyOf,HZN.out,decide_eq_true hzn];rfl)
       go_upto_region 5 with (fail)
       clear qa qb qc hzn
       go_wp2_with (refine wpList_store_mid rfl 37 _ _ rfl (B+1+1+1) 0 #[.slice none 0 0,.slice none 0 0,.slice none 0 0,.int .i64 0,.slice none 0 0,.slice none 0 0,.slice none 0 0,.int .i64 0,.int .i64 0,.int .i64 11] rfl rfl (Blk.there (t:=37) (cs:=#[.slice none 0 0,.slice none 0 0,.slice none 0 0,.int .i64 0,.slice none 0 0,.slice none 0 0,.slice none 0 0,.int .i64 0,.int .i64 0,.int .i64 0]) QR.out) (by kernel_rfl) (all_oneCell_toArray (cs:=[.slice none 0 0,.slice none 0 0,.slice none 0 0,.int .i64 0,.slice none 0 0,.slice none 0 0,.slice none 0 0,.int .i64 0,.int .i64 0,.int .i64 11]) (by simp [Value.oneCell'])) ?_)
       exact bodyPost_ret (v:=.agg #[.slice none 0 0,.slice none 0 0,.slice none 0 0,.int .i64 0,.slice none 0 0,.slice none 0 0,.slice none 0 0,.int .i64 0,.int .i64 0,.int .i64 11]) (results_blk Tryz.results7 rfl (Blk.setAll (t:=37) (cs:=#[.slice none 0 0,.slice none 0 0,.slice none 0 0,.int .i64 0,.slice none 0 0,.slice none 0 0,.slice none 0 0,.int .i64 0,.int .i64 0,.int .i64 0]) (vs:=#[.slice none 0 0,.slice none 0 0,.slice none 0 0,.int .i64 0,.slice none 0 0,.slice none 0 0,.slice none 0 0,.int .i64 0,.int .i64 0,.int .i64 11]) QR.out rfl) Tryz.underlying37 rfl (by kernel_rfl)) rfl ⟨_,[],rfl,by rw [sub_label T.out U.out HE.out];exact own_ill _ _ (by unfold I64;decide),fun b hb=>(by cases hb),setCells_ext HB.out _ _ _ X.out⟩
     · have hnb:¬ ((n0:Int) < x.need):=hzn
       have HALT:(x.after=0)∨(¬ x.after=0∧belowB x.under a=false)∨(¬ x.after=0∧belowB x.under a=true∧taskIx y.tasks x.under x.after < 0)∨(¬ x.after=0∧belowB x.under a=true∧¬ taskIx y.tasks x.under x.after < 0):=by
        by_cases h1:x.after=0
        · exact .inl h1
        · cases h2:belowB x.under a
          · exact .inr (.inl ⟨h1,rfl⟩)
          · by_cases h3:taskIx y.tasks x.under x.after < 0
            · exact .inr (.inr (.inl ⟨h1,rfl,h3⟩))
            · exact .inr (.inr (.inr ⟨h1,rfl,h3⟩))
       obtain ⟨ti,hti⟩:∃ d,taskIx y.tasks x.under x.after=d:=⟨_,rfl⟩
       have HTI:=Lib.hid hti
       rw [hti] at HALT
       clear hti hzn
       rcases HALT with haf | ⟨haf,hbe⟩ | ⟨haf,hbe,hix⟩ | ⟨haf,hbe,hix⟩
       case' inl =>
        have HNB:Hid (noLabelS y a x=false):=Lib.hid (by rw [noLabelS,manyOf,HZN.out,decide_eq_false hnb];simp [haf])
        have HNT:Hid (noTaskS y x=false):=Lib.hid (by simp [noTaskS,haf])
        have hafb:(x.after != 0)=false:=by simp [haf]
        clear haf
        go_upto_region 6 with (fail)
        go_upto_region 8 with (fail)
        clear hafb
       case inr.inl =>
        have HE:Hid (noLabelS y a x=true):=Lib.hid (by rw [noLabelS,hbe];simp [haf])
        have HBE:=Lib.hid hbe
        have hafb:(x.after != 0)=true:=by simp [haf]
        clear haf hbe
        go_upto_region 5 with (go_at_call 23;(with_reducible refine (below_is (S:=S) (S':=S) x.under a _ _ _ (rel_Label HUL.out) (rel_Label HA.out) _ HBE.out).mono ?_);rintro e wb ⟨rfl,hxb⟩;replace X:=Lib.hid (X.out.trans hxb);replace QA:=Lib.hid (QA.out.ext hxb);replace QB:=Lib.hid (QB.out.ext hxb);replace QC:=Lib.hid (QC.out.ext hxb);replace QR:=Lib.hid (QR.out.ext hxb);clear hxb qa qb qc;have qa:=QA.out.cell;have qb:=QB.out.cell;have qc:=QC.out.cell)
        clear hafb qa qb qc
        go_wp2_with (refine wpList_store_mid rfl 37 _ _ rfl (B+1+1+1) 0 #[.slice none 0 0,.slice none 0 0,.slice none 0 0,.int .i64 0,.slice none 0 0,.slice none 0 0,.slice none 0 0,.int .i64 0,.int .i64 0,.int .i64 11] rfl rfl (Blk.there (t:=37) (cs:=#[.slice none 0 0,.slice none 0 0,.slice none 0 0,.int .i64 0,.slice none 0 0,.slice none 0 0,.slice none 0 0,.int .i64 0,.int .i64 0,.int .i64 0]) QR.out) (by kernel_rfl) (all_oneCell_toArray (cs:=[.slice none 0 0,.slice none 0 0,.slice none 0 0,.int .i64 0,.slice none 0 0,.slice none 0 0,.slice none 0 0,.int .i64 0,.int .i64 0,.int .i64 11]) (by simp [Value.oneCell'])) ?_)
        exact bodyPost_ret (v:=.agg #[.slice none 0 0,.slice none 0 0,.slice none 0 0,.int .i64 0,.slice none 0 0,.slice none 0 0,.slice none 0 0,.int .i64 0,.int .i64 0,.int .i64 11]) (results_blk Tryz.results7 rfl (Blk.setAll (t:=37) (cs:=#[.slice none 0 0,.slice none 0 0,.slice none 0 0,.int .i64 0,.slice none 0 0,.slice none 0 0,.slice none 0 0,.int .i64 0,.int .i64 0,.int .i64 0]) (vs:=#[.slice none 0 0,.slice none 0 0,.slice none 0 0,.int .i64 0,.slice none 0 0,.slice none 0 0,.slice none 0 0,.int .i64 0,.int .i64 0,.int .i64 11]) QR.out rfl) Tryz.underlying37 rfl (by kernel_rfl)) rfl ⟨_,[],rfl,by rw [sub_label T.out U.out HE.out];exact own_ill _ _ (by unfold I64;decide),fun b hb=>(by cases hb),setCells_ext HB.out _ _ _ X.out⟩
       case inr.inr.inl =>
        have HNB:Hid (noLabelS y a x=false):=Lib.hid (by rw [noLabelS,manyOf,HZN.out,decide_eq_false hnb,hbe];simp)
        have HE:Hid (noTaskS y x=true):=Lib.hid (by rw [noTaskS,HTI.out,decide_eq_true hix];simp [haf])
        have HBE:=Lib.hid hbe
        have hafb:(x.after != 0)=true:=by simp [haf]
        clear haf hbe
        go_upto_region 6 with (go_at_call 23;(with_reducible refine (below_is (S:=S) (S':=S) x.under a _ _ _ (rel_Label HUL.out) (rel_Label HA.out) _ HBE.out).mono ?_);rintro e wb ⟨rfl,hxb⟩;replace X:=Lib.hid (X.out.trans hxb);replace QA:=Lib.hid (QA.out.ext hxb);replace QB:=Lib.hid (QB.out.ext hxb);replace QC:=Lib.hid (QC.out.ext hxb);replace QR:=Lib.hid (QR.out.ext hxb);clear hxb qa qb qc;have qa:=QA.out.cell;have qb:=QB.out.cell;have qc:=QC.out.cell)
        go_upto_region 7 with (go_at_call 24;(with_reducible refine (taskAt_any (S:=S) y.tasks x.under x.after _ _ (HT5.out.ext X.out)).mono ?_);rintro e wt ⟨rfl,hxt⟩;rw [HTI.out];replace X:=Lib.hid (X.out.trans hxt);replace QA:=Lib.hid (QA.out.ext hxt);replace QB:=Lib.hid (QB.out.ext hxt);replace QC:=Lib.hid (QC.out.ext hxt);replace QR:=Lib.hid (QR.out.ext hxt);clear hxt qa qb qc;have qa:=QA.out.cell;have qb:=QB.out.cell;have qc:=QC.out.cell)
        clear hafb qa qb qc hix
        go_wp2_with (refine wpList_store_mid rfl 37 _ _ rfl (B+1+1+1) 0 #[.slice none 0 0,.slice none 0 0,.slice none 0 0,.int .i64 0,.slice none 0 0,.slice none 0 0,.slice none 0 0,.int .i64 0,.int .i64 0,.int .i64 6] rfl rfl (Blk.there (t:=37) (cs:=#[.slice none 0 0,.slice none 0 0,.slice none 0 0,.int .i64 0,.slice none 0 0,.slice none 0 0,.slice none 0 0,.int .i64 0,.int .i64 0,.int .i64 0]) QR.out) (by kernel_rfl) (all_oneCell_toArray (cs:=[.slice none 0 0,.slice none 0 0,.slice none 0 0,.int .i64 0,.slice none 0 0,.slice none 0 0,.slice none 0 0,.int .i64 0,.int .i64 0,.int .i64 6]) (by simp [Value.oneCell'])) ?_)
        exact bodyPost_ret (v:=.agg #[.slice none 0 0,.slice none 0 0,.slice none 0 0,.int .i64 0,.slice none 0 0,.slice none 0 0,.slice none 0 0,.int .i64 0,.int .i64 0,.int .i64 6]) (results_blk Tryz.results7 rfl (Blk.setAll (t:=37) (cs:=#[.slice none 0 0,.slice none 0 0,.slice none 0 0,.int .i64 0,.slice none 0 0,.slice none 0 0,.slice none 0 0,.int .i64 0,.int .i64 0,.int .i64 0]) (vs:=#[.slice none 0 0,.slice none 0 0,.slice none 0 0,.int .i64 0,.slice none 0 0,.slice none 0 0,.slice none 0 0,.int .i64 0,.int .i64 0,.int .i64 6]) QR.out rfl) Tryz.underlying37 rfl (by kernel_rfl)) rfl ⟨_,[],rfl,by rw [sub_none T.out U.out HNB.out HE.out];exact own_ill _ _ (by unfold I64;decide),fun b hb=>(by cases hb),setCells_ext HB.out _ _ _ X.out⟩
       case' inr.inr.inr =>
        have HNB:Hid (noLabelS y a x=false):=Lib.hid (by rw [noLabelS,manyOf,HZN.out,decide_eq_false hnb,hbe];simp)
        have HNT:Hid (noTaskS y x=false):=Lib.hid (by rw [noTaskS,HTI.out,decide_eq_false hix];simp)
        have HBE:=Lib.hid hbe
        have hafb:(x.after != 0)=true:=by simp [haf]
        clear haf hbe
        go_upto_region 6 with (go_at_call 23;(with_reducible refine (below_is (S:=S) (S':=S) x.under a _ _ _ (rel_Label HUL.out) (rel_Label HA.out) _ HBE.out).mono ?_);rintro e wb ⟨rfl,hxb⟩;replace X:=Lib.hid (X.out.trans hxb);replace QA:=Lib.hid (QA.out.ext hxb);replace QB:=Lib.hid (QB.out.ext hxb);replace QC:=Lib.hid (QC.out.ext hxb);replace QR:=Lib.hid (QR.out.ext hxb);clear hxb qa qb qc;have qa:=QA.out.cell;have qb:=QB.out.cell;have qc:=QC.out.cell)
        go_upto_region 8 with (go_at_call 24;(with_reducible refine (taskAt_any (S:=S) y.tasks x.under x.after _ _ (HT5.out.ext X.out)).mono ?_);rintro e wt ⟨rfl,hxt⟩;rw [HTI.out];replace X:=Lib.hid (X.out.trans hxt);replace QA:=Lib.hid (QA.out.ext hxt);replace QB:=Lib.hid (QB.out.ext hxt);replace QC:=Lib.hid (QC.out.ext hxt);replace QR:=Lib.hid (QR.out.ext hxt);clear hxt qa qb qc;have qa:=QA.out.cell;have qb:=QB.out.cell;have qc:=QC.out.cell)
        clear hafb hix
       all_goals
        exact sub_mid (S:=S) y a x w A1 c1 A2 c2 A3 c3 A4 c4 A5 c5 A6 c6 n0 B m5 hc1 hc4 HF HYR HCR HT5 K5 HX HA HM T U HNB HNT HB X QA QB QC QR (by assumption)
end Go.Proofs.YtoblacfjmcpbmaaGreat
