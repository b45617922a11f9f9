/- The reader's count, label and task. Printed by wip/rdt.py. -/
import Derived.Test.YtlonjlaecaemgaaRdM
import Derived.Test.YtlonjlaecaemgaaNodeC
import Derived.Deep.RegionLaw
set_option maxHeartbeats 16000000
namespace Go.Proofs.Ytlonjlaecaemgaa
open Go.RowKit
attribute [local irreducible] wpQuiet
theorem kept_trans2 {F G:List Nat} {a b c:World} (h:Kept F a b) (k:Kept G b c) (hs:∀ x,x < a.heap.size→x∈G→x∈F):Kept F a c :=
 ⟨k.os.trans h.os,k.tape.trans h.tape,k.output.trans h.output,Nat.le_trans h.size k.size,fun x hx hn=>(k.block x (Nat.lt_of_lt_of_le hx h.size) (fun hm=>hn (hs x hx hm))).trans (h.block x hx hn)⟩
def rdCount (t:ByteArray) (a c most:Int):Int × Int × Int:=if (rdNum t a c).2.2=0∧isB (rdNum t a c).1 0 most=false then (0,(rdNum t a c).2.1,3) else rdNum t a c
theorem rdCount_fit {t:ByteArray} {a c most:Int} (ht:Str t) (h:RFit a c):I64 (rdCount t a c most).1∧RFit (rdCount t a c most).2.1 (rdCount t a c most).2.2:=by
 obtain ⟨h1,h2,h3⟩:=rdNum_fit (a:=a) (c:=c) ht h
 unfold rdCount
 split
 · exact ⟨by unfold I64;simp,h2,by unfold I64;simp⟩
 · exact ⟨h1,h2,h3⟩
def rdNums (t:ByteArray):Nat→Int→Int→List Int × Int × Int
 | 0,a,c=>([],a,c)
 | k+1,a,c=>((rdNums t k a c).1 ++ [(rdNum t (rdNums t k a c).2.1 (rdNums t k a c).2.2).1],(rdNum t (rdNums t k a c).2.1 (rdNums t k a c).2.2).2.1,(rdNum t (rdNums t k a c).2.1 (rdNums t k a c).2.2).2.2)
theorem rdNums_fit {t:ByteArray} {a c:Int} (ht:Str t) (h:RFit a c):∀ k,(∀ x∈(rdNums t k a c).1,I64 x)∧(rdNums t k a c).1.length=k∧RFit (rdNums t k a c).2.1 (rdNums t k a c).2.2
 | 0=>⟨fun x hx=>by simp [rdNums] at hx,rfl,h⟩
 | k+1=>by
   obtain ⟨h1,h2,h3⟩:=rdNums_fit ht h k
   obtain ⟨g1,g2⟩:=rdNum_fit (a:=(rdNums t k a c).2.1) (c:=(rdNums t k a c).2.2) ht h3
   refine ⟨fun x hx=>?_,by simp [rdNums,h2],g2⟩
   rw [rdNums,List.mem_append,List.mem_singleton] at hx
   rcases hx with hx | rfl
   · exact h1 x hx
   · exact g1
theorem rdCount_any (t:ByteArray) (a c most:Int) (B:Nat) (w:World) (hb:Blk w B 54 #[.string t,.int .i64 a,.int .i64 c]) (ht:Str t) (hf:RFit a c) :
 Calls Try.prog 68 #[.pointer (some ⟨B,0,none⟩),.int .i64 most] w fun e w'=>e=.returned (.int .i64 (rdCount t a c most).1)∧Blk w' B 54 #[.string t,.int .i64 (rdCount t a c most).2.1,.int .i64 (rdCount t a c most).2.2]∧Kept [B] w w':=by
 have HB:=Lib.hid hb
 have HT:=Lib.hid ht
 have HF:=Lib.hid hf
 clear hb ht hf
 obtain ⟨r,hr⟩:∃ r,r=rdNum t a c:=⟨_,rfl⟩
 have HR:=Lib.hid hr
 have HE:Hid (rdCount t a c most=if r.2.2=0∧isB r.1 0 most=false then (0,r.2.1,3) else r):=Lib.hid (by rw [rdCount,← hr])
 clear hr
 go_enter Try.func68,Try.ntmps68
 go_upto_region 2 with (go_at_call 66;(with_reducible refine (rdNum_any t a c B _ HB.out HT.out HF.out).mono ?_);rintro e w1 ⟨rfl,hb1,hk1⟩;rw [← HR.out] at hb1 ⊢;have HB1:=Lib.hid hb1;have HK1:=Lib.hid hk1;clear hb1 hk1)
 have c2:w1.cell? ⟨B,2,none⟩=some (.int .i64 r.2.2):=HB1.out.cell 2
 have q2:=HB1.out.frozen 2
 by_cases h0:r.2.2=0
 · cases hw:isB r.1 0 most with
   | false =>
     have HV:Hid (rdCount t a c most=(0,r.2.1,3)):=Lib.hid (by rw [HE.out,if_pos ⟨h0,hw⟩])
     rw [h0] at c2
     go_wp2_with (go_at_call 37;refine (within_any _ _ _ _).mono ?_;rintro e w' ⟨rfl,rfl⟩)
     go_ret
     rw [HV.out]
     exact ⟨rfl,by simpa using HB1.out.set_ 2 (.int .i64 3),HK1.out.trans (Kept.setCell (p:=⟨B,2,none⟩) (Kept.refl _ _) (List.mem_singleton.2 rfl) _)⟩
   | true =>
     have HV:Hid (rdCount t a c most=r):=Lib.hid (by rw [HE.out,if_neg (by simp [hw])])
     rw [h0] at c2
     go_wp2_with (go_at_call 37;refine (within_any _ _ _ _).mono ?_;rintro e w' ⟨rfl,rfl⟩)
     go_ret
     rw [HV.out]
     exact ⟨rfl,HB1.out,HK1.out⟩
 · have HV:Hid (rdCount t a c most=r):=Lib.hid (by rw [HE.out,if_neg (fun h=>h0 h.1)])
   go_wp2_with fail
   go_ret
   rw [HV.out]
   exact ⟨rfl,HB1.out,HK1.out⟩
theorem rdLabel_any (t:ByteArray) (a c:Int) (B:Nat) (w:World) (r1 r2:Int × Int × Int) (hr1:r1=rdNum t a c) (hr2:r2=rdNum t r1.2.1 r1.2.2) (hb:Blk w B 54 #[.string t,.int .i64 a,.int .i64 c]) (ht:Str t) (hf:RFit a c) :
 Calls Try.prog 65 #[.pointer (some ⟨B,0,none⟩)] w fun e w'=>e=.returned (.agg #[.int .i64 r1.1,.int .i64 r2.1])∧Blk w' B 54 #[.string t,.int .i64 r2.2.1,.int .i64 r2.2.2]∧Kept [B] w w':=by
 have HB:=Lib.hid hb
 have HT:=Lib.hid ht
 have HF:=Lib.hid hf
 have HF1:Hid (RFit r1.2.1 r1.2.2):=Lib.hid (by rw [hr1];exact (rdNum_fit ht hf).2)
 have HR1:=Lib.hid hr1
 have HR2:=Lib.hid hr2
 clear hb ht hf hr1 hr2
 go_enter Try.func65,Try.ntmps65
 go_upto_region 1 with (fail)
 obtain ⟨W,R,hW,hB,hBl,hx0,b0⟩:∃ W B,W=w.alloc (.cells #[.int .i64 0,.int .i64 0] 24)∧B=w.heap.size∧w.heap.size≤B∧Ext w W∧Blk W B 24 #[.int .i64 0,.int .i64 0]:=⟨_,_,rfl,rfl,Nat.le_refl _,(Ext.refl w).alloc _,Blk.new _ _ _⟩
 rw [← hW,← hB]
 have HRB:=Lib.hid hBl
 have R0:=Lib.hid b0
 have X0:=Lib.hid hx0
 have HB0:=Lib.hid (HB.out.ext hx0)
 have HRN:Hid (R∉[B]):=Lib.hid (by have:=HB.out.lt;simp;omega)
 clear hW hB hx0 b0 hBl
 go_upto_region 2 with (go_at_call 66;(with_reducible refine (rdNum_any t a c B _ HB0.out HT.out HF.out).mono ?_);rintro e w1 ⟨rfl,hb1,hk1⟩;rw [← HR1.out] at hb1 ⊢;have HB1:=Lib.hid hb1;have HK1:=Lib.hid hk1;clear hb1 hk1)
 go_wp2_with (first | (go_at_call 66;(with_reducible refine (rdNum_any t r1.2.1 r1.2.2 B _ HB1.out HT.out HF1.out).mono ?_);rintro e w2 ⟨rfl,hb2,hk2⟩;rw [← HR2.out] at hb2 ⊢;have HB2:=Lib.hid hb2;have HK2:=Lib.hid (HK1.out.trans hk2);have RR:=Lib.hid (((HK1.out.trans hk2).block R R0.out.lt HRN.out).trans R0.out);clear hb2 hk2) | (refine wpList_store_mid rfl 24 _ _ rfl R 0 #[.int .i64 r1.1,.int .i64 r2.1] rfl rfl (Blk.there (t:=24) (cs:=#[.int .i64 0,.int .i64 0]) RR.out) (by kernel_rfl) (all_oneCell_toArray (cs:=[.int .i64 r1.1,.int .i64 r2.1]) (by simp [Value.oneCell'])) ?_))
 have HX:Hid (Kept [B] w (w2.setCells R 0 [.int .i64 r1.1,.int .i64 r2.1])):=Lib.hid (by have h0:Kept [B,R] w (w2.setCells R 0 [.int .i64 r1.1,.int .i64 r2.1]):=Kept.setCells (by simp) _ _ _ (((Kept.of_ext X0.out).trans HK2.out).sub (fun b _ hb=>by simp at hb;simp [hb]));exact h0.sub (fun b hlt hb=>by simp at hb;rcases hb with rfl | rfl;simp;have:=HRB.out;omega))
 exact bodyPost_ret (v:=.agg #[.int .i64 r1.1,.int .i64 r2.1]) (results_blk Try.results65 rfl (Blk.setAll (t:=24) (cs:=#[.int .i64 0,.int .i64 0]) (vs:=#[.int .i64 r1.1,.int .i64 r2.1]) RR.out rfl) Try.underlying24 rfl (by kernel_rfl)) rfl ⟨rfl,((Kept.setCells (F:=[R]) (by simp) _ _ _ (Kept.refl _ _)).block B HB2.out.lt (fun hb=>HRN.out (by simp at hb ⊢;exact hb.symm))).trans HB2.out,HX.out⟩
def rdTask (t:ByteArray) (a c:Int):Task × Int × Int :=
 let r1:=rdNum t a c
 let r2:=rdNum t r1.2.1 r1.2.2
 let r3:=rdNum t r2.2.1 r2.2.2
 let r4:=rdStr t r3.2.1 r3.2.2
 let r5:=rdNum t r4.2.1 r4.2.2
 let r6:=rdNum t r5.2.1 r5.2.2
 let r7:=rdNum t r6.2.1 r6.2.2
 let r8:=rdNum t r7.2.1 r7.2.2
 let r9:=rdNum t r8.2.1 r8.2.2
 let r10:=rdNum t r9.2.1 r9.2.2
 let r11:=rdNum t r10.2.1 r10.2.2
 let r12:=rdNum t r11.2.1 r11.2.2
 let r13:=rdNum t r12.2.1 r12.2.2
 let r14:=rdCount t r13.2.1 r13.2.2 6
 let p:=rdNums t r14.1.toNat r14.2.1 r14.2.2
 (⟨⟨r1.1,r2.1⟩,r3.1,r4.1,r5.1,r6.1,r7.1,⟨r8.1,r9.1⟩,r10.1,r11.1,r12.1,r13.1,p.1⟩,p.2)
theorem numGo_err (t:ByteArray) (a:Nat):∀ f k u,(numGo t a f k u).code≠0→(numGo t a f k u).num=0
 | 0,k,u,_=>rfl
 | f+1,k,u,h=>by
   unfold numGo at h ⊢
   split
   · rfl
   rename_i h1
   rw [if_neg h1] at h
   split
   · rfl
   rename_i h2
   rw [if_neg h2] at h
   split
   · rename_i h3
     rw [if_pos h3] at h
     split
     · rfl
     · rename_i h4
       rw [if_neg h4] at h
       exact absurd rfl h
   · rename_i h3
     rw [if_neg h3] at h
     exact numGo_err t a f _ _ h
theorem rdNum_err (t:ByteArray) (a c:Int) (h:(rdNum t a c).2.2≠0):(rdNum t a c).1=0:=by
 unfold rdNum at h ⊢
 split
 · rename_i hc
   rw [if_pos hc] at h
   simp only at h ⊢
   unfold getNum at h ⊢
   split
   · rfl
   rename_i h1
   rw [if_neg h1] at h
   split
   · rfl
   rename_i h2
   rw [if_neg h2] at h
   exact numGo_err t _ _ _ _ h
 · rfl
theorem rdCount_le (t:ByteArray) (a c:Int):0≤(rdCount t a c 6).1∧(rdCount t a c 6).1≤6:=by
 unfold rdCount
 split
 · simp
 · rename_i h
   by_cases h0:(rdNum t a c).2.2=0
   · cases hw:isB (rdNum t a c).1 0 6 with
     | false=>exact absurd ⟨h0,hw⟩ h
     | true=>exact isB_true hw
   · rw [rdNum_err t a c h0];decide
def RetTask (t:ByteArray) (r:Task × Int × Int) (B:Nat) (w:World) (e:Ending) (w':World):Prop:=∃ cs F,e=.returned (.agg cs.toArray)∧OTask.own w' cs r.1 F∧(∀ b∈F,w.heap.size≤b)∧Blk w' B 54 #[.string t,.int .i64 r.2.1,.int .i64 r.2.2]∧Kept [B] w w'
set_option maxRecDepth 100000 in
theorem rdTask_any (t:ByteArray) (a c:Int) (B:Nat) (w:World) (hb:Blk w B 54 #[.string t,.int .i64 a,.int .i64 c]) (ht:Str t) (hf:RFit a c) :
 Calls Try.prog 29 #[.pointer (some ⟨B,0,none⟩)] w (RetTask t (rdTask t a c) B w):=by
 obtain ⟨r1,hr1⟩:∃ r,r=rdNum t a c:=⟨_,rfl⟩
 obtain ⟨r2,hr2⟩:∃ r,r=rdNum t r1.2.1 r1.2.2:=⟨_,rfl⟩
 obtain ⟨r3,hr3⟩:∃ r,r=rdNum t r2.2.1 r2.2.2:=⟨_,rfl⟩
 obtain ⟨r4,hr4⟩:∃ r,r=rdStr t r3.2.1 r3.2.2:=⟨_,rfl⟩
 obtain ⟨r5,hr5⟩:∃ r,r=rdNum t r4.2.1 r4.2.2:=⟨_,rfl⟩
 obtain ⟨r6,hr6⟩:∃ r,r=rdNum t r5.2.1 r5.2.2:=⟨_,rfl⟩
 obtain ⟨r7,hr7⟩:∃ r,r=rdNum t r6.2.1 r6.2.2:=⟨_,rfl⟩
 obtain ⟨r8,hr8⟩:∃ r,r=rdNum t r7.2.1 r7.2.2:=⟨_,rfl⟩
 obtain ⟨r9,hr9⟩:∃ r,r=rdNum t r8.2.1 r8.2.2:=⟨_,rfl⟩
 obtain ⟨r10,hr10⟩:∃ r,r=rdNum t r9.2.1 r9.2.2:=⟨_,rfl⟩
 obtain ⟨r11,hr11⟩:∃ r,r=rdNum t r10.2.1 r10.2.2:=⟨_,rfl⟩
 obtain ⟨r12,hr12⟩:∃ r,r=rdNum t r11.2.1 r11.2.2:=⟨_,rfl⟩
 obtain ⟨r13,hr13⟩:∃ r,r=rdNum t r12.2.1 r12.2.2:=⟨_,rfl⟩
 obtain ⟨r14,hr14⟩:∃ r,r=rdCount t r13.2.1 r13.2.2 6:=⟨_,rfl⟩
 have HE:Hid (rdTask t a c=(⟨⟨r1.1,r2.1⟩,r3.1,r4.1,r5.1,r6.1,r7.1,⟨r8.1,r9.1⟩,r10.1,r11.1,r12.1,r13.1,(rdNums t r14.1.toNat r14.2.1 r14.2.2).1⟩,(rdNums t r14.1.toNat r14.2.1 r14.2.2).2)):=Lib.hid (by rw [hr14,hr13,hr12,hr11,hr10,hr9,hr8,hr7,hr6,hr5,hr4,hr3,hr2,hr1];rfl)
 have HB:=Lib.hid hb
 have HT:=Lib.hid ht
 have G0:=Lib.hid hf
 have HR1:=Lib.hid hr1
 have G1:Hid (I64 r1.1∧RFit r1.2.1 r1.2.2):=Lib.hid (by rw [hr1];exact rdNum_fit HT.out G0.out)
 have HR2:=Lib.hid hr2
 have G2:Hid (I64 r2.1∧RFit r2.2.1 r2.2.2):=Lib.hid (by rw [hr2];exact rdNum_fit HT.out G1.out.2)
 have HR3:=Lib.hid hr3
 have G3:Hid (I64 r3.1∧RFit r3.2.1 r3.2.2):=Lib.hid (by rw [hr3];exact rdNum_fit HT.out G2.out.2)
 have HR4:=Lib.hid hr4
 have G4:Hid (Str r4.1∧RFit r4.2.1 r4.2.2):=Lib.hid (by rw [hr4];exact rdStr_fit G3.out.2)
 have HR5:=Lib.hid hr5
 have G5:Hid (I64 r5.1∧RFit r5.2.1 r5.2.2):=Lib.hid (by rw [hr5];exact rdNum_fit HT.out G4.out.2)
 have HR6:=Lib.hid hr6
 have G6:Hid (I64 r6.1∧RFit r6.2.1 r6.2.2):=Lib.hid (by rw [hr6];exact rdNum_fit HT.out G5.out.2)
 have HR7:=Lib.hid hr7
 have G7:Hid (I64 r7.1∧RFit r7.2.1 r7.2.2):=Lib.hid (by rw [hr7];exact rdNum_fit HT.out G6.out.2)
 have HR8:=Lib.hid hr8
 have G8:Hid (I64 r8.1∧RFit r8.2.1 r8.2.2):=Lib.hid (by rw [hr8];exact rdNum_fit HT.out G7.out.2)
 have HR9:=Lib.hid hr9
 have G9:Hid (I64 r9.1∧RFit r9.2.1 r9.2.2):=Lib.hid (by rw [hr9];exact rdNum_fit HT.out G8.out.2)
 have HR10:=Lib.hid hr10
 have G10:Hid (I64 r10.1∧RFit r10.2.1 r10.2.2):=Lib.hid (by rw [hr10];exact rdNum_fit HT.out G9.out.2)
 have HR11:=Lib.hid hr11
 have G11:Hid (I64 r11.1∧RFit r11.2.1 r11.2.2):=Lib.hid (by rw [hr11];exact rdNum_fit HT.out G10.out.2)
 have HR12:=Lib.hid hr12
 have G12:Hid (I64 r12.1∧RFit r12.2.1 r12.2.2):=Lib.hid (by rw [hr12];exact rdNum_fit HT.out G11.out.2)
 have HR13:=Lib.hid hr13
 have G13:Hid (I64 r13.1∧RFit r13.2.1 r13.2.2):=Lib.hid (by rw [hr13];exact rdNum_fit HT.out G12.out.2)
 have HR14:=Lib.hid hr14
 have G14:Hid (I64 r14.1∧RFit r14.2.1 r14.2.2):=Lib.hid (by rw [hr14];exact rdCount_fit HT.out G13.out.2)
 clear hb ht hf hr1 hr2 hr3 hr4 hr5 hr6 hr7 hr8 hr9 hr10 hr11 hr12 hr13 hr14
 go_enter Try.func29,Try.ntmps29
 go_upto_region 1 with (fail)
 obtain ⟨W,R,hW,hB,hBl,hx0,b0⟩:∃ W B,W=w.alloc (.cells #[.int .i64 0,.int .i64 0,.int .i64 0,.string ⟨#[]⟩,.int .i64 0,.int .i64 0,.int .i64 0,.int .i64 0,.int .i64 0,.int .i64 0,.int .i64 0,.int .i64 0,.int .i64 0,.slice none 0 0] 27)∧B=w.heap.size∧w.heap.size≤B∧Ext w W∧Blk W B 27 #[.int .i64 0,.int .i64 0,.int .i64 0,.string ⟨#[]⟩,.int .i64 0,.int .i64 0,.int .i64 0,.int .i64 0,.int .i64 0,.int .i64 0,.int .i64 0,.int .i64 0,.int .i64 0,.slice none 0 0]:=⟨_,_,rfl,rfl,Nat.le_refl _,(Ext.refl w).alloc _,Blk.new _ _ _⟩
 rw [← hW,← hB]
 have HRB:=Lib.hid hBl
 have R0:=Lib.hid b0
 have X0:=Lib.hid hx0
 have B0:=Lib.hid (HB.out.ext hx0)
 have HRN:Hid (R≠B):=Lib.hid (by have:=HB.out.lt;omega)
 clear hW hB hx0 b0 hBl
 have K_W:Hid (Kept [B] W W):=Lib.hid (Kept.refl _ _)
 go_upto_region 2 with (first | (go_at_call 65;(with_reducible refine (rdLabel_any t a c B _ r1 r2 HR1.out HR2.out B0.out HT.out G0.out).mono ?_);rintro e uV1_1 ⟨rfl,hb1,hk1⟩;have B_uV1_1:=Lib.hid hb1;have K_uV1_1:=Lib.hid (K_W.out.trans hk1);clear hb1 hk1) | (go_at_call 66;(with_reducible refine (rdNum_any t r2.2.1 r2.2.2 B _ B_uV1_1.out HT.out G2.out.2).mono ?_);rintro e uV1_2 ⟨rfl,hb1,hk1⟩;rw [← HR3.out] at hb1 ⊢;have B_uV1_2:=Lib.hid hb1;have K_uV1_2:=Lib.hid (K_uV1_1.out.trans hk1);clear hb1 hk1))
 obtain ⟨V1,N,hW,hN,hx,n⟩:∃ V N,V=uV1_2.alloc (.cells #[.int .i64 r1.1,.int .i64 r2.1,.int .i64 r3.1,.string ⟨#[]⟩,.int .i64 0,.int .i64 0,.int .i64 0,.int .i64 0,.int .i64 0,.int .i64 0,.int .i64 0,.int .i64 0,.int .i64 0,.slice none 0 0] 27)∧N=uV1_2.heap.size∧Ext uV1_2 V∧Blk V N 27 #[.int .i64 r1.1,.int .i64 r2.1,.int .i64 r3.1,.string ⟨#[]⟩,.int .i64 0,.int .i64 0,.int .i64 0,.int .i64 0,.int .i64 0,.int .i64 0,.int .i64 0,.int .i64 0,.int .i64 0,.slice none 0 0]:=⟨_,_,rfl,rfl,(Ext.refl _).alloc _,Blk.new _ _ _⟩
 rw [← hW,← hN]
 have T_V1:=Lib.hid n
 have B_V1:=Lib.hid (B_uV1_2.out.ext hx)
 have HNB:Hid (N∉[B]):=Lib.hid (by have:=B_uV1_2.out.lt;simp;omega)
 have HNR:Hid (R < N):=Lib.hid (by have h1:=R0.out.lt;have h2:=K_uV1_2.out.size;omega)
 have C_V1:Hid (Kept [B,N] W V1):=Lib.hid ((K_uV1_2.out.trans (Kept.of_ext hx)).sub (fun b _ hb=>by simp at hb;simp [hb]))
 clear hW hN hx n
 have K_V1:Hid (Kept [B] V1 V1):=Lib.hid (Kept.refl _ _)
 go_upto_region 3 with (first | (go_at_call 67;(with_reducible refine (rdStr_any t r3.2.1 r3.2.2 B _ B_V1.out HT.out G3.out.2).mono ?_);rintro e uV2_1 ⟨rfl,hb1,hk1⟩;rw [← HR4.out] at hb1 ⊢;have B_uV2_1:=Lib.hid hb1;have K_uV2_1:=Lib.hid (K_V1.out.trans hk1);clear hb1 hk1;have T_uV2_1:Hid (Blk uV2_1 N 27 #[.int .i64 r1.1,.int .i64 r2.1,.int .i64 r3.1,.string ⟨#[]⟩,.int .i64 0,.int .i64 0,.int .i64 0,.int .i64 0,.int .i64 0,.int .i64 0,.int .i64 0,.int .i64 0,.int .i64 0,.slice none 0 0]):=Lib.hid ((K_uV2_1.out.block N T_V1.out.lt HNB.out).trans T_V1.out);have d3:uV2_1.cell? ⟨N,3,none⟩=some (.string ⟨#[]⟩):=T_uV2_1.out.cell 3;have e3:=T_uV2_1.out.frozen 3))
 obtain ⟨V2,hW⟩:∃ V,V=(uV2_1.setCell ⟨N,3,none⟩ (.string r4.1)):=⟨_,rfl⟩
 have T_V2:Hid (Blk V2 N 27 #[.int .i64 r1.1,.int .i64 r2.1,.int .i64 r3.1,.string r4.1,.int .i64 0,.int .i64 0,.int .i64 0,.int .i64 0,.int .i64 0,.int .i64 0,.int .i64 0,.int .i64 0,.int .i64 0,.slice none 0 0]):=Lib.hid (by rw [hW];simpa using (T_uV2_1.out.set_ 3 (.string r4.1)))
 have B_V2:Hid (Blk V2 B 54 #[.string t,.int .i64 r4.2.1,.int .i64 r4.2.2]):=Lib.hid (by rw [hW];exact (Blk.far (p:=⟨N,3,none⟩) B_uV2_1.out (fun h=>HNB.out (by simp;exact Eq.symm h)) _))
 have C_V2:Hid (Kept [B,N] W V2):=Lib.hid (by rw [hW];exact (Kept.setCell (p:=⟨N,3,none⟩) (C_V1.out.trans (K_uV2_1.out.sub (fun b _ hb=>by simp at hb;simp [hb]))) (by simp) (.string r4.1)))
 rw [← hW]
 clear hW d3 e3
 have K_V2:Hid (Kept [B] V2 V2):=Lib.hid (Kept.refl _ _)
 go_upto_region 4 with (first | (go_at_call 66;(with_reducible refine (rdNum_any t r4.2.1 r4.2.2 B _ B_V2.out HT.out G4.out.2).mono ?_);rintro e uV3_1 ⟨rfl,hb1,hk1⟩;rw [← HR5.out] at hb1 ⊢;have B_uV3_1:=Lib.hid hb1;have K_uV3_1:=Lib.hid (K_V2.out.trans hk1);clear hb1 hk1) | (go_at_call 66;(with_reducible refine (rdNum_any t r5.2.1 r5.2.2 B _ B_uV3_1.out HT.out G5.out.2).mono ?_);rintro e uV3_2 ⟨rfl,hb1,hk1⟩;rw [← HR6.out] at hb1 ⊢;have B_uV3_2:=Lib.hid hb1;have K_uV3_2:=Lib.hid (K_uV3_1.out.trans hk1);clear hb1 hk1) | (go_at_call 66;(with_reducible refine (rdNum_any t r6.2.1 r6.2.2 B _ B_uV3_2.out HT.out G6.out.2).mono ?_);rintro e uV3_3 ⟨rfl,hb1,hk1⟩;rw [← HR7.out] at hb1 ⊢;have B_uV3_3:=Lib.hid hb1;have K_uV3_3:=Lib.hid (K_uV3_2.out.trans hk1);clear hb1 hk1;have T_uV3_3:Hid (Blk uV3_3 N 27 #[.int .i64 r1.1,.int .i64 r2.1,.int .i64 r3.1,.string r4.1,.int .i64 0,.int .i64 0,.int .i64 0,.int .i64 0,.int .i64 0,.int .i64 0,.int .i64 0,.int .i64 0,.int .i64 0,.slice none 0 0]):=Lib.hid ((K_uV3_3.out.block N T_V2.out.lt HNB.out).trans T_V2.out);have d4:uV3_3.cell? ⟨N,4,none⟩=some (.int .i64 0):=T_uV3_3.out.cell 4;have e4:=T_uV3_3.out.frozen 4;have d5:uV3_3.cell? ⟨N,5,none⟩=some (.int .i64 0):=T_uV3_3.out.cell 5;have e5:=T_uV3_3.out.frozen 5;have d6:uV3_3.cell? ⟨N,6,none⟩=some (.int .i64 0):=T_uV3_3.out.cell 6;have e6:=T_uV3_3.out.frozen 6))
 obtain ⟨V3,hW⟩:∃ V,V=(((uV3_3.setCell ⟨N,4,none⟩ (.int .i64 r5.1)).setCell ⟨N,5,none⟩ (.int .i64 r6.1)).setCell ⟨N,6,none⟩ (.int .i64 r7.1)):=⟨_,rfl⟩
 have T_V3:Hid (Blk V3 N 27 #[.int .i64 r1.1,.int .i64 r2.1,.int .i64 r3.1,.string r4.1,.int .i64 r5.1,.int .i64 r6.1,.int .i64 r7.1,.int .i64 0,.int .i64 0,.int .i64 0,.int .i64 0,.int .i64 0,.int .i64 0,.slice none 0 0]):=Lib.hid (by rw [hW];simpa using (((T_uV3_3.out.set_ 4 (.int .i64 r5.1)).set_ 5 (.int .i64 r6.1)).set_ 6 (.int .i64 r7.1)))
 have B_V3:Hid (Blk V3 B 54 #[.string t,.int .i64 r7.2.1,.int .i64 r7.2.2]):=Lib.hid (by rw [hW];exact (Blk.far (p:=⟨N,6,none⟩) (Blk.far (p:=⟨N,5,none⟩) (Blk.far (p:=⟨N,4,none⟩) B_uV3_3.out (fun h=>HNB.out (by simp;exact Eq.symm h)) _) (fun h=>HNB.out (by simp;exact Eq.symm h)) _) (fun h=>HNB.out (by simp;exact Eq.symm h)) _))
 have C_V3:Hid (Kept [B,N] W V3):=Lib.hid (by rw [hW];exact (Kept.setCell (p:=⟨N,6,none⟩) (Kept.setCell (p:=⟨N,5,none⟩) (Kept.setCell (p:=⟨N,4,none⟩) (C_V2.out.trans (K_uV3_3.out.sub (fun b _ hb=>by simp at hb;simp [hb]))) (by simp) (.int .i64 r5.1)) (by simp) (.int .i64 r6.1)) (by simp) (.int .i64 r7.1)))
 rw [← hW]
 clear hW d4 e4 d5 e5 d6 e6
 have K_V3:Hid (Kept [B] V3 V3):=Lib.hid (Kept.refl _ _)
 go_upto_region 5 with (first | (go_at_call 65;(with_reducible refine (rdLabel_any t r7.2.1 r7.2.2 B _ r8 r9 HR8.out HR9.out B_V3.out HT.out G7.out.2).mono ?_);rintro e uV4_1 ⟨rfl,hb1,hk1⟩;have B_uV4_1:=Lib.hid hb1;have K_uV4_1:=Lib.hid (K_V3.out.trans hk1);clear hb1 hk1;have T_uV4_1:Hid (Blk uV4_1 N 27 #[.int .i64 r1.1,.int .i64 r2.1,.int .i64 r3.1,.string r4.1,.int .i64 r5.1,.int .i64 r6.1,.int .i64 r7.1,.int .i64 0,.int .i64 0,.int .i64 0,.int .i64 0,.int .i64 0,.int .i64 0,.slice none 0 0]):=Lib.hid ((K_uV4_1.out.block N T_V3.out.lt HNB.out).trans T_V3.out);have d7:uV4_1.cell? ⟨N,7,none⟩=some (.int .i64 0):=T_uV4_1.out.cell 7;have e7:=T_uV4_1.out.frozen 7;have d8:uV4_1.cell? ⟨N,8,none⟩=some (.int .i64 0):=T_uV4_1.out.cell 8;have e8:=T_uV4_1.out.frozen 8))
 obtain ⟨V4,hW⟩:∃ V,V=((uV4_1.setCell ⟨N,7,none⟩ (.int .i64 r8.1)).setCell ⟨N,8,none⟩ (.int .i64 r9.1)):=⟨_,rfl⟩
 have T_V4:Hid (Blk V4 N 27 #[.int .i64 r1.1,.int .i64 r2.1,.int .i64 r3.1,.string r4.1,.int .i64 r5.1,.int .i64 r6.1,.int .i64 r7.1,.int .i64 r8.1,.int .i64 r9.1,.int .i64 0,.int .i64 0,.int .i64 0,.int .i64 0,.slice none 0 0]):=Lib.hid (by rw [hW];simpa using ((T_uV4_1.out.set_ 7 (.int .i64 r8.1)).set_ 8 (.int .i64 r9.1)))
 have B_V4:Hid (Blk V4 B 54 #[.string t,.int .i64 r9.2.1,.int .i64 r9.2.2]):=Lib.hid (by rw [hW];exact (Blk.far (p:=⟨N,8,none⟩) (Blk.far (p:=⟨N,7,none⟩) B_uV4_1.out (fun h=>HNB.out (by simp;exact Eq.symm h)) _) (fun h=>HNB.out (by simp;exact Eq.symm h)) _))
 have C_V4:Hid (Kept [B,N] W V4):=Lib.hid (by rw [hW];exact (Kept.setCell (p:=⟨N,8,none⟩) (Kept.setCell (p:=⟨N,7,none⟩) (C_V3.out.trans (K_uV4_1.out.sub (fun b _ hb=>by simp at hb;simp [hb]))) (by simp) (.int .i64 r8.1)) (by simp) (.int .i64 r9.1)))
 rw [← hW]
 clear hW d7 e7 d8 e8
 have K_V4:Hid (Kept [B] V4 V4):=Lib.hid (Kept.refl _ _)
 go_upto_region 6 with (first | (go_at_call 66;(with_reducible refine (rdNum_any t r9.2.1 r9.2.2 B _ B_V4.out HT.out G9.out.2).mono ?_);rintro e uV5_1 ⟨rfl,hb1,hk1⟩;rw [← HR10.out] at hb1 ⊢;have B_uV5_1:=Lib.hid hb1;have K_uV5_1:=Lib.hid (K_V4.out.trans hk1);clear hb1 hk1) | (go_at_call 66;(with_reducible refine (rdNum_any t r10.2.1 r10.2.2 B _ B_uV5_1.out HT.out G10.out.2).mono ?_);rintro e uV5_2 ⟨rfl,hb1,hk1⟩;rw [← HR11.out] at hb1 ⊢;have B_uV5_2:=Lib.hid hb1;have K_uV5_2:=Lib.hid (K_uV5_1.out.trans hk1);clear hb1 hk1) | (go_at_call 66;(with_reducible refine (rdNum_any t r11.2.1 r11.2.2 B _ B_uV5_2.out HT.out G11.out.2).mono ?_);rintro e uV5_3 ⟨rfl,hb1,hk1⟩;rw [← HR12.out] at hb1 ⊢;have B_uV5_3:=Lib.hid hb1;have K_uV5_3:=Lib.hid (K_uV5_2.out.trans hk1);clear hb1 hk1) | (go_at_call 66;(with_reducible refine (rdNum_any t r12.2.1 r12.2.2 B _ B_uV5_3.out HT.out G12.out.2).mono ?_);rintro e uV5_4 ⟨rfl,hb1,hk1⟩;rw [← HR13.out] at hb1 ⊢;have B_uV5_4:=Lib.hid hb1;have K_uV5_4:=Lib.hid (K_uV5_3.out.trans hk1);clear hb1 hk1;have T_uV5_4:Hid (Blk uV5_4 N 27 #[.int .i64 r1.1,.int .i64 r2.1,.int .i64 r3.1,.string r4.1,.int .i64 r5.1,.int .i64 r6.1,.int .i64 r7.1,.int .i64 r8.1,.int .i64 r9.1,.int .i64 0,.int .i64 0,.int .i64 0,.int .i64 0,.slice none 0 0]):=Lib.hid ((K_uV5_4.out.block N T_V4.out.lt HNB.out).trans T_V4.out);have d9:uV5_4.cell? ⟨N,9,none⟩=some (.int .i64 0):=T_uV5_4.out.cell 9;have e9:=T_uV5_4.out.frozen 9;have d10:uV5_4.cell? ⟨N,10,none⟩=some (.int .i64 0):=T_uV5_4.out.cell 10;have e10:=T_uV5_4.out.frozen 10;have d11:uV5_4.cell? ⟨N,11,none⟩=some (.int .i64 0):=T_uV5_4.out.cell 11;have e11:=T_uV5_4.out.frozen 11;have d12:uV5_4.cell? ⟨N,12,none⟩=some (.int .i64 0):=T_uV5_4.out.cell 12;have e12:=T_uV5_4.out.frozen 12))
 obtain ⟨V5,hW⟩:∃ V,V=((((uV5_4.setCell ⟨N,9,none⟩ (.int .i64 r10.1)).setCell ⟨N,10,none⟩ (.int .i64 r11.1)).setCell ⟨N,11,none⟩ (.int .i64 r12.1)).setCell ⟨N,12,none⟩ (.int .i64 r13.1)):=⟨_,rfl⟩
 have T_V5:Hid (Blk V5 N 27 #[.int .i64 r1.1,.int .i64 r2.1,.int .i64 r3.1,.string r4.1,.int .i64 r5.1,.int .i64 r6.1,.int .i64 r7.1,.int .i64 r8.1,.int .i64 r9.1,.int .i64 r10.1,.int .i64 r11.1,.int .i64 r12.1,.int .i64 r13.1,.slice none 0 0]):=Lib.hid (by rw [hW];simpa using ((((T_uV5_4.out.set_ 9 (.int .i64 r10.1)).set_ 10 (.int .i64 r11.1)).set_ 11 (.int .i64 r12.1)).set_ 12 (.int .i64 r13.1)))
 have B_V5:Hid (Blk V5 B 54 #[.string t,.int .i64 r13.2.1,.int .i64 r13.2.2]):=Lib.hid (by rw [hW];exact (Blk.far (p:=⟨N,12,none⟩) (Blk.far (p:=⟨N,11,none⟩) (Blk.far (p:=⟨N,10,none⟩) (Blk.far (p:=⟨N,9,none⟩) B_uV5_4.out (fun h=>HNB.out (by simp;exact Eq.symm h)) _) (fun h=>HNB.out (by simp;exact Eq.symm h)) _) (fun h=>HNB.out (by simp;exact Eq.symm h)) _) (fun h=>HNB.out (by simp;exact Eq.symm h)) _))
 have C_V5:Hid (Kept [B,N] W V5):=Lib.hid (by rw [hW];exact (Kept.setCell (p:=⟨N,12,none⟩) (Kept.setCell (p:=⟨N,11,none⟩) (Kept.setCell (p:=⟨N,10,none⟩) (Kept.setCell (p:=⟨N,9,none⟩) (C_V4.out.trans (K_uV5_4.out.sub (fun b _ hb=>by simp at hb;simp [hb]))) (by simp) (.int .i64 r10.1)) (by simp) (.int .i64 r11.1)) (by simp) (.int .i64 r12.1)) (by simp) (.int .i64 r13.1)))
 rw [← hW]
 clear hW d9 e9 d10 e10 d11 e11 d12 e12
 have K_V5:Hid (Kept [B] V5 V5):=Lib.hid (Kept.refl _ _)
 go_wp2_with (go_at_call 68;(with_reducible refine (rdCount_any t r13.2.1 r13.2.2 6 B _ B_V5.out HT.out G13.out.2).mono ?_);rintro e U ⟨rfl,hb1,hk1⟩;rw [← HR14.out] at hb1 ⊢;have B_U:=Lib.hid hb1;have K_U:=Lib.hid (K_V5.out.trans hk1);clear hb1 hk1;have T_U:Hid (Blk U N 27 #[.int .i64 r1.1,.int .i64 r2.1,.int .i64 r3.1,.string r4.1,.int .i64 r5.1,.int .i64 r6.1,.int .i64 r7.1,.int .i64 r8.1,.int .i64 r9.1,.int .i64 r10.1,.int .i64 r11.1,.int .i64 r12.1,.int .i64 r13.1,.slice none 0 0]):=Lib.hid ((K_U.out.block N T_V5.out.lt HNB.out).trans T_V5.out))
 have C_U:Hid (Kept [B,N] W U):=Lib.hid (C_V5.out.trans (K_U.out.sub (fun b _ hb=>by simp at hb;simp [hb])))
 have HNU:Hid (N < U.heap.size):=Lib.hid T_U.out.lt
 have GN:=Lib.hid (fun k=>rdNums_fit HT.out G14.out.2 k)
 obtain ⟨P,hP⟩:∃ P:Nat→List Int × Int × Int,P=fun k=>rdNums t k r14.2.1 r14.2.2:=⟨_,rfl⟩
 have HP0:Hid (P 0=([],r14.2.1,r14.2.2)):=Lib.hid (by rw [hP];rfl)
 have HPS:Hid (∀ k,P (k+1)=((P k).1 ++ [(rdNum t (P k).2.1 (P k).2.2).1],(rdNum t (P k).2.1 (P k).2.2).2)):=Lib.hid (fun k=>by rw [hP];rfl)
 have HPF:Hid (∀ k,(∀ x∈(P k).1,I64 x)∧(P k).1.length=k∧RFit (P k).2.1 (P k).2.2):=Lib.hid (fun k=>by rw [hP];exact GN.out k)
 have HE2:Hid (rdTask t a c=(⟨⟨r1.1,r2.1⟩,r3.1,r4.1,r5.1,r6.1,r7.1,⟨r8.1,r9.1⟩,r10.1,r11.1,r12.1,r13.1,(P r14.1.toNat).1⟩,(P r14.1.toNat).2)):=Lib.hid (by rw [HE.out,hP])
 clear hP GN HE
 have G14i:0≤r14.1∧r14.1≤6:=by rw [HR14.out];exact rdCount_le _ _ _
 go_loopw [38] (fun i w'=>∃ (k:Nat) (v:Value) (F:List Nat),k≤r14.1.toNat∧i=.int .i64 k∧Blk w' N 27 #[.int .i64 r1.1,.int .i64 r2.1,.int .i64 r3.1,.string r4.1,.int .i64 r5.1,.int .i64 r6.1,.int .i64 r7.1,.int .i64 r8.1,.int .i64 r9.1,.int .i64 r10.1,.int .i64 r11.1,.int .i64 r12.1,.int .i64 r13.1,v]∧OwS OInt 2 w' v (P k).1 F∧(∀ b∈F,U.heap.size≤b)∧Blk w' B 54 #[.string t,.int .i64 (P k).2.1,.int .i64 (P k).2.2]∧Kept [B,N] W w'∧U.heap.size≤w'.heap.size) (fun i _=>r14.1.toNat - (intOf i).toNat)
 case atStart=>exact ⟨0,_,[],Nat.zero_le _,rfl,T_U.out,by rw [HP0.out];exact OwS.nil none,fun b hb=>(by cases hb),by rw [HP0.out];exact B_U.out,C_U.out,Nat.le_refl _⟩
 case round =>
  obtain ⟨k,v,F,hk1,rfl,tN,hown,hF,tB,hkp,hsz⟩:=hrel
  have HO:=Lib.hid hown
  have HF:=Lib.hid hF
  have TN:=Lib.hid tN
  have TB:=Lib.hid tB
  have CK:=Lib.hid hkp
  have HSZ:=Lib.hid hsz
  obtain ⟨A_v,c_v,rfl,-⟩:=hown.form
  have HNF:Hid (N∉F):=Lib.hid (fun h=>by have h1:=hF _ h;have h2:=HNU.out;omega)
  have HBF:Hid (B∉F):=Lib.hid (fun h=>by have h1:=hF _ h;have h2:=B_U.out.lt;omega)
  have FK:=Lib.hid (HPF.out k).2.2
  have FL:=Lib.hid (HPF.out k).2.1
  have HS:=Lib.hid (HPS.out k)
  have HX1:Hid (I64 (rdNum t (P k).2.1 (P k).2.2).1):=Lib.hid (rdNum_fit HT.out FK.out).1
  clear hown hF tN tB hkp hsz
  by_cases hlt:(k:Int) < r14.1
  · skip
    have n13:wr.cell? ⟨N,13,none⟩=some (.slice A_v (P k).1.length c_v):=TN.out.cell 13
    have TBd:Hid (Blk wr.drew B 54 #[.string t,.int .i64 (P k).2.1,.int .i64 (P k).2.2]):=Lib.hid TB.out
    go_wp2_with fail
    go_region_law (first | (go_simp;go_at_call 66;(with_reducible refine (rdNum_any t (P k).2.1 (P k).2.2 B _ TBd.out HT.out FK.out).mono ?_);rintro e w1 ⟨rfl,hb1,hk1⟩;have HB1:=Lib.hid hb1;have HK1:Hid (Kept [B] wr w1):=Lib.hid ((Kept.of_ext (Ext.refl wr).drew).trans hk1);have n13b:w1.cell? ⟨N,13,none⟩=some (.slice A_v (P k).1.length c_v):=HK1.out.cell HNB.out n13;have n13a:=fun ob:Obj=>Ext.some ((Ext.refl w1).alloc ob) n13b;clear hb1 hk1) | (refine step_append_one (O:=OInt) (T:=2) (l:=(P k).1) (F:=F) (G:=[]) (y:=(rdNum t (P k).2.1 (P k).2.2).1) (cs:=[.int .i64 (rdNum t (P k).2.1 (P k).2.2).1]) (by rfl) _ _ 25 (by rfl) (.int .i64 0) 1 8 Try.underlying25 (by kernel_rfl) rfl rfl (by rfl) ((HO.out.kept HK1.out (fun b hb=>by simp;intro e;exact HBF.out (e ▸ hb))).ext ((Ext.refl w1).alloc _)) _ 0 1 (by rfl) ⟨⟨rfl,HX1.out⟩,rfl⟩ (Blk.new _ _ _).range (by simpa using HO.out.nodup) (by rw [FL.out];omega) (by decide) ?_;intro v9 w9 F9 how hkp hF9;obtain ⟨A9,c9,rfl,-⟩:=how.form;have HOW:=Lib.hid how;have HKP:=Lib.hid hkp;have HFF:=Lib.hid hF9;have HKA:Hid (Kept (B :: F) wr w9):=Lib.hid (((HK1.out.trans (Kept.of_ext ((Ext.refl w1).alloc _))).sub (fun b _ hb=>by simp at hb;simp [hb])).trans (hkp.sub (fun b _ hb=>by simp [hb])));have n13c:w9.cell? ⟨N,13,none⟩=some (.slice A_v (P k).1.length c_v):=HKA.out.cell (by simp;exact ⟨fun e=>HNB.out (by simp [e]),HNF.out⟩) n13;have q13:w9.frozen? ⟨N,13,none⟩=false:=(show Blk w9 N _ _ from (HKA.out.block N TN.out.lt (by simp;exact ⟨fun e=>HNB.out (by simp [e]),HNF.out⟩)).trans TN.out).frozen 13;clear how hkp hF9))
    all_goals
     obtain ⟨W10,hW⟩:∃ V,V=w9.setCell ⟨N,13,none⟩ (.slice A9 ((P k).1.length+1) c9):=⟨_,rfl⟩
     have hF9:∀ b∈F9,U.heap.size≤b:=fun b hb=>by rcases HFF.out b hb with h | h | h;exact HF.out b h;cases h;exact Nat.le_trans HSZ.out (Nat.le_trans HK1.out.size (Nat.le_trans ((Ext.refl w1).alloc _).size h))
     have TN2:Hid (Blk W10 N 27 #[.int .i64 r1.1,.int .i64 r2.1,.int .i64 r3.1,.string r4.1,.int .i64 r5.1,.int .i64 r6.1,.int .i64 r7.1,.int .i64 r8.1,.int .i64 r9.1,.int .i64 r10.1,.int .i64 r11.1,.int .i64 r12.1,.int .i64 r13.1,.slice A9 ((P k).1.length+1) c9]):=Lib.hid (by rw [hW];simpa using (show Blk w9 N 27 #[.int .i64 r1.1,.int .i64 r2.1,.int .i64 r3.1,.string r4.1,.int .i64 r5.1,.int .i64 r6.1,.int .i64 r7.1,.int .i64 r8.1,.int .i64 r9.1,.int .i64 r10.1,.int .i64 r11.1,.int .i64 r12.1,.int .i64 r13.1,.slice A_v (P k).1.length c_v] from (HKA.out.block N TN.out.lt (by simp;exact ⟨fun e=>HNB.out (by simp [e]),HNF.out⟩)).trans TN.out).set_ 13 (.slice A9 ((P k).1.length+1) c9))
     have TB2:Hid (Blk W10 B 54 #[.string t,.int .i64 (P (k+1)).2.1,.int .i64 (P (k+1)).2.2]):=Lib.hid (by rw [hW,HS.out];exact Blk.far (p:=⟨N,13,none⟩) ((HKP.out.block B (HB1.out.ext ((Ext.refl w1).alloc _)).lt HBF.out).trans (HB1.out.ext ((Ext.refl w1).alloc _))) (fun h=>HNB.out (by simp;exact Eq.symm h)) _)
     have HO2:Hid (OwS OInt 2 W10 (.slice A9 ((P k).1.length+1) c9) (P (k+1)).1 F9):=Lib.hid (by have h:=HOW.out.kept (G:=[N]) (Kept.setCell (p:=⟨N,13,none⟩) (Kept.refl _ _) (by simp) (.slice A9 ((P k).1.length+1) c9)) (fun b hb=>by have h1:=hF9 b hb;have h2:=HNU.out;simp;omega);rw [List.length_append] at h;rw [hW,HS.out];exact h)
     have CK2:Hid (Kept [B,N] W W10):=Lib.hid (by rw [hW];exact Kept.setCell (p:=⟨N,13,none⟩) (kept_trans2 CK.out HKA.out (fun b hlt hb=>by simp at hb;rcases hb with rfl | hb;simp;exact absurd hlt (Nat.not_lt.2 (Nat.le_trans C_U.out.size (HF.out b hb))))) (by simp) _)
     have HSZ2:Hid (U.heap.size≤W10.heap.size):=Lib.hid (by rw [hW];exact Nat.le_trans HSZ.out (Nat.le_trans HKA.out.size (by simp [World.setCell])))
     have HF9:=Lib.hid hF9
     rw [← hW]
     clear hW hF9 n13 n13a n13b n13c q13
     go_wp2_with fail
     refine ⟨⟨k+1,_,F9,by omega,by go_num,TN2.out,HO2.out,HF9.out,TB2.out,CK2.out,HSZ2.out⟩,?_⟩
     simp [intOf]
     omega
  · have hke:k=r14.1.toNat:=by omega
    have HF14:Hid (k=r14.1.toNat):=Lib.hid hke
    have R1:Hid (Blk wr R 27 #[.int .i64 0,.int .i64 0,.int .i64 0,.string ⟨#[]⟩,.int .i64 0,.int .i64 0,.int .i64 0,.int .i64 0,.int .i64 0,.int .i64 0,.int .i64 0,.int .i64 0,.int .i64 0,.slice none 0 0]):=Lib.hid ((CK.out.block R R0.out.lt (by have h1:=HNR.out;have h2:=HRN.out;simp;omega)).trans R0.out)
    have HC:Hid (wr.rangeAt N 0 [.int .i64 r1.1,.int .i64 r2.1,.int .i64 r3.1,.string r4.1,.int .i64 r5.1,.int .i64 r6.1,.int .i64 r7.1,.int .i64 r8.1,.int .i64 r9.1,.int .i64 r10.1,.int .i64 r11.1,.int .i64 r12.1,.int .i64 r13.1,.slice A_v (P k).1.length c_v]):=Lib.hid TN.out.range
    have HI:Hid ((Try.prog.info? 27).map (·.size)=some ([.int .i64 r1.1,.int .i64 r2.1,.int .i64 r3.1,.string r4.1,.int .i64 r5.1,.int .i64 r6.1,.int .i64 r7.1,.int .i64 r8.1,.int .i64 r9.1,.int .i64 r10.1,.int .i64 r11.1,.int .i64 r12.1,.int .i64 r13.1,.slice A_v (P k).1.length c_v]:List Value).length):=Lib.hid (by kernel_rfl)
    clear hke
    go_wp2_with (first | (refine wpList_load_mid rfl 27 _ rfl N 0 rfl [.int .i64 r1.1,.int .i64 r2.1,.int .i64 r3.1,.string r4.1,.int .i64 r5.1,.int .i64 r6.1,.int .i64 r7.1,.int .i64 r8.1,.int .i64 r9.1,.int .i64 r10.1,.int .i64 r11.1,.int .i64 r12.1,.int .i64 r13.1,.slice A_v (P k).1.length c_v] _ HC.out Try.underlying27 rfl HI.out ?_) | (refine wpList_store_mid rfl 27 _ _ rfl R 0 #[.int .i64 r1.1,.int .i64 r2.1,.int .i64 r3.1,.string r4.1,.int .i64 r5.1,.int .i64 r6.1,.int .i64 r7.1,.int .i64 r8.1,.int .i64 r9.1,.int .i64 r10.1,.int .i64 r11.1,.int .i64 r12.1,.int .i64 r13.1,.slice A_v (P k).1.length c_v] rfl rfl (Blk.there (t:=27) (cs:=#[.int .i64 0,.int .i64 0,.int .i64 0,.string ⟨#[]⟩,.int .i64 0,.int .i64 0,.int .i64 0,.int .i64 0,.int .i64 0,.int .i64 0,.int .i64 0,.int .i64 0,.int .i64 0,.slice none 0 0]) R1.out) (by kernel_rfl) (all_oneCell_toArray (cs:=[.int .i64 r1.1,.int .i64 r2.1,.int .i64 r3.1,.string r4.1,.int .i64 r5.1,.int .i64 r6.1,.int .i64 r7.1,.int .i64 r8.1,.int .i64 r9.1,.int .i64 r10.1,.int .i64 r11.1,.int .i64 r12.1,.int .i64 r13.1,.slice A_v (P k).1.length c_v]) (by simp [Value.oneCell'])) ?_))
    have HK:Hid (Kept [B] w (wr.setCells R 0 [.int .i64 r1.1,.int .i64 r2.1,.int .i64 r3.1,.string r4.1,.int .i64 r5.1,.int .i64 r6.1,.int .i64 r7.1,.int .i64 r8.1,.int .i64 r9.1,.int .i64 r10.1,.int .i64 r11.1,.int .i64 r12.1,.int .i64 r13.1,.slice A_v (P k).1.length c_v])):=Lib.hid (by have h0:Kept [B,N,R] W (wr.setCells R 0 [.int .i64 r1.1,.int .i64 r2.1,.int .i64 r3.1,.string r4.1,.int .i64 r5.1,.int .i64 r6.1,.int .i64 r7.1,.int .i64 r8.1,.int .i64 r9.1,.int .i64 r10.1,.int .i64 r11.1,.int .i64 r12.1,.int .i64 r13.1,.slice A_v (P k).1.length c_v]):=Kept.setCells (by simp) _ _ _ (CK.out.sub (fun b _ hb=>by simp at hb;rcases hb with rfl | rfl <;> simp));have h1:Kept [B,N,R] w (wr.setCells R 0 [.int .i64 r1.1,.int .i64 r2.1,.int .i64 r3.1,.string r4.1,.int .i64 r5.1,.int .i64 r6.1,.int .i64 r7.1,.int .i64 r8.1,.int .i64 r9.1,.int .i64 r10.1,.int .i64 r11.1,.int .i64 r12.1,.int .i64 r13.1,.slice A_v (P k).1.length c_v]):=(Kept.of_ext X0.out).trans h0;exact h1.sub (fun b hlt hb=>by simp at hb;rcases hb with rfl | rfl | rfl;simp;have h3:=HNR.out;have h4:=HRB.out;omega;have h4:=HRB.out;omega))
    have HO3:Hid (OwS OInt 2 (wr.setCells R 0 [.int .i64 r1.1,.int .i64 r2.1,.int .i64 r3.1,.string r4.1,.int .i64 r5.1,.int .i64 r6.1,.int .i64 r7.1,.int .i64 r8.1,.int .i64 r9.1,.int .i64 r10.1,.int .i64 r11.1,.int .i64 r12.1,.int .i64 r13.1,.slice A_v (P k).1.length c_v]) (.slice A_v (P k).1.length c_v) (P k).1 F):=Lib.hid (HO.out.kept (G:=[R]) (Kept.setCells (by simp) _ _ _ (Kept.refl _ _)) (fun b hb=>by have h1:=HF.out b hb;have h2:=HNU.out;have h3:=HNR.out;simp;omega))
    have HB3:Hid (Blk (wr.setCells R 0 [.int .i64 r1.1,.int .i64 r2.1,.int .i64 r3.1,.string r4.1,.int .i64 r5.1,.int .i64 r6.1,.int .i64 r7.1,.int .i64 r8.1,.int .i64 r9.1,.int .i64 r10.1,.int .i64 r11.1,.int .i64 r12.1,.int .i64 r13.1,.slice A_v (P k).1.length c_v]) B 54 #[.string t,.int .i64 (P k).2.1,.int .i64 (P k).2.2]):=Lib.hid (((Kept.setCells (F:=[R]) (by simp) _ _ _ (Kept.refl _ _)).block B TB.out.lt (by have:=HRN.out;simp;omega)).trans TB.out)
    have HFIT:Hid (FitTask (⟨⟨r1.1,r2.1⟩,r3.1,r4.1,r5.1,r6.1,r7.1,⟨r8.1,r9.1⟩,r10.1,r11.1,r12.1,r13.1,(P k).1⟩:Task)):=Lib.hid ⟨G1.out.1,G2.out.1,G3.out.1,G4.out.1,G5.out.1,G6.out.1,G7.out.1,G8.out.1,G9.out.1,G10.out.1,G11.out.1,G12.out.1,G13.out.1⟩
    exact bodyPost_ret (v:=.agg #[.int .i64 r1.1,.int .i64 r2.1,.int .i64 r3.1,.string r4.1,.int .i64 r5.1,.int .i64 r6.1,.int .i64 r7.1,.int .i64 r8.1,.int .i64 r9.1,.int .i64 r10.1,.int .i64 r11.1,.int .i64 r12.1,.int .i64 r13.1,.slice A_v (P k).1.length c_v]) (results_blk Try.results29 rfl (Blk.setAll (t:=27) (cs:=#[.int .i64 0,.int .i64 0,.int .i64 0,.string ⟨#[]⟩,.int .i64 0,.int .i64 0,.int .i64 0,.int .i64 0,.int .i64 0,.int .i64 0,.int .i64 0,.int .i64 0,.int .i64 0,.slice none 0 0]) (vs:=#[.int .i64 r1.1,.int .i64 r2.1,.int .i64 r3.1,.string r4.1,.int .i64 r5.1,.int .i64 r6.1,.int .i64 r7.1,.int .i64 r8.1,.int .i64 r9.1,.int .i64 r10.1,.int .i64 r11.1,.int .i64 r12.1,.int .i64 r13.1,.slice A_v (P k).1.length c_v]) R1.out rfl) Try.underlying27 rfl (by kernel_rfl)) rfl ⟨_,F,rfl,by rw [HE2.out,← HF14.out];exact ⟨_,rfl,HFIT.out,HO3.out⟩,fun b hb=>by have h1:=HF.out b hb;have h2:=HNU.out;have h3:=HNR.out;have h4:=HRB.out;omega,by rw [HE2.out,← HF14.out];exact HB3.out,HK.out⟩
end Go.Proofs.Ytlonjlaecaemgaa
