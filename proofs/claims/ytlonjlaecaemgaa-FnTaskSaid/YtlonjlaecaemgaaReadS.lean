/- The walk of the reference's TaskRead. Printed by wip/reads.py. -/
import Derived.Test.YtlonjlaecaemgaaReadI
import Derived.Test.YtlonjlaecaemgaaTaskRS
namespace Go.Proofs.Ytlonjlaecaemgaa
open Go.RowKit
attribute [local irreducible] wpQuiet
theorem nth_all {p:Int→Prop} {l:List Int} (h:∀ x∈l,p x) (h0:p 0) (i:Nat):p (nth l i):=by
 rcases Nat.lt_or_ge i l.length with hi | hi
 · exact h _ (nth_mem hi)
 · have:nth l i=0:=by unfold nth;rw [List.getD_eq_getElem?_getD,List.getElem?_eq_none hi];rfl
   rw [this];exact h0
theorem own_ints {w:World} {v:Value} {l:List Int} {F:List Nat} (h:OwS OInt 2 w v l F) (hl:0 < l.length):∃ B c,v=.slice (some ⟨B,0,none⟩) l.length c∧B < w.heap.size∧l.length≤c∧c≤maxLen∧∀ i,i < l.length→w.cell? ⟨B,i,none⟩=some (.int .i64 (nth l i)):=by
 rcases h with ⟨rfl,_⟩ | ⟨B,c,C,Fs,rfl,hB,h1,h2,h3,hlF,h4,hn,hk⟩
 · simp at hl
 · refine ⟨B,c,rfl,blk_lt hB,h1,h2,fun i hi=>?_⟩
   obtain ⟨cs,ho,hc⟩:=hk i hi
   obtain ⟨⟨rfl,_⟩,_⟩:=ho
   have:=hc 0 _ rfl
   simpa [EInt] using this
set_option maxHeartbeats 16000000 in
set_option maxRecDepth 100000 in
theorem specTaskRead_any (t:ByteArray) (a:Int) (w:World) (ha:I64 a) (ht:Str t) :
 Calls Try.prog 8 #[.string t,.int .i64 a] w (RetOS OTaskOut (taskRead t a) w):=by
 obtain ⟨r1,hr1⟩:∃ r,r=rdNum t a 0:=⟨_,rfl⟩
 obtain ⟨r2,hr2⟩:∃ r,r=rdNum t r1.2.1 r1.2.2:=⟨_,rfl⟩
 obtain ⟨r3,hr3⟩:∃ r,r=rdNum t r2.2.1 r2.2.2:=⟨_,rfl⟩
 obtain ⟨r4,hr4⟩:∃ r,r=rdStr t r3.2.1 r3.2.2:=⟨_,rfl⟩
 obtain ⟨r5,hr5⟩:∃ r,r=rdNum t r4.2.1 r4.2.2:=⟨_,rfl⟩
 obtain ⟨r6,hr6⟩:∃ r,r=rdNum t r5.2.1 r5.2.2:=⟨_,rfl⟩
 obtain ⟨r7,hr7⟩:∃ r,r=rdNum t r6.2.1 r6.2.2:=⟨_,rfl⟩
 obtain ⟨r8,hr8⟩:∃ r,r=rdNum t r7.2.1 r7.2.2:=⟨_,rfl⟩
 obtain ⟨r9,hr9⟩:∃ r,r=rdNum t r8.2.1 r8.2.2:=⟨_,rfl⟩
 obtain ⟨r10,hr10⟩:∃ r,r=rdNum t r9.2.1 r9.2.2:=⟨_,rfl⟩
 obtain ⟨r11,hr11⟩:∃ r,r=rdNum t r10.2.1 r10.2.2:=⟨_,rfl⟩
 obtain ⟨r12,hr12⟩:∃ r,r=rdNum t r11.2.1 r11.2.2:=⟨_,rfl⟩
 obtain ⟨r13,hr13⟩:∃ r,r=rdNum t r12.2.1 r12.2.2:=⟨_,rfl⟩
 obtain ⟨r14,hr14⟩:∃ r,r=rdNum t r13.2.1 r13.2.2:=⟨_,rfl⟩
 have HCH:Hid (Chain t a r1 r2 r3 r4 r5 r6 r7 r8 r9 r10 r11 r12 r13 r14):=Lib.hid ⟨hr1,hr2,hr3,hr4,hr5,hr6,hr7,hr8,hr9,hr10,hr11,hr12,hr13,hr14⟩
 have HT:=Lib.hid ht
 have g0:RFit a 0:=⟨ha,by unfold I64;decide⟩
 have g1:I64 r1.1∧RFit r1.2.1 r1.2.2:=by rw [hr1];exact rdNum_fit HT.out g0
 have g2:I64 r2.1∧RFit r2.2.1 r2.2.2:=by rw [hr2];exact rdNum_fit HT.out g1.2
 have g3:I64 r3.1∧RFit r3.2.1 r3.2.2:=by rw [hr3];exact rdNum_fit HT.out g2.2
 have g4:Str r4.1∧RFit r4.2.1 r4.2.2:=by rw [hr4];exact rdStr_fit g3.2
 have g5:I64 r5.1∧RFit r5.2.1 r5.2.2:=by rw [hr5];exact rdNum_fit HT.out g4.2
 have g6:I64 r6.1∧RFit r6.2.1 r6.2.2:=by rw [hr6];exact rdNum_fit HT.out g5.2
 have g7:I64 r7.1∧RFit r7.2.1 r7.2.2:=by rw [hr7];exact rdNum_fit HT.out g6.2
 have g8:I64 r8.1∧RFit r8.2.1 r8.2.2:=by rw [hr8];exact rdNum_fit HT.out g7.2
 have g9:I64 r9.1∧RFit r9.2.1 r9.2.2:=by rw [hr9];exact rdNum_fit HT.out g8.2
 have g10:I64 r10.1∧RFit r10.2.1 r10.2.2:=by rw [hr10];exact rdNum_fit HT.out g9.2
 have g11:I64 r11.1∧RFit r11.2.1 r11.2.2:=by rw [hr11];exact rdNum_fit HT.out g10.2
 have g12:I64 r12.1∧RFit r12.2.1 r12.2.2:=by rw [hr12];exact rdNum_fit HT.out g11.2
 have g13:I64 r13.1∧RFit r13.2.1 r13.2.2:=by rw [hr13];exact rdNum_fit HT.out g12.2
 have g14:I64 r14.1∧RFit r14.2.1 r14.2.2:=by rw [hr14];exact rdNum_fit HT.out g13.2
 have G1:=Lib.hid g1
 have G2:=Lib.hid g2
 have G3:=Lib.hid g3
 have G4:=Lib.hid g4
 have G5:=Lib.hid g5
 have G6:=Lib.hid g6
 have G7:=Lib.hid g7
 have G8:=Lib.hid g8
 have G9:=Lib.hid g9
 have G10:=Lib.hid g10
 have G11:=Lib.hid g11
 have G12:=Lib.hid g12
 have G13:=Lib.hid g13
 have G14:=Lib.hid g14
 obtain ⟨al,hal⟩:∃ l,l = [a,r1.2.1,r2.2.1,r3.2.1,r5.2.1,r6.2.1,r7.2.1,r8.2.1,r9.2.1,r10.2.1,r11.2.1,r12.2.1,r13.2.1,r14.2.1]:=⟨_,rfl⟩
 obtain ⟨nl,hnl⟩:∃ l,l = [r1.1,r2.1,r3.1,r5.1,r6.1,r7.1,r8.1,r9.1,r10.1,r11.1,r12.1,r13.1,r14.1]:=⟨_,rfl⟩
 obtain ⟨cl,hcl⟩:∃ l,l = [r1.2.2,r2.2.2,r3.2.2,r5.2.2,r6.2.2,r7.2.2,r8.2.2,r9.2.2,r10.2.2,r11.2.2,r12.2.2,r13.2.2,r14.2.2]:=⟨_,rfl⟩
 have HNL:Hid (nl = [r1.1,r2.1,r3.1,r5.1,r6.1,r7.1,r8.1,r9.1,r10.1,r11.1,r12.1,r13.1,r14.1]):=Lib.hid hnl
 have HIA:Hid (∀ i,I64 (nth al i)):=Lib.hid (nth_all (p:=I64) (l:=al) (fun x hx=>by rw [hal] at hx;simp only [List.mem_cons,List.not_mem_nil,or_false] at hx;rcases hx with rfl | rfl | rfl | rfl | rfl | rfl | rfl | rfl | rfl | rfl | rfl | rfl | rfl | rfl <;> first | exact ha | exact g1.2.1 | exact g2.2.1 | exact g3.2.1 | exact g5.2.1 | exact g6.2.1 | exact g7.2.1 | exact g8.2.1 | exact g9.2.1 | exact g10.2.1 | exact g11.2.1 | exact g12.2.1 | exact g13.2.1 | exact g14.2.1) (by unfold I64;decide))
 have HIN:Hid (∀ i,I64 (nth nl i)):=Lib.hid (nth_all (p:=I64) (l:=nl) (fun x hx=>by rw [hnl] at hx;simp only [List.mem_cons,List.not_mem_nil,or_false] at hx;rcases hx with rfl | rfl | rfl | rfl | rfl | rfl | rfl | rfl | rfl | rfl | rfl | rfl | rfl <;> first | exact g1.1 | exact g2.1 | exact g3.1 | exact g5.1 | exact g6.1 | exact g7.1 | exact g8.1 | exact g9.1 | exact g10.1 | exact g11.1 | exact g12.1 | exact g13.1 | exact g14.1) (by unfold I64;decide))
 have HIC:Hid (∀ i,I64 (nth cl i)):=Lib.hid (nth_all (p:=I64) (l:=cl) (fun x hx=>by rw [hcl] at hx;simp only [List.mem_cons,List.not_mem_nil,or_false] at hx;rcases hx with rfl | rfl | rfl | rfl | rfl | rfl | rfl | rfl | rfl | rfl | rfl | rfl | rfl <;> first | exact g1.2.2 | exact g2.2.2 | exact g3.2.2 | exact g5.2.2 | exact g6.2.2 | exact g7.2.2 | exact g8.2.2 | exact g9.2.2 | exact g10.2.2 | exact g11.2.2 | exact g12.2.2 | exact g13.2.2 | exact g14.2.2) (by unfold I64;decide))
 have HLN:Hid (nl.length=13):=Lib.hid (by rw [hnl];rfl)
 have HNUM:Hid (∀ i,i < 13→i≠3→(∀ j,j < i→nth cl j=0)→getNum t (nth al i)=⟨nth nl i,nth al (i+1),nth cl i⟩):=Lib.hid (by rw [hal,hnl,hcl];exact fun i h1 h2 h3=>HCH.out.num h1 h2 h3)
 have HTXT:Hid ((∀ j,j < 3→nth cl j=0)→getText t (nth al 3)=⟨r4.1,r4.2.1,r4.2.2⟩):=Lib.hid (by rw [hal,hcl];exact HCH.out.text)
 have HNUM3:Hid (r4.2.2=0→getNum t r4.2.1=⟨nth nl 3,nth al 4,nth cl 3⟩):=Lib.hid (by rw [hal,hnl,hcl];exact HCH.out.num3)
 have HERR:Hid (∀ i,i < 13→nth cl i≠0→taskRead t a=⟨zeroTask,0,nth cl i⟩):=Lib.hid (by rw [hcl];exact fun i h1 h2=>HCH.out.err h1 h2)
 have HAL0:Hid (nth al 0=a):=Lib.hid (by rw [hal];rfl)
 have HAL13:Hid (nth al 13=r14.2.1):=Lib.hid (by rw [hal];rfl)
 have HCL12:Hid (nth cl 12=r14.2.2):=Lib.hid (by rw [hcl];rfl)
 clear ha ht hal hnl hcl hr1 hr2 hr3 hr4 hr5 hr6 hr7 hr8 hr9 hr10 hr11 hr12 hr13 hr14 g0 g1 g2 g3 g4 g5 g6 g7 g8 g9 g10 g11 g12 g13 g14
 go_enter Try.func8,Try.ntmps8
 go_upto_region 1 with (fail)
 obtain ⟨W,R,hW,hB,hBl,hx0,b0⟩:∃ W B,W=w.alloc (.cells #[.int .i64 0,.int .i64 0,.int .i64 0,.string ⟨#[]⟩,.int .i64 0,.int .i64 0,.int .i64 0,.int .i64 0,.int .i64 0,.int .i64 0,.int .i64 0,.int .i64 0,.int .i64 0,.slice none 0 0,.int .i64 0,.int .i64 0] 33)∧B=w.heap.size∧w.heap.size≤B∧Ext w W∧Blk W B 33 #[.int .i64 0,.int .i64 0,.int .i64 0,.string ⟨#[]⟩,.int .i64 0,.int .i64 0,.int .i64 0,.int .i64 0,.int .i64 0,.int .i64 0,.int .i64 0,.int .i64 0,.int .i64 0,.slice none 0 0,.int .i64 0,.int .i64 0]:=⟨_,_,rfl,rfl,Nat.le_refl _,(Ext.refl w).alloc _,Blk.new _ _ _⟩
 rw [← hW,← hB]
 have HRB:=Lib.hid hBl
 have R0:=Lib.hid b0
 have X0:=Lib.hid hx0
 clear hW hB hx0 b0 hBl
 go_upto_region 2 with (fail)
 obtain ⟨W1,B0,hW,hB,hx0,b0⟩:∃ V B,V=W.alloc (.cells #[] 2)∧B=W.heap.size∧Ext W V∧Blk V B 2 #[]:=⟨_,_,rfl,rfl,(Ext.refl W).alloc _,Blk.new _ _ _⟩
 rw [← hW,← hB]
 have R1:=Lib.hid (R0.out.ext hx0)
 have X1:=Lib.hid (X0.out.trans hx0)
 have HB0:=Lib.hid b0
 have HRB0:Hid (R < B0):=Lib.hid (by have:=R0.out.lt;omega)
 clear hW hB hx0 b0
 go_wp2_with fail
 go_loopw [1,5,6,7] (fun av n o i w'=>∃ (k:Nat) (F:List Nat) (ow:ByteArray),k≤13∧i=.int .i64 k∧av=.int .i64 (nth al k)∧o=.string ow∧(3 < k→ow=r4.1)∧OwS OInt 2 w' n (nl.take k) F∧(∀ b∈F,R < b)∧Blk w' R 33 #[.int .i64 0,.int .i64 0,.int .i64 0,.string ⟨#[]⟩,.int .i64 0,.int .i64 0,.int .i64 0,.int .i64 0,.int .i64 0,.int .i64 0,.int .i64 0,.int .i64 0,.int .i64 0,.slice none 0 0,.int .i64 0,.int .i64 0]∧Ext w w'∧∀ j,j < k→nth cl j=0) (fun _ _ _ i _=>14 - (intOf i).toNat)
 case atStart=>exact ⟨0,[B0],⟨#[]⟩,by omega,rfl,by rw [HAL0.out],rfl,fun h=>by omega,.inr ⟨B0,0,#[],[],rfl,HB0.out,Nat.le_refl _,Nat.zero_le _,rfl,rfl,rfl,by simp,fun k hk=>absurd hk (Nat.not_lt_zero _)⟩,fun b hb=>by rw [List.mem_singleton.1 hb];exact HRB0.out,R1.out,X1.out,fun j hj=>by omega⟩
 case round =>
  obtain ⟨k,F,ow,hk,rfl,rfl,rfl,how3,hown,hF,hR,hx,hz⟩:=hrel
  have HO:=Lib.hid hown
  have HF:=Lib.hid hF
  have RR:=Lib.hid hR
  have HX:=Lib.hid hx
  have HZ:=Lib.hid hz
  have HOW3:=Lib.hid how3
  clear hown hF hR hx hz how3
  by_cases h13:k=13
  · subst h13
    obtain ⟨Wq,rfl⟩:∃ V,V=wr:=⟨_,rfl⟩
    have HZ12:Hid (r14.2.2=0):=Lib.hid (by rw [← HCL12.out];exact HZ.out 12 (by omega))
    have HOW4:Hid (ow=r4.1):=Lib.hid (HOW3.out (by omega))
    have HO13:Hid (OwS OInt 2 Wq _ nl F):=Lib.hid (by have h:=HO.out;rwa [List.take_of_length_le (by rw [HLN.out];omega)] at h)
    obtain ⟨Bn,cn,rfl,hBn,hcn,hcm,hcell⟩:=own_ints HO13.out (by rw [HLN.out];omega)
    have HBN:=Lib.hid hBn
    rw [HLN.out] at hcn
    unfold maxLen at hcm
    have e0:∀ V,Ext Wq V→V.cell? ⟨Bn,0,none⟩=some (.int .i64 r1.1):=fun V hV=>Ext.some hV (by rw [hcell 0 (by rw [HLN.out];omega),HNL.out];rfl)
    have e1:∀ V,Ext Wq V→V.cell? ⟨Bn,1,none⟩=some (.int .i64 r2.1):=fun V hV=>Ext.some hV (by rw [hcell 1 (by rw [HLN.out];omega),HNL.out];rfl)
    have e2:∀ V,Ext Wq V→V.cell? ⟨Bn,2,none⟩=some (.int .i64 r3.1):=fun V hV=>Ext.some hV (by rw [hcell 2 (by rw [HLN.out];omega),HNL.out];rfl)
    have e3:∀ V,Ext Wq V→V.cell? ⟨Bn,3,none⟩=some (.int .i64 r5.1):=fun V hV=>Ext.some hV (by rw [hcell 3 (by rw [HLN.out];omega),HNL.out];rfl)
    have e4:∀ V,Ext Wq V→V.cell? ⟨Bn,4,none⟩=some (.int .i64 r6.1):=fun V hV=>Ext.some hV (by rw [hcell 4 (by rw [HLN.out];omega),HNL.out];rfl)
    have e5:∀ V,Ext Wq V→V.cell? ⟨Bn,5,none⟩=some (.int .i64 r7.1):=fun V hV=>Ext.some hV (by rw [hcell 5 (by rw [HLN.out];omega),HNL.out];rfl)
    have e6:∀ V,Ext Wq V→V.cell? ⟨Bn,6,none⟩=some (.int .i64 r8.1):=fun V hV=>Ext.some hV (by rw [hcell 6 (by rw [HLN.out];omega),HNL.out];rfl)
    have e7:∀ V,Ext Wq V→V.cell? ⟨Bn,7,none⟩=some (.int .i64 r9.1):=fun V hV=>Ext.some hV (by rw [hcell 7 (by rw [HLN.out];omega),HNL.out];rfl)
    have e8:∀ V,Ext Wq V→V.cell? ⟨Bn,8,none⟩=some (.int .i64 r10.1):=fun V hV=>Ext.some hV (by rw [hcell 8 (by rw [HLN.out];omega),HNL.out];rfl)
    have e9:∀ V,Ext Wq V→V.cell? ⟨Bn,9,none⟩=some (.int .i64 r11.1):=fun V hV=>Ext.some hV (by rw [hcell 9 (by rw [HLN.out];omega),HNL.out];rfl)
    have e10:∀ V,Ext Wq V→V.cell? ⟨Bn,10,none⟩=some (.int .i64 r12.1):=fun V hV=>Ext.some hV (by rw [hcell 10 (by rw [HLN.out];omega),HNL.out];rfl)
    have e11:∀ V,Ext Wq V→V.cell? ⟨Bn,11,none⟩=some (.int .i64 r13.1):=fun V hV=>Ext.some hV (by rw [hcell 11 (by rw [HLN.out];omega),HNL.out];rfl)
    have e12:∀ V,Ext Wq V→V.cell? ⟨Bn,12,none⟩=some (.int .i64 r14.1):=fun V hV=>Ext.some hV (by rw [hcell 12 (by rw [HLN.out];omega),HNL.out];rfl)
    rw [HLN.out,HAL13.out]
    obtain rfl:=HOW4.out
    clear hcell hBn
    have d12:=e12 _ (Ext.refl Wq)
    cases hb:isB r14.1 0 6 with
    | false =>
      have HV:=Lib.hid (HCH.out.count_bad HZ12.out hb)
      go_wp2_with (first | (go_at_call 32;refine (l02Is_any _ _ _ _).mono ?_;rintro e w' ⟨rfl,rfl⟩) | (refine wpList_store_mid rfl 33 _ _ rfl R 0 #[.int .i64 0,.int .i64 0,.int .i64 0,.string ⟨#[]⟩,.int .i64 0,.int .i64 0,.int .i64 0,.int .i64 0,.int .i64 0,.int .i64 0,.int .i64 0,.int .i64 0,.int .i64 0,.slice none 0 0,.int .i64 0,.int .i64 3] rfl rfl (Blk.there (t:=33) (cs:=#[.int .i64 0,.int .i64 0,.int .i64 0,.string ⟨#[]⟩,.int .i64 0,.int .i64 0,.int .i64 0,.int .i64 0,.int .i64 0,.int .i64 0,.int .i64 0,.int .i64 0,.int .i64 0,.slice none 0 0,.int .i64 0,.int .i64 0]) RR.out) (by kernel_rfl) (all_oneCell_toArray (cs:=[.int .i64 0,.int .i64 0,.int .i64 0,.string ⟨#[]⟩,.int .i64 0,.int .i64 0,.int .i64 0,.int .i64 0,.int .i64 0,.int .i64 0,.int .i64 0,.int .i64 0,.int .i64 0,.slice none 0 0,.int .i64 0,.int .i64 3]) (by simp [Value.oneCell'])) ?_))
      exact bodyPost_ret (v:=.agg #[.int .i64 0,.int .i64 0,.int .i64 0,.string ⟨#[]⟩,.int .i64 0,.int .i64 0,.int .i64 0,.int .i64 0,.int .i64 0,.int .i64 0,.int .i64 0,.int .i64 0,.int .i64 0,.slice none 0 0,.int .i64 0,.int .i64 3]) (results_blk Try.results8 rfl (Blk.setAll (t:=33) (cs:=#[.int .i64 0,.int .i64 0,.int .i64 0,.string ⟨#[]⟩,.int .i64 0,.int .i64 0,.int .i64 0,.int .i64 0,.int .i64 0,.int .i64 0,.int .i64 0,.int .i64 0,.int .i64 0,.slice none 0 0,.int .i64 0,.int .i64 0]) (vs:=#[.int .i64 0,.int .i64 0,.int .i64 0,.string ⟨#[]⟩,.int .i64 0,.int .i64 0,.int .i64 0,.int .i64 0,.int .i64 0,.int .i64 0,.int .i64 0,.int .i64 0,.int .i64 0,.slice none 0 0,.int .i64 0,.int .i64 3]) RR.out rfl) Try.underlying33 rfl (by kernel_rfl)) rfl ⟨_,[],rfl,⟨.slice none 0 0,by rw [HV.out];rfl,by rw [HV.out];exact fit_bad (by unfold I64;decide),by rw [HV.out];exact OwS.nil _⟩,fun b hb=>absurd hb (by simp),setCells_ext HRB.out _ _ _ HX.out⟩
    | true =>
      go_upto_region 20 with (go_at_call 32;refine (l02Is_any _ _ _ _).mono ?_;rintro e w' ⟨rfl,rfl⟩)
      clear d12
      go_region_held3 (fun V=>Ext Wq V) (first | exact Ext.refl _ | exact (Ext.refl _).drew | assumption | exact Ext.alloc (by assumption) _ | exact (Ext.alloc (Ext.refl _) _).drew | exact Ext.alloc (Ext.refl _).drew _) (fail)
      obtain ⟨W5,N5,hW,hN,hx5,n5⟩:∃ V N,V=(Wq.alloc (.cells #[.int .i64 r1.1,.int .i64 r2.1,.int .i64 r3.1,.string r4.1,.int .i64 r5.1,.int .i64 r6.1,.int .i64 r7.1,.int .i64 r8.1,.int .i64 r9.1,.int .i64 r10.1,.int .i64 r11.1,.int .i64 r12.1,.int .i64 r13.1,.slice none 0 0] 27)).drew∧N=Wq.heap.size∧Ext Wq V∧Blk V N 27 #[.int .i64 r1.1,.int .i64 r2.1,.int .i64 r3.1,.string r4.1,.int .i64 r5.1,.int .i64 r6.1,.int .i64 r7.1,.int .i64 r8.1,.int .i64 r9.1,.int .i64 r10.1,.int .i64 r11.1,.int .i64 r12.1,.int .i64 r13.1,.slice none 0 0]:=⟨_,_,rfl,rfl,((Ext.refl Wq).alloc _).drew,Blk.new _ _ _⟩
      rw [← hW,← hN]
      have HX5:=Lib.hid hx5
      have T5:=Lib.hid n5
      have HNQ:Hid (Wq.heap.size≤N5):=Lib.hid (by omega)
      clear hW hN hx5 n5 e0 e1 e2 e3 e4 e5 e6 e7 e8 e9 e10 e11
      obtain ⟨P,hP⟩:∃ P:Nat→List Int × Int × Int,P=fun k=>rdNums t k r14.2.1 r14.2.2:=⟨_,rfl⟩
      have HP0:Hid (P 0=([],r14.2.1,0)):=Lib.hid (by rw [hP,← HZ12.out];rfl)
      have HPS:Hid (∀ k,(P k).2.2=0→P (k+1)=((P k).1 ++ [(getNum t (P k).2.1).num],(getNum t (P k).2.1).at_,(getNum t (P k).2.1).code)):=Lib.hid (fun k h=>by rw [hP] at h ⊢;simp only at h ⊢;rw [rdNums,h,rdNum_go])
      have HPF:Hid (∀ k,(∀ x∈(P k).1,I64 x)∧(P k).1.length=k∧RFit (P k).2.1 (P k).2.2):=Lib.hid (fun k=>by rw [hP];exact rdNums_fit HT.out G14.out.2 k)
      have HNE:Hid (∀ k,k < r14.1.toNat→(P (k+1)).2.2≠0→taskRead t a=⟨zeroTask,0,(P (k+1)).2.2⟩):=Lib.hid (fun k hk hne=>by rw [hP] at hne ⊢;exact HCH.out.node_err hb hk rfl hne)
      have HDN:Hid ((P r14.1.toNat).2.2=0→taskRead t a=if taskRight ⟨⟨r1.1,r2.1⟩,r3.1,r4.1,r5.1,r6.1,r7.1,⟨r8.1,r9.1⟩,r10.1,r11.1,r12.1,r13.1,(P r14.1.toNat).1⟩=false then ⟨zeroTask,0,1⟩ else ⟨⟨⟨r1.1,r2.1⟩,r3.1,r4.1,r5.1,r6.1,r7.1,⟨r8.1,r9.1⟩,r10.1,r11.1,r12.1,r13.1,(P r14.1.toNat).1⟩,(P r14.1.toNat).2.1,0⟩):=Lib.hid (by rw [hP];exact HCH.out.done hb)
      have hb6:=isB_true hb
      clear hP hb
      go_wp2_with fail
      go_loopw [1,11] (fun av i w'=>∃ (k:Nat) (v:Value) (F2:List Nat),k≤r14.1.toNat∧i=.int .i64 k∧av=.int .i64 (P k).2.1∧Blk w' N5 27 #[.int .i64 r1.1,.int .i64 r2.1,.int .i64 r3.1,.string r4.1,.int .i64 r5.1,.int .i64 r6.1,.int .i64 r7.1,.int .i64 r8.1,.int .i64 r9.1,.int .i64 r10.1,.int .i64 r11.1,.int .i64 r12.1,.int .i64 r13.1,v]∧OwS OInt 2 w' v (P k).1 F2∧(∀ b∈F2,W5.heap.size≤b)∧(P k).2.2=0∧Ext Wq w'∧W5.heap.size≤w'.heap.size) (fun _ i _=>r14.1.toNat - (intOf i).toNat)
      case atStart=>exact ⟨0,_,[],Nat.zero_le _,rfl,by rw [HP0.out],T5.out,by rw [HP0.out];exact OwS.nil none,fun b hb=>(by cases hb),by rw [HP0.out],HX5.out,Nat.le_refl _⟩
      case round =>
       obtain ⟨k,v,F2,hk,rfl,rfl,tN,hown,hF2,h0,hx,hsz⟩:=hrel
       obtain ⟨A_v,c_v,rfl,-⟩:=hown.form
       have HO2:=Lib.hid hown
       have HF2:=Lib.hid hF2
       have TN:=Lib.hid tN
       have HXw:=Lib.hid hx
       have HSZ:=Lib.hid hsz
       have HZk:=Lib.hid h0
       have HL:=Lib.hid (HPF.out k).2.1
       have d12:=e12 _ hx
       have RW:=Lib.hid (RR.out.ext hx)
       have XW:=Lib.hid (HX.out.trans hx)
       have HNF2:Hid (N5∉F2):=Lib.hid (fun h=>by have h1:=hF2 _ h;have h2:=T5.out.lt;omega)
       clear hown hF2 tN hx hsz h0
       by_cases hlt:(k:Int) < r14.1
       · skip
         obtain ⟨o,ho⟩:∃ o,o=getNum t (P k).2.1:=⟨_,rfl⟩
         have HS:=Lib.hid (HPS.out k HZk.out)
         rw [← ho] at HS
         have HOE:=Lib.hid ho
         have HFO:Hid (I64 o.num∧I64 o.code):=Lib.hid (by obtain ⟨h1,h2,h3,h4,h5⟩:=getNum_fit t (P k).2.1;rw [ho];exact ⟨h1,by unfold I64;omega⟩)
         clear ho
         have I_P:Hid (I64 (P k).2.1):=Lib.hid (HPF.out k).2.2.1
         go_upto_region 25 with (go_at_call 31;(with_reducible refine (specGetNum_any t (P k).2.1 _ I_P.out HT.out).mono ?_);rintro e uz ⟨rfl,hx1⟩;rw [← HOE.out];have Xuz:=Lib.hid (XW.out.trans hx1);have Ruz:=Lib.hid (RW.out.ext hx1);have Ouz:=Lib.hid (HO2.out.ext hx1);have Tuz:=Lib.hid (TN.out.ext hx1);have Zuz:=Lib.hid (Nat.le_trans HSZ.out hx1.size);have Quz:=Lib.hid (HXw.out.trans hx1);clear hx1 d12)
         obtain ⟨Vz,Nz,hW,hB,hx,n⟩:∃ V B,V=uz.alloc (.cells #[.int .i64 o.num,.int .i64 o.at_,.int .i64 o.code] 59)∧B=uz.heap.size∧Ext uz V∧Blk V B 59 #[.int .i64 o.num,.int .i64 o.at_,.int .i64 o.code]:=⟨_,_,rfl,rfl,(Ext.refl _).alloc _,Blk.new _ _ _⟩
         rw [← hW,← hB]
         have XVz:=Lib.hid (Xuz.out.trans hx)
         have RVz:=Lib.hid (Ruz.out.ext hx)
         have OVz:=Lib.hid (Ouz.out.ext hx)
         have TVz:=Lib.hid (Tuz.out.ext hx)
         have NVz:=Lib.hid n
         have LVz:Hid (uz.heap.size≤Nz):=Lib.hid (by omega)
         have ZVz:=Lib.hid (Nat.le_trans Zuz.out hx.size)
         have QVz:=Lib.hid (Quz.out.trans hx)
         clear hW hB hx n
         have c0:Vz.cell? ⟨Nz,0,none⟩=some (.int .i64 o.num):=NVz.out.cell 0
         have c1:Vz.cell? ⟨Nz,1,none⟩=some (.int .i64 o.at_):=NVz.out.cell 1
         have c2:Vz.cell? ⟨Nz,2,none⟩=some (.int .i64 o.code):=NVz.out.cell 2
         have n13:Vz.cell? ⟨N5,13,none⟩=some (.slice A_v (P k).1.length c_v):=TVz.out.cell 13
         by_cases hce:o.code=0
         · skip
           have HCE:=Lib.hid hce
           rw [hce] at c2
           clear hce
           have HNZ:Hid (Nz∉F2):=Lib.hid (fun h=>by have h1:=Ouz.out.lt _ h;have h2:=LVz.out;omega)
           have HN5Z:Hid (N5≠Nz):=Lib.hid (by have h1:=Tuz.out.lt;have h2:=LVz.out;omega)
           have n13a:=fun ob:Obj=>Ext.some ((Ext.refl Vz).alloc ob) n13
           have c1a:=fun ob:Obj=>Ext.some ((Ext.refl Vz).alloc ob) c1
           go_upto_region 28 with (at_builtin;refine wpList_append_one (O:=OInt) (T:=2) (l:=(P k).1) (F:=F2) (G:=[]) (y:=o.num) (cs:=[.int .i64 o.num]) rfl _ _ 25 rfl (.int .i64 0) 1 8 Try.underlying25 (by kernel_rfl) rfl rfl rfl (OVz.out.ext ((Ext.refl _).alloc _)) _ 0 1 rfl ⟨⟨rfl,HFO.out.1⟩,rfl⟩ (Blk.new _ _ _).range (by simpa using HO2.out.nodup) (by rw [HL.out];omega) (by decide) ?_;intro v9 w9 F9 how hkp hF9;obtain ⟨A9,c9,rfl,-⟩:=how.form;have HOW:=Lib.hid how;have HKP:=Lib.hid hkp;have HFF:=Lib.hid hF9;have c1b:w9.cell? ⟨Nz,1,none⟩=some (.int .i64 o.at_):=hkp.cell HNZ.out (c1a _);have n13b:w9.cell? ⟨N5,13,none⟩=some (.slice A_v (P k).1.length c_v):=hkp.cell HNF2.out (n13a _);have T9:Hid (Blk w9 N5 27 #[.int .i64 r1.1,.int .i64 r2.1,.int .i64 r3.1,.string r4.1,.int .i64 r5.1,.int .i64 r6.1,.int .i64 r7.1,.int .i64 r8.1,.int .i64 r9.1,.int .i64 r10.1,.int .i64 r11.1,.int .i64 r12.1,.int .i64 r13.1,.slice A_v (P k).1.length c_v]):=Lib.hid ((hkp.block N5 (TVz.out.ext ((Ext.refl _).alloc _)).lt HNF2.out).trans (TVz.out.ext ((Ext.refl _).alloc _)));have q13:=T9.out.frozen 13;clear how hkp hF9)
           obtain ⟨W10,hW⟩:∃ V,V=w9.setCell ⟨N5,13,none⟩ (.slice A9 ((P k).1.length+1) c9):=⟨_,rfl⟩
           have hF9:∀ b∈F9,W5.heap.size≤b:=fun b hb=>by rcases HFF.out b hb with h | h | h;exact HF2.out b h;cases h;exact Nat.le_trans ZVz.out (Nat.le_trans ((Ext.refl Vz).alloc _).size h)
           have T10:Hid (Blk W10 N5 27 #[.int .i64 r1.1,.int .i64 r2.1,.int .i64 r3.1,.string r4.1,.int .i64 r5.1,.int .i64 r6.1,.int .i64 r7.1,.int .i64 r8.1,.int .i64 r9.1,.int .i64 r10.1,.int .i64 r11.1,.int .i64 r12.1,.int .i64 r13.1,.slice A9 ((P k).1.length+1) c9]):=Lib.hid (by rw [hW];simpa using T9.out.set_ 13 (.slice A9 ((P k).1.length+1) c9))
           have c1c:W10.cell? ⟨Nz,1,none⟩=some (.int .i64 o.at_):=by rw [hW];exact (Kept.setCell (F:=[N5]) (p:=⟨N5,13,none⟩) (Kept.refl _ _) (by simp) _).cell (by simp;exact fun e=>HN5Z.out e.symm) c1b
           have HO10:Hid (OwS OInt 2 W10 (.slice A9 ((P k).1.length+1) c9) (P (k+1)).1 F9):=Lib.hid (by have h:=HOW.out.kept (G:=[N5]) (Kept.setCell (p:=⟨N5,13,none⟩) (Kept.refl _ _) (by simp) (.slice A9 ((P k).1.length+1) c9)) (fun b hb=>by have h1:=hF9 b hb;have h2:=T5.out.lt;simp;omega);rw [List.length_append] at h;rw [hW,HS.out];exact h)
           have Q10:Hid (Ext Wq W10):=Lib.hid (by rw [hW];exact (HKP.out.ext (QVz.out.alloc _) (fun b hb=>Nat.le_trans HX5.out.size (HF2.out b hb))).setCell HNQ.out _)
           have Z10:Hid (W5.heap.size≤W10.heap.size):=Lib.hid (by rw [hW];exact Nat.le_trans ZVz.out (Nat.le_trans ((Ext.refl Vz).alloc _).size (Nat.le_trans HKP.out.size (by simp [World.setCell]))))
           have HF9:=Lib.hid hF9
           rw [← hW]
           clear hW hF9 n13 n13a n13b q13 c0 c1 c2 c1a c1b
           go_wp2_with fail
           refine ⟨⟨k+1,_,F9,by omega,by go_num,by rw [HS.out],T10.out,HO10.out,HF9.out,by rw [HS.out];exact HCE.out,Q10.out,Z10.out⟩,?_⟩
           simp [intOf]
           omega
         · have HV:Hid (taskRead t a=⟨zeroTask,0,o.code⟩):=Lib.hid (by have h:=HNE.out k (by omega);rw [HS.out] at h;exact h hce)
           go_wp2_with (first | (refine wpList_store_mid rfl 33 _ _ rfl R 0 #[.int .i64 0,.int .i64 0,.int .i64 0,.string ⟨#[]⟩,.int .i64 0,.int .i64 0,.int .i64 0,.int .i64 0,.int .i64 0,.int .i64 0,.int .i64 0,.int .i64 0,.int .i64 0,.slice none 0 0,.int .i64 0,.int .i64 o.code] rfl rfl (Blk.there (t:=33) (cs:=#[.int .i64 0,.int .i64 0,.int .i64 0,.string ⟨#[]⟩,.int .i64 0,.int .i64 0,.int .i64 0,.int .i64 0,.int .i64 0,.int .i64 0,.int .i64 0,.int .i64 0,.int .i64 0,.slice none 0 0,.int .i64 0,.int .i64 0]) RVz.out) (by kernel_rfl) (all_oneCell_toArray (cs:=[.int .i64 0,.int .i64 0,.int .i64 0,.string ⟨#[]⟩,.int .i64 0,.int .i64 0,.int .i64 0,.int .i64 0,.int .i64 0,.int .i64 0,.int .i64 0,.int .i64 0,.int .i64 0,.slice none 0 0,.int .i64 0,.int .i64 o.code]) (by simp [Value.oneCell'])) ?_))
           exact bodyPost_ret (v:=.agg #[.int .i64 0,.int .i64 0,.int .i64 0,.string ⟨#[]⟩,.int .i64 0,.int .i64 0,.int .i64 0,.int .i64 0,.int .i64 0,.int .i64 0,.int .i64 0,.int .i64 0,.int .i64 0,.slice none 0 0,.int .i64 0,.int .i64 o.code]) (results_blk Try.results8 rfl (Blk.setAll (t:=33) (cs:=#[.int .i64 0,.int .i64 0,.int .i64 0,.string ⟨#[]⟩,.int .i64 0,.int .i64 0,.int .i64 0,.int .i64 0,.int .i64 0,.int .i64 0,.int .i64 0,.int .i64 0,.int .i64 0,.slice none 0 0,.int .i64 0,.int .i64 0]) (vs:=#[.int .i64 0,.int .i64 0,.int .i64 0,.string ⟨#[]⟩,.int .i64 0,.int .i64 0,.int .i64 0,.int .i64 0,.int .i64 0,.int .i64 0,.int .i64 0,.int .i64 0,.int .i64 0,.slice none 0 0,.int .i64 0,.int .i64 o.code]) RVz.out rfl) Try.underlying33 rfl (by kernel_rfl)) rfl ⟨_,[],rfl,⟨.slice none 0 0,by rw [HV.out];rfl,by rw [HV.out];exact fit_bad (HFO.out.2),by rw [HV.out];exact OwS.nil _⟩,fun b hb=>absurd hb (by simp),setCells_ext HRB.out _ _ _ XVz.out⟩
       · have hke:k=r14.1.toNat:=by omega
         have HD:Hid (taskRead t a=if taskRight ⟨⟨r1.1,r2.1⟩,r3.1,r4.1,r5.1,r6.1,r7.1,⟨r8.1,r9.1⟩,r10.1,r11.1,r12.1,r13.1,(P k).1⟩=false then ⟨zeroTask,0,1⟩ else ⟨⟨⟨r1.1,r2.1⟩,r3.1,r4.1,r5.1,r6.1,r7.1,⟨r8.1,r9.1⟩,r10.1,r11.1,r12.1,r13.1,(P k).1⟩,(P k).2.1,0⟩):=Lib.hid (by have h:=HDN.out (by rw [← hke];exact HZk.out);rw [← hke] at h;exact h)
         clear hke
         obtain ⟨x,hx⟩:∃ x:Task,x=⟨⟨r1.1,r2.1⟩,r3.1,r4.1,r5.1,r6.1,r7.1,⟨r8.1,r9.1⟩,r10.1,r11.1,r12.1,r13.1,(P k).1⟩:=⟨_,rfl⟩
         have HFIT:Hid (FitTask x):=Lib.hid (by rw [hx];exact ⟨G1.out.1,G2.out.1,G3.out.1,G4.out.1,G5.out.1,G6.out.1,G7.out.1,G8.out.1,G9.out.1,G10.out.1,G11.out.1,G12.out.1,G13.out.1⟩)
         have HREL:Hid (∀ V,Ext wr V→ETask.rel (fun b=>b∈F2) V [.int .i64 r1.1,.int .i64 r2.1,.int .i64 r3.1,.string r4.1,.int .i64 r5.1,.int .i64 r6.1,.int .i64 r7.1,.int .i64 r8.1,.int .i64 r9.1,.int .i64 r10.1,.int .i64 r11.1,.int .i64 r12.1,.int .i64 r13.1,.slice A_v (P k).1.length c_v] x):=Lib.hid (fun V hV=>by have h:=rel_Task (x:=x) (v1:=.slice A_v (P k).1.length c_v) HFIT.out (S:=fun b=>b∈F2) (w:=V) (by rw [hx];exact (HO2.out.ext hV).rd);rw [hx] at h ⊢;exact h)
         have HOF:Hid (∀ V,(∀ b∈F2,V.heap[b]? = wr.heap[b]?)→OTaskOut.own V [.int .i64 r1.1,.int .i64 r2.1,.int .i64 r3.1,.string r4.1,.int .i64 r5.1,.int .i64 r6.1,.int .i64 r7.1,.int .i64 r8.1,.int .i64 r9.1,.int .i64 r10.1,.int .i64 r11.1,.int .i64 r12.1,.int .i64 r13.1,.slice A_v (P k).1.length c_v,.int .i64 (P k).2.1,.int .i64 0] ⟨x,(P k).2.1,0⟩ F2):=Lib.hid (fun V hV=>⟨.slice A_v (P k).1.length c_v,by rw [hx];rfl,fit_good HFIT.out (HPF.out k).2.2.1,by rw [hx];exact HO2.out.keep hV⟩)
         rw [← hx] at HD
         clear hx
         have HC:Hid (wr.rangeAt N5 0 [.int .i64 r1.1,.int .i64 r2.1,.int .i64 r3.1,.string r4.1,.int .i64 r5.1,.int .i64 r6.1,.int .i64 r7.1,.int .i64 r8.1,.int .i64 r9.1,.int .i64 r10.1,.int .i64 r11.1,.int .i64 r12.1,.int .i64 r13.1,.slice A_v (P k).1.length c_v]):=Lib.hid TN.out.range
         have HI:Hid ((Try.prog.info? 27).map (·.size)=some ([.int .i64 r1.1,.int .i64 r2.1,.int .i64 r3.1,.string r4.1,.int .i64 r5.1,.int .i64 r6.1,.int .i64 r7.1,.int .i64 r8.1,.int .i64 r9.1,.int .i64 r10.1,.int .i64 r11.1,.int .i64 r12.1,.int .i64 r13.1,.slice A_v (P k).1.length c_v]:List Value).length):=Lib.hid (by kernel_rfl)
         cases htr:taskRight x with
         | false =>
           have HV:Hid (taskRead t a=⟨zeroTask,0,1⟩):=Lib.hid (by rw [HD.out,if_pos htr])
           go_wp2_with (first | (refine wpList_load_mid rfl 27 _ rfl N5 0 rfl [.int .i64 r1.1,.int .i64 r2.1,.int .i64 r3.1,.string r4.1,.int .i64 r5.1,.int .i64 r6.1,.int .i64 r7.1,.int .i64 r8.1,.int .i64 r9.1,.int .i64 r10.1,.int .i64 r11.1,.int .i64 r12.1,.int .i64 r13.1,.slice A_v (P k).1.length c_v] _ HC.out Try.underlying27 rfl HI.out ?_) | (go_at_call 12;(with_reducible refine (specTaskRight_any (S:=fun b=>b∈F2) x [.int .i64 r1.1,.int .i64 r2.1,.int .i64 r3.1,.string r4.1,.int .i64 r5.1,.int .i64 r6.1,.int .i64 r7.1,.int .i64 r8.1,.int .i64 r9.1,.int .i64 r10.1,.int .i64 r11.1,.int .i64 r12.1,.int .i64 r13.1,.slice A_v (P k).1.length c_v] _ (HREL.out _ (Ext.refl _))).mono ?_);rintro e w4 ⟨rfl,hx4⟩;have X4:=Lib.hid (XW.out.trans hx4);have R4:=Lib.hid (RW.out.ext hx4);have HC4:=Lib.hid (hx4.range HC.out);have H4:=Lib.hid hx4;clear hx4) | (refine wpList_store_mid rfl 33 _ _ rfl R 0 #[.int .i64 0,.int .i64 0,.int .i64 0,.string ⟨#[]⟩,.int .i64 0,.int .i64 0,.int .i64 0,.int .i64 0,.int .i64 0,.int .i64 0,.int .i64 0,.int .i64 0,.int .i64 0,.slice none 0 0,.int .i64 0,.int .i64 1] rfl rfl (Blk.there (t:=33) (cs:=#[.int .i64 0,.int .i64 0,.int .i64 0,.string ⟨#[]⟩,.int .i64 0,.int .i64 0,.int .i64 0,.int .i64 0,.int .i64 0,.int .i64 0,.int .i64 0,.int .i64 0,.int .i64 0,.slice none 0 0,.int .i64 0,.int .i64 0]) R4.out) (by kernel_rfl) (all_oneCell_toArray (cs:=[.int .i64 0,.int .i64 0,.int .i64 0,.string ⟨#[]⟩,.int .i64 0,.int .i64 0,.int .i64 0,.int .i64 0,.int .i64 0,.int .i64 0,.int .i64 0,.int .i64 0,.int .i64 0,.slice none 0 0,.int .i64 0,.int .i64 1]) (by simp [Value.oneCell'])) ?_))
           exact bodyPost_ret (v:=.agg #[.int .i64 0,.int .i64 0,.int .i64 0,.string ⟨#[]⟩,.int .i64 0,.int .i64 0,.int .i64 0,.int .i64 0,.int .i64 0,.int .i64 0,.int .i64 0,.int .i64 0,.int .i64 0,.slice none 0 0,.int .i64 0,.int .i64 1]) (results_blk Try.results8 rfl (Blk.setAll (t:=33) (cs:=#[.int .i64 0,.int .i64 0,.int .i64 0,.string ⟨#[]⟩,.int .i64 0,.int .i64 0,.int .i64 0,.int .i64 0,.int .i64 0,.int .i64 0,.int .i64 0,.int .i64 0,.int .i64 0,.slice none 0 0,.int .i64 0,.int .i64 0]) (vs:=#[.int .i64 0,.int .i64 0,.int .i64 0,.string ⟨#[]⟩,.int .i64 0,.int .i64 0,.int .i64 0,.int .i64 0,.int .i64 0,.int .i64 0,.int .i64 0,.int .i64 0,.int .i64 0,.slice none 0 0,.int .i64 0,.int .i64 1]) R4.out rfl) Try.underlying33 rfl (by kernel_rfl)) rfl ⟨_,[],rfl,⟨.slice none 0 0,by rw [HV.out];rfl,by rw [HV.out];exact fit_bad (by unfold I64;decide),by rw [HV.out];exact OwS.nil _⟩,fun b hb=>absurd hb (by simp),setCells_ext HRB.out _ _ _ X4.out⟩
         | true =>
           have HV:Hid (taskRead t a=⟨x,(P k).2.1,0⟩):=Lib.hid (by rw [HD.out,if_neg (by simp [htr])])
           go_wp2_with (first | (refine wpList_load_mid rfl 27 _ rfl N5 0 rfl [.int .i64 r1.1,.int .i64 r2.1,.int .i64 r3.1,.string r4.1,.int .i64 r5.1,.int .i64 r6.1,.int .i64 r7.1,.int .i64 r8.1,.int .i64 r9.1,.int .i64 r10.1,.int .i64 r11.1,.int .i64 r12.1,.int .i64 r13.1,.slice A_v (P k).1.length c_v] _ HC.out Try.underlying27 rfl HI.out ?_) | (go_at_call 12;(with_reducible refine (specTaskRight_any (S:=fun b=>b∈F2) x [.int .i64 r1.1,.int .i64 r2.1,.int .i64 r3.1,.string r4.1,.int .i64 r5.1,.int .i64 r6.1,.int .i64 r7.1,.int .i64 r8.1,.int .i64 r9.1,.int .i64 r10.1,.int .i64 r11.1,.int .i64 r12.1,.int .i64 r13.1,.slice A_v (P k).1.length c_v] _ (HREL.out _ (Ext.refl _))).mono ?_);rintro e w4 ⟨rfl,hx4⟩;have X4:=Lib.hid (XW.out.trans hx4);have R4:=Lib.hid (RW.out.ext hx4);have HC4:=Lib.hid (hx4.range HC.out);have H4:=Lib.hid hx4;clear hx4) | (refine wpList_load_mid rfl 27 _ rfl N5 0 rfl [.int .i64 r1.1,.int .i64 r2.1,.int .i64 r3.1,.string r4.1,.int .i64 r5.1,.int .i64 r6.1,.int .i64 r7.1,.int .i64 r8.1,.int .i64 r9.1,.int .i64 r10.1,.int .i64 r11.1,.int .i64 r12.1,.int .i64 r13.1,.slice A_v (P k).1.length c_v] _ HC4.out Try.underlying27 rfl HI.out ?_) | (refine wpList_store_mid rfl 33 _ _ rfl R 0 #[.int .i64 r1.1,.int .i64 r2.1,.int .i64 r3.1,.string r4.1,.int .i64 r5.1,.int .i64 r6.1,.int .i64 r7.1,.int .i64 r8.1,.int .i64 r9.1,.int .i64 r10.1,.int .i64 r11.1,.int .i64 r12.1,.int .i64 r13.1,.slice A_v (P k).1.length c_v,.int .i64 (P k).2.1,.int .i64 0] rfl rfl (Blk.there (t:=33) (cs:=#[.int .i64 0,.int .i64 0,.int .i64 0,.string ⟨#[]⟩,.int .i64 0,.int .i64 0,.int .i64 0,.int .i64 0,.int .i64 0,.int .i64 0,.int .i64 0,.int .i64 0,.int .i64 0,.slice none 0 0,.int .i64 0,.int .i64 0]) R4.out) (by kernel_rfl) (all_oneCell_toArray (cs:=[.int .i64 r1.1,.int .i64 r2.1,.int .i64 r3.1,.string r4.1,.int .i64 r5.1,.int .i64 r6.1,.int .i64 r7.1,.int .i64 r8.1,.int .i64 r9.1,.int .i64 r10.1,.int .i64 r11.1,.int .i64 r12.1,.int .i64 r13.1,.slice A_v (P k).1.length c_v,.int .i64 (P k).2.1,.int .i64 0]) (by simp [Value.oneCell'])) ?_))
           exact bodyPost_ret (v:=.agg #[.int .i64 r1.1,.int .i64 r2.1,.int .i64 r3.1,.string r4.1,.int .i64 r5.1,.int .i64 r6.1,.int .i64 r7.1,.int .i64 r8.1,.int .i64 r9.1,.int .i64 r10.1,.int .i64 r11.1,.int .i64 r12.1,.int .i64 r13.1,.slice A_v (P k).1.length c_v,.int .i64 (P k).2.1,.int .i64 0]) (results_blk Try.results8 rfl (Blk.setAll (t:=33) (cs:=#[.int .i64 0,.int .i64 0,.int .i64 0,.string ⟨#[]⟩,.int .i64 0,.int .i64 0,.int .i64 0,.int .i64 0,.int .i64 0,.int .i64 0,.int .i64 0,.int .i64 0,.int .i64 0,.slice none 0 0,.int .i64 0,.int .i64 0]) (vs:=#[.int .i64 r1.1,.int .i64 r2.1,.int .i64 r3.1,.string r4.1,.int .i64 r5.1,.int .i64 r6.1,.int .i64 r7.1,.int .i64 r8.1,.int .i64 r9.1,.int .i64 r10.1,.int .i64 r11.1,.int .i64 r12.1,.int .i64 r13.1,.slice A_v (P k).1.length c_v,.int .i64 (P k).2.1,.int .i64 0]) R4.out rfl) Try.underlying33 rfl (by kernel_rfl)) rfl ⟨_,F2,rfl,by rw [HV.out];exact HOF.out _ (fun b hb=>((Kept.setCells (F:=[R]) (by simp) _ _ _ (Kept.refl _ _)).block b (Nat.lt_of_lt_of_le (HO2.out.lt b hb) H4.out.size) (by have h1:=HF2.out b hb;have h2:=HX5.out.size;have h3:=RR.out.lt;simp;omega)).trans (Below.block H4.out b (HO2.out.lt b hb))),fun b hb=>by have h1:=HF2.out b hb;have h2:=HX5.out.size;have h3:=HX.out.size;omega,setCells_ext HRB.out _ _ _ X4.out⟩
  · have hk13:k < 13:=by omega
    have e13:((k:Int) == 13)=false:=by simp;omega
    by_cases h3:k=3
    · subst h3
      have HTE:=Lib.hid (HTXT.out (fun j hj=>HZ.out j hj))
      have I_A3:Hid (I64 (nth al 3)):=Lib.hid (HIA.out 3)
      go_upto_region 8 with (go_at_call 30;(with_reducible refine (specGetText_any t (nth al 3) _ I_A3.out HT.out).mono ?_);rintro e ux ⟨rfl,hx1⟩;rw [HTE.out];have Xux:=Lib.hid (HX.out.trans hx1);have Rux:=Lib.hid (RR.out.ext hx1);have Oux:=Lib.hid (HO.out.ext hx1);clear hx1)
      obtain ⟨Vx,Nx,hW,hB,hx,n⟩:∃ V B,V=ux.alloc (.cells #[.string r4.1,.int .i64 r4.2.1,.int .i64 r4.2.2] 56)∧B=ux.heap.size∧Ext ux V∧Blk V B 56 #[.string r4.1,.int .i64 r4.2.1,.int .i64 r4.2.2]:=⟨_,_,rfl,rfl,(Ext.refl _).alloc _,Blk.new _ _ _⟩
      rw [← hW,← hB]
      have XVx:=Lib.hid (Xux.out.trans hx)
      have RVx:=Lib.hid (Rux.out.ext hx)
      have OVx:=Lib.hid (Oux.out.ext hx)
      have NVx:=Lib.hid n
      have LVx:Hid (ux.heap.size≤Nx):=Lib.hid (by omega)
      clear hW hB hx n
      have t0:Vx.cell? ⟨Nx,0,none⟩=some (.string r4.1):=NVx.out.cell 0
      have t1:Vx.cell? ⟨Nx,1,none⟩=some (.int .i64 r4.2.1):=NVx.out.cell 1
      have t2:Vx.cell? ⟨Nx,2,none⟩=some (.int .i64 r4.2.2):=NVx.out.cell 2
      by_cases hc4:r4.2.2=0
      · skip
        have HC4:=Lib.hid hc4
        rw [hc4] at t2
        clear hc4
        have I_AT:Hid (I64 (r4.2.1)):=Lib.hid G4.out.2.1
        have HNE:=Lib.hid (HNUM3.out HC4.out)
        go_upto_region 14 with (go_at_call 31;(with_reducible refine (specGetNum_any t (r4.2.1) _ I_AT.out HT.out).mono ?_);rintro e un ⟨rfl,hx1⟩;rw [HNE.out];have Xun:=Lib.hid (XVx.out.trans hx1);have Run:=Lib.hid (RVx.out.ext hx1);have Oun:=Lib.hid (OVx.out.ext hx1);clear hx1)
        obtain ⟨Vn,Nn,hW,hB,hx,n⟩:∃ V B,V=un.alloc (.cells #[.int .i64 (nth nl 3),.int .i64 (nth al 4),.int .i64 (nth cl 3)] 59)∧B=un.heap.size∧Ext un V∧Blk V B 59 #[.int .i64 (nth nl 3),.int .i64 (nth al 4),.int .i64 (nth cl 3)]:=⟨_,_,rfl,rfl,(Ext.refl _).alloc _,Blk.new _ _ _⟩
        rw [← hW,← hB]
        have XVn:=Lib.hid (Xun.out.trans hx)
        have RVn:=Lib.hid (Run.out.ext hx)
        have OVn:=Lib.hid (Oun.out.ext hx)
        have NVn:=Lib.hid n
        have LVn:Hid (un.heap.size≤Nn):=Lib.hid (by omega)
        clear hW hB hx n
        have c0:Vn.cell? ⟨Nn,0,none⟩=some (.int .i64 (nth nl 3)):=NVn.out.cell 0
        have c1:Vn.cell? ⟨Nn,1,none⟩=some (.int .i64 (nth al 4)):=NVn.out.cell 1
        have c2:Vn.cell? ⟨Nn,2,none⟩=some (.int .i64 (nth cl 3)):=NVn.out.cell 2
        by_cases hce:nth cl 3=0
        · skip
          have HCE:=Lib.hid hce
          rw [hce] at c2
          clear hce
          have HTK:=Lib.hid (take_succ_nth (l:=nl) (k:=3) (by rw [HLN.out];omega))
          have HNF:Hid (Nn∉F):=Lib.hid (fun h=>by have h1:=Oun.out.lt _ h;have h2:=LVn.out;omega)
          have c0a:=fun ob:Obj=>Ext.some ((Ext.refl Vn).alloc ob) c0
          have c1a:=fun ob:Obj=>Ext.some ((Ext.refl Vn).alloc ob) c1
          go_wp2_with (at_builtin;refine wpList_append_one (O:=OInt) (T:=2) (l:=nl.take 3) (F:=F) (G:=[]) (y:=nth nl 3) (cs:=[.int .i64 (nth nl 3)]) rfl _ _ 25 rfl (.int .i64 0) 1 8 Try.underlying25 (by kernel_rfl) rfl rfl rfl (OVn.out.ext ((Ext.refl _).alloc _)) _ 0 1 rfl ⟨⟨rfl,HIN.out _⟩,rfl⟩ (Blk.new _ _ _).range (by simpa using HO.out.nodup) (by rw [List.length_take,HLN.out];omega) (by decide) ?_;intro v9 w9 F9 how hkp hF9;have HOW:=Lib.hid how;have HKP:=Lib.hid hkp;have HFF:=Lib.hid hF9;have c1b:w9.cell? ⟨Nn,1,none⟩=some (.int .i64 (nth al 4)):=hkp.cell HNF.out (c1a _);clear how hkp hF9)
          refine ⟨⟨4,F9,_,by omega,by go_num,rfl,rfl,fun _=>rfl,by rw [HTK.out];exact HOW.out,fun b hb=>?_,?_,?_,fun j hj=>?_⟩,?_⟩
          · rcases HFF.out b hb with h | h | h
            · exact HF.out b h
            · cases h
            · have h1:=RVn.out.lt;have h2:=((Ext.refl Vn).alloc (.cells #[.int .i64 (nth nl 3)] 2)).size;omega
          · exact (HKP.out.block R ((RVn.out.ext ((Ext.refl _).alloc _)).lt) (fun h=>by have:=HF.out _ h;omega)).trans (RVn.out.ext ((Ext.refl _).alloc _))
          · exact HKP.out.ext (XVn.out.alloc _) (fun b hb=>by have h1:=HF.out b hb;have h2:=HRB.out;omega)
          · rcases Nat.lt_or_ge j 3 with h | h
            · exact HZ.out j h
            · obtain rfl:j=3:=by omega
              exact HCE.out
          · simp [intOf]
        · have HV:=Lib.hid (HERR.out 3 (by omega) hce)
          go_wp2_with (first | (refine wpList_store_mid rfl 33 _ _ rfl R 0 #[.int .i64 0,.int .i64 0,.int .i64 0,.string ⟨#[]⟩,.int .i64 0,.int .i64 0,.int .i64 0,.int .i64 0,.int .i64 0,.int .i64 0,.int .i64 0,.int .i64 0,.int .i64 0,.slice none 0 0,.int .i64 0,.int .i64 (nth cl 3)] rfl rfl (Blk.there (t:=33) (cs:=#[.int .i64 0,.int .i64 0,.int .i64 0,.string ⟨#[]⟩,.int .i64 0,.int .i64 0,.int .i64 0,.int .i64 0,.int .i64 0,.int .i64 0,.int .i64 0,.int .i64 0,.int .i64 0,.slice none 0 0,.int .i64 0,.int .i64 0]) RVn.out) (by kernel_rfl) (all_oneCell_toArray (cs:=[.int .i64 0,.int .i64 0,.int .i64 0,.string ⟨#[]⟩,.int .i64 0,.int .i64 0,.int .i64 0,.int .i64 0,.int .i64 0,.int .i64 0,.int .i64 0,.int .i64 0,.int .i64 0,.slice none 0 0,.int .i64 0,.int .i64 (nth cl 3)]) (by simp [Value.oneCell'])) ?_))
          exact bodyPost_ret (v:=.agg #[.int .i64 0,.int .i64 0,.int .i64 0,.string ⟨#[]⟩,.int .i64 0,.int .i64 0,.int .i64 0,.int .i64 0,.int .i64 0,.int .i64 0,.int .i64 0,.int .i64 0,.int .i64 0,.slice none 0 0,.int .i64 0,.int .i64 (nth cl 3)]) (results_blk Try.results8 rfl (Blk.setAll (t:=33) (cs:=#[.int .i64 0,.int .i64 0,.int .i64 0,.string ⟨#[]⟩,.int .i64 0,.int .i64 0,.int .i64 0,.int .i64 0,.int .i64 0,.int .i64 0,.int .i64 0,.int .i64 0,.int .i64 0,.slice none 0 0,.int .i64 0,.int .i64 0]) (vs:=#[.int .i64 0,.int .i64 0,.int .i64 0,.string ⟨#[]⟩,.int .i64 0,.int .i64 0,.int .i64 0,.int .i64 0,.int .i64 0,.int .i64 0,.int .i64 0,.int .i64 0,.int .i64 0,.slice none 0 0,.int .i64 0,.int .i64 (nth cl 3)]) RVn.out rfl) Try.underlying33 rfl (by kernel_rfl)) rfl ⟨_,[],rfl,⟨.slice none 0 0,by rw [HV.out];rfl,by rw [HV.out];exact fit_bad (HIC.out _),by rw [HV.out];exact OwS.nil _⟩,fun b hb=>absurd hb (by simp),setCells_ext HRB.out _ _ _ XVn.out⟩
      · have HV:=Lib.hid (HCH.out.err4 hc4)
        go_wp2_with (first | (refine wpList_store_mid rfl 33 _ _ rfl R 0 #[.int .i64 0,.int .i64 0,.int .i64 0,.string ⟨#[]⟩,.int .i64 0,.int .i64 0,.int .i64 0,.int .i64 0,.int .i64 0,.int .i64 0,.int .i64 0,.int .i64 0,.int .i64 0,.slice none 0 0,.int .i64 0,.int .i64 r4.2.2] rfl rfl (Blk.there (t:=33) (cs:=#[.int .i64 0,.int .i64 0,.int .i64 0,.string ⟨#[]⟩,.int .i64 0,.int .i64 0,.int .i64 0,.int .i64 0,.int .i64 0,.int .i64 0,.int .i64 0,.int .i64 0,.int .i64 0,.slice none 0 0,.int .i64 0,.int .i64 0]) RVx.out) (by kernel_rfl) (all_oneCell_toArray (cs:=[.int .i64 0,.int .i64 0,.int .i64 0,.string ⟨#[]⟩,.int .i64 0,.int .i64 0,.int .i64 0,.int .i64 0,.int .i64 0,.int .i64 0,.int .i64 0,.int .i64 0,.int .i64 0,.slice none 0 0,.int .i64 0,.int .i64 r4.2.2]) (by simp [Value.oneCell'])) ?_))
        exact bodyPost_ret (v:=.agg #[.int .i64 0,.int .i64 0,.int .i64 0,.string ⟨#[]⟩,.int .i64 0,.int .i64 0,.int .i64 0,.int .i64 0,.int .i64 0,.int .i64 0,.int .i64 0,.int .i64 0,.int .i64 0,.slice none 0 0,.int .i64 0,.int .i64 r4.2.2]) (results_blk Try.results8 rfl (Blk.setAll (t:=33) (cs:=#[.int .i64 0,.int .i64 0,.int .i64 0,.string ⟨#[]⟩,.int .i64 0,.int .i64 0,.int .i64 0,.int .i64 0,.int .i64 0,.int .i64 0,.int .i64 0,.int .i64 0,.int .i64 0,.slice none 0 0,.int .i64 0,.int .i64 0]) (vs:=#[.int .i64 0,.int .i64 0,.int .i64 0,.string ⟨#[]⟩,.int .i64 0,.int .i64 0,.int .i64 0,.int .i64 0,.int .i64 0,.int .i64 0,.int .i64 0,.int .i64 0,.int .i64 0,.slice none 0 0,.int .i64 0,.int .i64 r4.2.2]) RVx.out rfl) Try.underlying33 rfl (by kernel_rfl)) rfl ⟨_,[],rfl,⟨.slice none 0 0,by rw [HV.out];rfl,by rw [HV.out];exact fit_bad (G4.out.2.2),by rw [HV.out];exact OwS.nil _⟩,fun b hb=>absurd hb (by simp),setCells_ext HRB.out _ _ _ XVx.out⟩
    · have e3:((k:Int) == 3)=false:=by simp;omega
      have I_AT:Hid (I64 (nth al k)):=Lib.hid (HIA.out k)
      have HNE:=Lib.hid (HNUM.out k hk13 h3 HZ.out)
      go_upto_region 14 with (go_at_call 31;(with_reducible refine (specGetNum_any t (nth al k) _ I_AT.out HT.out).mono ?_);rintro e um ⟨rfl,hx1⟩;rw [HNE.out];have Xum:=Lib.hid (HX.out.trans hx1);have Rum:=Lib.hid (RR.out.ext hx1);have Oum:=Lib.hid (HO.out.ext hx1);clear hx1)
      obtain ⟨Vm,Nm,hW,hB,hx,n⟩:∃ V B,V=um.alloc (.cells #[.int .i64 (nth nl k),.int .i64 (nth al (k+1)),.int .i64 (nth cl k)] 59)∧B=um.heap.size∧Ext um V∧Blk V B 59 #[.int .i64 (nth nl k),.int .i64 (nth al (k+1)),.int .i64 (nth cl k)]:=⟨_,_,rfl,rfl,(Ext.refl _).alloc _,Blk.new _ _ _⟩
      rw [← hW,← hB]
      have XVm:=Lib.hid (Xum.out.trans hx)
      have RVm:=Lib.hid (Rum.out.ext hx)
      have OVm:=Lib.hid (Oum.out.ext hx)
      have NVm:=Lib.hid n
      have LVm:Hid (um.heap.size≤Nm):=Lib.hid (by omega)
      clear hW hB hx n
      have c0:Vm.cell? ⟨Nm,0,none⟩=some (.int .i64 (nth nl k)):=NVm.out.cell 0
      have c1:Vm.cell? ⟨Nm,1,none⟩=some (.int .i64 (nth al (k+1))):=NVm.out.cell 1
      have c2:Vm.cell? ⟨Nm,2,none⟩=some (.int .i64 (nth cl k)):=NVm.out.cell 2
      by_cases hce:nth cl k=0
      · skip
        have HCE:=Lib.hid hce
        rw [hce] at c2
        clear hce
        have HTK:=Lib.hid (take_succ_nth (l:=nl) (k:=k) (by rw [HLN.out];omega))
        have HNF:Hid (Nm∉F):=Lib.hid (fun h=>by have h1:=Oum.out.lt _ h;have h2:=LVm.out;omega)
        have c0a:=fun ob:Obj=>Ext.some ((Ext.refl Vm).alloc ob) c0
        have c1a:=fun ob:Obj=>Ext.some ((Ext.refl Vm).alloc ob) c1
        go_wp2_with (at_builtin;refine wpList_append_one (O:=OInt) (T:=2) (l:=nl.take k) (F:=F) (G:=[]) (y:=nth nl k) (cs:=[.int .i64 (nth nl k)]) rfl _ _ 25 rfl (.int .i64 0) 1 8 Try.underlying25 (by kernel_rfl) rfl rfl rfl (OVm.out.ext ((Ext.refl _).alloc _)) _ 0 1 rfl ⟨⟨rfl,HIN.out _⟩,rfl⟩ (Blk.new _ _ _).range (by simpa using HO.out.nodup) (by rw [List.length_take,HLN.out];omega) (by decide) ?_;intro v9 w9 F9 how hkp hF9;have HOW:=Lib.hid how;have HKP:=Lib.hid hkp;have HFF:=Lib.hid hF9;have c1b:w9.cell? ⟨Nm,1,none⟩=some (.int .i64 (nth al (k+1))):=hkp.cell HNF.out (c1a _);clear how hkp hF9)
        refine ⟨⟨k+1,F9,_,by omega,by go_num,rfl,rfl,fun h=>HOW3.out (by omega),by rw [HTK.out];exact HOW.out,fun b hb=>?_,?_,?_,fun j hj=>?_⟩,?_⟩
        · rcases HFF.out b hb with h | h | h
          · exact HF.out b h
          · cases h
          · have h1:=RVm.out.lt;have h2:=((Ext.refl Vm).alloc (.cells #[.int .i64 (nth nl k)] 2)).size;omega
        · exact (HKP.out.block R ((RVm.out.ext ((Ext.refl _).alloc _)).lt) (fun h=>by have:=HF.out _ h;omega)).trans (RVm.out.ext ((Ext.refl _).alloc _))
        · exact HKP.out.ext (XVm.out.alloc _) (fun b hb=>by have h1:=HF.out b hb;have h2:=HRB.out;omega)
        · rcases Nat.lt_or_ge j k with h | h
          · exact HZ.out j h
          · obtain rfl:j=k:=by omega
            exact HCE.out
        · simp [intOf];omega
      · have HV:=Lib.hid (HERR.out k (by omega) hce)
        go_wp2_with (first | (refine wpList_store_mid rfl 33 _ _ rfl R 0 #[.int .i64 0,.int .i64 0,.int .i64 0,.string ⟨#[]⟩,.int .i64 0,.int .i64 0,.int .i64 0,.int .i64 0,.int .i64 0,.int .i64 0,.int .i64 0,.int .i64 0,.int .i64 0,.slice none 0 0,.int .i64 0,.int .i64 (nth cl k)] rfl rfl (Blk.there (t:=33) (cs:=#[.int .i64 0,.int .i64 0,.int .i64 0,.string ⟨#[]⟩,.int .i64 0,.int .i64 0,.int .i64 0,.int .i64 0,.int .i64 0,.int .i64 0,.int .i64 0,.int .i64 0,.int .i64 0,.slice none 0 0,.int .i64 0,.int .i64 0]) RVm.out) (by kernel_rfl) (all_oneCell_toArray (cs:=[.int .i64 0,.int .i64 0,.int .i64 0,.string ⟨#[]⟩,.int .i64 0,.int .i64 0,.int .i64 0,.int .i64 0,.int .i64 0,.int .i64 0,.int .i64 0,.int .i64 0,.int .i64 0,.slice none 0 0,.int .i64 0,.int .i64 (nth cl k)]) (by simp [Value.oneCell'])) ?_))
        exact bodyPost_ret (v:=.agg #[.int .i64 0,.int .i64 0,.int .i64 0,.string ⟨#[]⟩,.int .i64 0,.int .i64 0,.int .i64 0,.int .i64 0,.int .i64 0,.int .i64 0,.int .i64 0,.int .i64 0,.int .i64 0,.slice none 0 0,.int .i64 0,.int .i64 (nth cl k)]) (results_blk Try.results8 rfl (Blk.setAll (t:=33) (cs:=#[.int .i64 0,.int .i64 0,.int .i64 0,.string ⟨#[]⟩,.int .i64 0,.int .i64 0,.int .i64 0,.int .i64 0,.int .i64 0,.int .i64 0,.int .i64 0,.int .i64 0,.int .i64 0,.slice none 0 0,.int .i64 0,.int .i64 0]) (vs:=#[.int .i64 0,.int .i64 0,.int .i64 0,.string ⟨#[]⟩,.int .i64 0,.int .i64 0,.int .i64 0,.int .i64 0,.int .i64 0,.int .i64 0,.int .i64 0,.int .i64 0,.int .i64 0,.slice none 0 0,.int .i64 0,.int .i64 (nth cl k)]) RVm.out rfl) Try.underlying33 rfl (by kernel_rfl)) rfl ⟨_,[],rfl,⟨.slice none 0 0,by rw [HV.out];rfl,by rw [HV.out];exact fit_bad (HIC.out _),by rw [HV.out];exact OwS.nil _⟩,fun b hb=>absurd hb (by simp),setCells_ext HRB.out _ _ _ XVm.out⟩
end Go.Proofs.Ytlonjlaecaemgaa
