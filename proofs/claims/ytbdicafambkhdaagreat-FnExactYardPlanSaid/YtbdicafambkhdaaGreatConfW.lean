/- The walk of the reference's l09Labels. Printed by wip/conft.py. The walk of the reference's l09Pairs. Printed by wip/conft.py. The walks of the reference's ConfigRight and ClearFor. Printed by wip/confw.py. -/
import Derived.Test.YtbdicafambkhdaaGreatConfV
set_option maxHeartbeats 8000000
set_option maxRecDepth 100000
namespace Go.Proofs.YtbdicafambkhdaaGreat
open Go.Proofs.Tryz
open Go.RowKit
attribute [local irreducible] wpQuiet
theorem aa2 (k:Nat):jU k=⟨(k:Int) / 8,(k:Int) % 8⟩:=by
 unfold jU;simp
theorem ku {S:Nat→Prop} (ns:List (List Label)) (v:Value) (w:World) (h:Rd (gU aH) S w v ns) :
 Calls prog 86 #[v] w (kX eX 47 (labelsIn ns) w):=by
 obtain ⟨A,c,rfl,h1,h2,hk⟩:=h.open_;unfold maxLen at h2;have HK:=ah hk;clear hk h;go_enter func86,ntmps86;go_upto_region 2 with (fail)
 obtain ⟨W,B,hW,hB,hx0,b0⟩:∃ W B,W=w.alloc (.cells #[] 47)∧B=w.heap.size∧Ext w W∧aF W B 47 #[]:=⟨_,_,rfl,rfl,(Ext.refl w).alloc _,aF.new _ _ _⟩
 rw [← hW,← hB];have HB:Hid (w.heap.size≤B):=ah (by omega);have B0:=ah b0;have X0:=ah hx0;clear hW hB hx0 b0;go_wp2_with fail;go_loopw [3,4] (fun u i w'=>∃ (k:Nat) (F:List Nat),k≤32∧i=.int .i64 k∧aW eX 47 w' u (jP ns k) F∧(∀ b∈F,w.heap.size≤b)∧Ext w w') (fun _ i _=>32 - (intOf i).toNat);case atStart=>exact ⟨0,[B],by omega,rfl,SY B0.out,fun b hb=>by rw [List.mem_singleton.1 hb];exact HB.out,X0.out⟩
 case round =>
  obtain ⟨k,F,hk1,rfl,ho,hF,hx⟩:=hrel;obtain ⟨AO,cO,rfl,-⟩:=ho.form;have HO:=ah ho;have uT:=ah hF;have HX:=ah hx;clear ho hF hx;by_cases hlt:k < 32
  · have HE:=ah (acE ns k);have HLe:=ah (Xr ns k);have HLD:=ah (aa2 k);go_upto_region 6 with (fail)
    obtain ⟨W5,B5,IZ,Hz,hx5,b5⟩:∃ W5 B5,W5=wr.alloc (.cells #[.int .i64 ((k:Int) / 8),.int .i64 ((k:Int) % 8)] 47)∧B5=wr.heap.size∧Ext wr W5∧aF W5 B5 47 (Rl (jU k)):=⟨_,_,rfl,rfl,(Ext.refl _).alloc _,by rw [aa2];exact aF.new _ _ _⟩
    rw [← IZ,← Hz];have Q5:=ah b5;have X5:=ah hx5;clear IZ Hz hx5 b5;go_wp2_with fail;have ao6:(k:Int) < 32:=by omega
    simp only [decide_eq_true ao6];go_loopw [6,7] (fun f i w'=>∃ (i':Nat),i'≤ns.length∧i=.int .i64 i'∧f=.bool ((ns.take i').any (fun l=>cleared l (jU k)))∧Ext W5 w') (fun _ i _=>ns.length - (intOf i).toNat);case atStart=>exact ⟨0,by omega,rfl,rfl,Ext.refl _⟩
    case round =>
     obtain ⟨i,hi1,rfl,rfl,hx2⟩:=hrel;have HX2:=ah hx2;by_cases hlt2:i < ns.length
     · obtain ⟨b,o,cs,rfl,_,⟨v1,rfl,hr⟩,hc⟩:=HK.out i hlt2;obtain ⟨A1,c1,rfl,-⟩:=hr.form;have hxx:=HX.out.trans (X5.out.trans hx2);have c0:=Ext.some hxx (hc 0 _ rfl);simp only [gU,Nat.mul_one,Nat.add_zero] at c0;have HR:=ah (hr.ext hxx);have d0:=Ext.some hx2 (Q5.out.cell 0);have d1:=Ext.some hx2 (Q5.out.cell 1);obtain ⟨t,ht⟩:∃ t,cleared (nth ns i) (jU k)=t:=⟨_,rfl⟩
       have T:=ah ht;clear hc hr hx2 hxx ht;generalize hf:(ns.take i).any (fun l=>cleared l (jU k))=f;have F:=ah hf;clear hf;cases f with
       | false =>
         cases t with
         | false =>
           have HN:Hid ((ns.take (i+1)).any (fun l=>cleared l (jU k))=false):=ah (by rw [aV hlt2,List.any_append,F.out];simp [T.out]);go_wp2_with fail;refine ak (by kernel_rfl) (by kernel_rfl) ?_;repeat (
            (refine wpQuiet_step (fun K hK=>?_)
             go_simp;first
              | (refine hK _ ?_;clear hK K)
              | (apply Exists.intro
                 refine ⟨fun bH aj=>?_,hK _ ?_⟩
                 · have kH:=Ext.some aj c0;have jH:=Ext.some aj d0;have kJ:=Ext.some aj d1;first | exact rfl | (go_simp;done) | (go_simp;exact rfl) | (go_at_call 87;exact aJ aj (dU (S:=S) (nth ns i) (jU k) _ _ (HR.out.ext aj) _ T.out))
                 clear hK K)))
           refine wpQuiet_nil ?_;intro w1 hx1;have HE:=ah hx1;clear c0 d0 d1 hx1;go_wp2_with fail;refine ⟨⟨i+1,by omega,by go_num,by rw [HN.out],HX2.out.trans HE.out⟩,by simp [intOf];omega⟩
         | true =>
           have HN:Hid ((ns.take (i+1)).any (fun l=>cleared l (jU k))=true):=ah (by rw [aV hlt2,List.any_append,F.out];simp [T.out]);go_wp2_with fail;refine ak (by kernel_rfl) (by kernel_rfl) ?_;repeat (
            (refine wpQuiet_step (fun K hK=>?_)
             go_simp;first
              | (refine hK _ ?_;clear hK K)
              | (apply Exists.intro
                 refine ⟨fun bH aj=>?_,hK _ ?_⟩
                 · have kH:=Ext.some aj c0;have jH:=Ext.some aj d0;have kJ:=Ext.some aj d1;first | exact rfl | (go_simp;done) | (go_simp;exact rfl) | (go_at_call 87;exact aJ aj (dU (S:=S) (nth ns i) (jU k) _ _ (HR.out.ext aj) _ T.out))
                 clear hK K)))
           refine wpQuiet_nil ?_;intro w1 hx1;have HE:=ah hx1;clear c0 d0 d1 hx1;go_wp2_with fail;refine ⟨⟨i+1,by omega,by go_num,by rw [HN.out],HX2.out.trans HE.out⟩,by simp [intOf];omega⟩
       | true =>
         have HN:Hid ((ns.take (i+1)).any (fun l=>cleared l (jU k))=true):=ah (by rw [aV hlt2,List.any_append,F.out];simp [T.out]);go_wp2_with fail;refine ak (by kernel_rfl) (by kernel_rfl) ?_;repeat (
          (refine wpQuiet_step (fun K hK=>?_)
           go_simp;first
            | (refine hK _ ?_;clear hK K)
            | (apply Exists.intro
               refine ⟨fun bH aj=>?_,hK _ ?_⟩
               · first | exact rfl | (go_simp;done) | (go_simp;exact rfl)
               clear hK K)))
         refine wpQuiet_nil ?_;intro w1 hx1;have HE:=ah hx1;clear c0 d0 d1 hx1;go_wp2_with fail;refine ⟨⟨i+1,by omega,by go_num,by rw [HN.out],HX2.out.trans HE.out⟩,by simp [intOf];omega⟩
     · obtain rfl:i=ns.length:=by omega
       have HA:Hid ((ns.take ns.length).any (fun l=>cleared l (jU k))=qG ns (jU k)):=ah (by rw [List.take_length];rfl);have d0:=Ext.some hx2 (Q5.out.cell 0);have d1:=Ext.some hx2 (Q5.out.cell 1);clear hx2;rw [HA.out];generalize hf:qG ns (jU k)=f at *;clear hf;have X2:=ah (HX.out.trans (X5.out.trans HX2.out));have XW:=ah (X5.out.trans HX2.out);cases f with
       | false =>
         go_wp2_with fail;refine ⟨⟨k+1,F,by omega,by go_num,by rw [HE.out];simpa using HO.out.ext XW.out,uT.out,X2.out⟩,by simp [intOf];omega⟩
       | true =>
         go_wp2_with (at_builtin;refine bM (O:=eX) (T:=47) (l:=jP ns k) (F:=F) (G:=[]) (y:=jU k) (cs:=Rl (jU k)) rfl _ _ 134 rfl (.agg Zr.l) 2 16 underlying134 (by kernel_rfl) rfl rfl rfl (HO.out.ext (XW.out.alloc _)) _ 0 1 rfl ⟨aC (by rw [HLD.out];unfold aP I64;simp only;omega),rfl⟩ (aF.new _ _ _).range (by simpa using HO.out.nodup) (by have:=HLe.out;omega) (by decide) ?_;intro v9 w9 F9 o9 k9 f9;have O9:=ah o9;have K9:=ah k9;have G9:=ah f9;clear o9 k9 f9);refine ⟨⟨k+1,F9,by omega,by go_num,by rw [HE.out];simpa using O9.out,fun b hb=>?_,K9.out.ext (X2.out.alloc _) uT.out⟩,by simp [intOf];omega⟩;rcases G9.out b hb with h | h | h
         · exact uT.out b h
         · cases h
         · exact Nat.le_trans (X2.out.alloc _).size h
  · obtain rfl:k=32:=by omega
    go_wp2_with fail;go_ret;exact ⟨_,F,rfl,HO.out,uT.out,HX.out⟩
theorem ahz {α:Type} [Inhabited α] {l:List α} {i j:Nat} (h:j < i) (hi:i≤l.length):nth (l.take i) j=nth l j:=by
 rw [aO (by rw [List.length_take];omega),aO (by omega)];simp
theorem Sv {S S':Nat→Prop} (ls:List Label) (ps:List Pair) (v u:Value) (w:World) (g:Rd aH S' w u ls) (h:Rd fA S w v ps) :
 Calls prog 169 #[u,v] w fun e w'=>e=.returned (.bool (iL ls ps))∧Ext w w':=by
 obtain ⟨A,c,rfl,h1,h2,hk⟩:=h.open_;unfold maxLen at h2;obtain ⟨AL,cL,rfl,-⟩:=g.form;have HK:=ah hk;have HL:=ah g;clear hk h g;by_cases h4:4 < ps.length
 · have HN:Hid (iL ls ps=false):=ah (by unfold iL;rw [decide_eq_false (by omega)];rfl);go_enter func169,ntmps169;go_wp2_with fail;go_ret;exact ⟨au HN.out.symm,Ext.refl _⟩
 have h4':ps.length≤4:=by omega
 clear h4;go_enter func169,ntmps169;go_wp2_with fail;go_loopw [5] (fun i w'=>∃ k:Nat,k≤ps.length∧i=.int .i64 k∧(∀ j,j < k→jW ls ps j=true)∧Ext w w') (fun i _=>ps.length - (intOf i).toNat);case atStart=>exact ⟨0,by omega,rfl,fun j hj=>by omega,Ext.refl _⟩
 case round =>
  obtain ⟨k,hk1,rfl,hall,hx⟩:=hrel;have HA:=ah hall;have HX:=ah hx;clear hall;by_cases hlt:k < ps.length
  · obtain ⟨b,o,cs,rfl,_,⟨rfl,hfit⟩,hc⟩:=HK.out k hlt;have lM:=ah hfit;have c0:=Ext.some hx (hc 0 _ rfl);have c1:=Ext.some hx (hc 1 _ rfl);have c2:=Ext.some hx (hc 2 _ rfl);have c3:=Ext.some hx (hc 3 _ rfl);have c4:=Ext.some hx (hc 4 _ rfl);simp only [fA,Nat.add_zero] at c0 c1 c2 c3 c4;clear hc hfit hx;go_upto_region 7 with (fail)
    obtain ⟨W5,B5,IZ,Hz,hx5,b5⟩:∃ W5 B5,W5=wr.alloc (.cells (Rp (nth ps k)) 214)∧B5=wr.heap.size∧Ext wr W5∧aF W5 B5 214 (fM (nth ps k)).toArray:=⟨_,_,rfl,rfl,(Ext.refl _).alloc _,aF.new _ _ _⟩
    rw [← IZ,← Hz];have X6:Hid (Ext w W5):=ah (HX.out.trans hx5);have Q6:=ah b5;clear IZ Hz hx5 b5 c0 c1 c2 c3 c4;have q0:=Q6.out.cell 0;have q1:=Q6.out.cell 1;have q2:=Q6.out.cell 2;have q3:=Q6.out.cell 3;have q4:=Q6.out.cell 4;simp only [fM,List.getElem?_toArray,List.getElem?_cons_succ,List.getElem?_cons_zero] at q0 q1 q2 q3 q4;obtain ⟨t1,ht1⟩:∃ t,cleared ls (nth ps k).from_=t:=⟨_,rfl⟩
    obtain ⟨t2,ht2⟩:∃ t,cleared ls (nth ps k).jA=t:=⟨_,rfl⟩
    obtain ⟨t3,ht3⟩:∃ t,mW (nth ps k).from_ (nth ps k).jA=t:=⟨_,rfl⟩
    obtain ⟨t4,Vg⟩:∃ t,jG (nth ps k).rate 1 3=t:=⟨_,rfl⟩
    have T1:=ah ht1;have T2:=ah ht2;have T3:=ah ht3;have T4:=ah Vg;clear ht1 ht2 ht3 Vg;cases t1
    case' false =>
     have HF:Hid (iL ls ps=false):=ah (kC hlt (by simp [jW,sF,T1.out]))
    case' true =>
     cases t2
     case' false =>
      have HF:Hid (iL ls ps=false):=ah (kC hlt (by simp [jW,sF,T2.out]))
     case' true =>
      cases t3
      case' true =>
       have HF:Hid (iL ls ps=false):=ah (kC hlt (by simp [jW,sF,T3.out]))
      case' false =>
       cases t4
       case' false =>
        have HF:Hid (iL ls ps=false):=ah (kC hlt (by simp [jW,sF,T4.out]))
       case' true =>
        skip
    all_goals go_wp2_with (first | (go_at_call 87;(with_reducible refine (dU (S:=S') ls (nth ps k).from_ _ _ (HL.out.ext X6.out) _ T1.out).mono ?_);rintro e w7 ⟨rfl,hx7⟩;replace X6:=ah (X6.out.trans hx7);replace Q6:=ah (Q6.out.ext hx7);clear hx7 q0 q1 q2 q3 q4;have q0:=Q6.out.cell 0;have q1:=Q6.out.cell 1;have q2:=Q6.out.cell 2;have q3:=Q6.out.cell 3;have q4:=Q6.out.cell 4;simp only [fM,List.getElem?_toArray,List.getElem?_cons_succ,List.getElem?_cons_zero] at q0 q1 q2 q3 q4) | (go_at_call 87;(with_reducible refine (dU (S:=S') ls (nth ps k).jA _ _ (HL.out.ext X6.out) _ T2.out).mono ?_);rintro e w7 ⟨rfl,hx7⟩;replace X6:=ah (X6.out.trans hx7);replace Q6:=ah (Q6.out.ext hx7);clear hx7 q0 q1 q2 q3 q4;have q0:=Q6.out.cell 0;have q1:=Q6.out.cell 1;have q2:=Q6.out.cell 2;have q3:=Q6.out.cell 3;have q4:=Q6.out.cell 4;simp only [fM,List.getElem?_toArray,List.getElem?_cons_succ,List.getElem?_cons_zero] at q0 q1 q2 q3 q4) | (go_at_call 246;(with_reducible refine (Vu (S:=S) (S':=S) (nth ps k).from_ (nth ps k).jA _ _ _ (aC (U5 lM.out)) (aC (adG lM.out)) _ T3.out).mono ?_);rintro e w7 ⟨rfl,hx7⟩;replace X6:=ah (X6.out.trans hx7);replace Q6:=ah (Q6.out.ext hx7);clear hx7 q0 q1 q2 q3 q4;have q0:=Q6.out.cell 0;have q1:=Q6.out.cell 1;have q2:=Q6.out.cell 2;have q3:=Q6.out.cell 3;have q4:=Q6.out.cell 4;simp only [fM,List.getElem?_toArray,List.getElem?_cons_succ,List.getElem?_cons_zero] at q0 q1 q2 q3 q4) | (go_at_call 32;(with_reducible refine (lY _ _ _ _ _ T4.out).mono ?_);rintro e w8 ⟨rfl,rfl⟩))
    all_goals (try (go_ret;exact ⟨au HF.out.symm,X6.out⟩))
    go_loopw [7] (fun i w'=>∃ j:Nat,j≤k∧i=.int .i64 j∧(∀ i,i < j→samePair (nth ps k) (nth ps i)=false)∧Ext w7 w') (fun i _=>k - (intOf i).toNat);case atStart=>exact ⟨0,by omega,rfl,fun j hj=>by omega,Ext.refl _⟩
    case round =>
     obtain ⟨j,hj1,rfl,af6,hx3⟩:=hrel;have HA3:=ah af6;have HX3:=ah hx3;clear af6;have Q7:=ah (Q6.out.ext hx3);clear q0 q1 q2 q3 q4;by_cases hj2:j < k
     · obtain ⟨b2,o2,ds,hA2,_,⟨rfl,ao1⟩,hd⟩:=HK.out j (by omega);injection hA2 with hA2
       injection hA2 with e1 e2
       subst e1;subst e2;have hxd:=X6.out.trans hx3;have d0:=Ext.some hxd (hd 0 _ rfl);have d1:=Ext.some hxd (hd 1 _ rfl);have d2:=Ext.some hxd (hd 2 _ rfl);have d3:=Ext.some hxd (hd 3 _ rfl);have d4:=Ext.some hxd (hd 4 _ rfl);simp only [fA,Nat.add_zero] at d0 d1 d2 d3 d4;have q0:=Q7.out.cell 0;have q1:=Q7.out.cell 1;have q2:=Q7.out.cell 2;have q3:=Q7.out.cell 3;simp only [fM,List.getElem?_toArray,List.getElem?_cons_succ,List.getElem?_cons_zero] at q0 q1 q2 q3;have j0:(j:Int) < (ps.length:Int):=by omega
       have j1:j < ps.length:=by omega
       clear hd ao1 hxd hx3 d4;by_cases hf1:(nth ps j).from_=(nth ps k).from_
       · by_cases hf2:(nth ps j).jA=(nth ps k).jA
         · have HF:Hid (iL ls ps=false):=ah (kC hlt (by
            have:(ps.take k).any (samePair (nth ps k))=true:=List.any_eq_true.2 ⟨nth ps j,by rw [← ahz hj2 (by omega)];exact bG (by rw [List.length_take];omega),by simp [samePair,hf1,hf2]⟩;simp [jW,this]))
           have g0:(nth ps j).from_.level=(nth ps k).from_.level:=by rw [hf1]
           have g1:(nth ps j).from_.set=(nth ps k).from_.set:=by rw [hf1]
           have g2:(nth ps j).jA.level=(nth ps k).jA.level:=by rw [hf2]
           have g3:(nth ps j).jA.set=(nth ps k).jA.set:=by rw [hf2]
           clear hf1 hf2;go_wp2_with fail;refine ak (by kernel_rfl) (by kernel_rfl) ?_;repeat (
            (refine wpQuiet_step (fun K hK=>?_)
             go_simp;first
              | (refine hK _ ?_;clear hK K)
              | (apply Exists.intro
                 refine ⟨fun bH aj=>?_,hK _ ?_⟩
                 · have jH:=Ext.some aj d0;have kJ:=Ext.some aj d1;have KR:=Ext.some aj d2;have XY:=Ext.some aj d3;have Wx:=Ext.some aj q0;have Wy:=Ext.some aj q1;have YE:=Ext.some aj q2;have al4:=Ext.some aj q3;first | exact rfl | (go_simp;done) | (go_simp;exact rfl)
                 clear hK K)))
           refine wpQuiet_nil ?_;intro w1 hx1;have HE:=ah hx1;clear d0 d1 d2 d3 q0 q1 q2 q3 hx1;go_wp2_with fail;go_ret;exact ⟨au HF.out.symm,X6.out.trans (HX3.out.trans HE.out)⟩
         · have HG:=ah (all_succ (p:=fun j=>samePair (nth ps k) (nth ps j)=false) HA3.out (by simp [samePair,hf2]));have g0:(nth ps j).from_.level=(nth ps k).from_.level:=by rw [hf1]
           have g1:(nth ps j).from_.set=(nth ps k).from_.set:=by rw [hf1]
           rcases nC hf2 with g | g
           all_goals
            clear hf1 hf2;have jl:=@kL;go_wp2_with fail;refine ak (by kernel_rfl) (by kernel_rfl) ?_;repeat (
             (refine wpQuiet_step (fun K hK=>?_)
              go_simp;first
               | (refine hK _ ?_;clear hK K)
               | (apply Exists.intro
                  refine ⟨fun bH aj=>?_,hK _ ?_⟩
                  · have jH:=Ext.some aj d0;have kJ:=Ext.some aj d1;have KR:=Ext.some aj d2;have XY:=Ext.some aj d3;have Wx:=Ext.some aj q0;have Wy:=Ext.some aj q1;have YE:=Ext.some aj q2;have al4:=Ext.some aj q3;first | exact rfl | (go_simp;done) | (go_simp;exact rfl)
                  clear hK K)))
            refine wpQuiet_nil ?_;intro w1 hx1;have HE:=ah hx1;clear d0 d1 d2 d3 q0 q1 q2 q3 hx1 jl;go_wp2_with fail;go_roundw;case rel=>exact ⟨j+1,by omega,by go_num,HG.out,HX3.out.trans HE.out⟩
            case measure=>simp [intOf];omega
       · have HG:=ah (all_succ (p:=fun j=>samePair (nth ps k) (nth ps j)=false) HA3.out (by simp [samePair,hf1]));rcases nC hf1 with g | g
         all_goals
          clear hf1;have jl:=@kL;go_wp2_with fail;refine ak (by kernel_rfl) (by kernel_rfl) ?_;repeat (
           (refine wpQuiet_step (fun K hK=>?_)
            go_simp;first
             | (refine hK _ ?_;clear hK K)
             | (apply Exists.intro
                refine ⟨fun bH aj=>?_,hK _ ?_⟩
                · have jH:=Ext.some aj d0;have kJ:=Ext.some aj d1;have KR:=Ext.some aj d2;have XY:=Ext.some aj d3;have Wx:=Ext.some aj q0;have Wy:=Ext.some aj q1;have YE:=Ext.some aj q2;have al4:=Ext.some aj q3;first | exact rfl | (go_simp;done) | (go_simp;exact rfl)
                clear hK K)))
          refine wpQuiet_nil ?_;intro w1 hx1;have HE:=ah hx1;clear d0 d1 d2 d3 q0 q1 q2 q3 hx1 jl;go_wp2_with fail;go_roundw;case rel=>exact ⟨j+1,by omega,by go_num,HG.out,HX3.out.trans HE.out⟩
          case measure=>simp [intOf];omega
     · have HG:=ah (all_succ (p:=fun j=>jW ls ps j=true) HA.out (by
        have h0:(ps.take k).any (samePair (nth ps k))=false:=List.any_eq_false.2 fun y hy=>by
         obtain ⟨i,hi,rfl⟩:=List.getElem_of_mem hy;have hi':i < k:=by rw [List.length_take] at hi;omega
         have:=HA3.out i (by omega);rw [show nth ps i=ps[i] from aO (by omega)] at this;simpa using this
        simp [jW,sF,T1.out,T2.out,T3.out,T4.out,h0]))
       clear hx3;go_wp2_with fail;go_roundw;case rel=>exact ⟨k+1,by omega,by go_num,HG.out,X6.out.trans HX3.out⟩
       case measure=>simp [intOf];omega
  · have HF:Hid (iL ls ps=true):=ah (by rw [Nj fun j hj=>HA.out j (by omega),decide_eq_true h4']);clear hx;go_wp2_with fail;go_ret;exact ⟨au HF.out.symm,HX.out⟩
theorem pK {S:Nat→Prop} (ns:List (List Label)) (v:Value) (w:World) (h:Rd (gU aH) S w v ns) (r:Bool) (hr:fJ ns=r) :
 Calls prog 168 #[v] w fun e w'=>e=.returned (.bool r)∧Ext w w':=by
 subst hr;exact Sr ns v w h
theorem zk {S S':Nat→Prop} (ls:List Label) (ps:List Pair) (v u:Value) (w:World) (g:Rd aH S' w u ls) (h:Rd fA S w v ps) (r:Bool) (hr:iL ls ps=r) :
 Calls prog 169 #[u,v] w fun e w'=>e=.returned (.bool r)∧Ext w w':=by
 subst hr;exact Sv ls ps v u w g h
theorem xA {S S':Nat→Prop} (ls:List Label) (qs:List jk) (v u:Value) (w:World) (g:Rd aH S' w u ls) (h:Rd dJ S w v qs) (hr:∀ a∈ls,aA a=true) (r:Bool) (hq:gY ls qs=r) :
 Calls prog 170 #[u,v] w fun e w'=>e=.returned (.bool r)∧Ext w w':=by
 subst hq;exact OV ls qs v u w g h hr
theorem BO {S:Nat→Prop} (x:Config) (cs:List Value) (w:World) (h:gV.rel S w cs x) :
 Calls prog 81 #[.agg cs.toArray] w fun e w'=>e=.returned (.bool (aU x))∧Ext w w':=by
 obtain ⟨v1,v2,v3,rfl,hf,h1,h2,h3⟩:=h;obtain ⟨A1,c1,rfl,-⟩:=h1.form;obtain ⟨A2,c2,rfl,-⟩:=h2.form;obtain ⟨A3,c3,rfl,-⟩:=h3.form;have H1:=ah h1;have H2:=ah h2;have H3:=ah h3;clear hf h1 h2 h3;simp only [dN];go_enter func81,ntmps81;go_upto_region 1 with (fail)
 obtain ⟨W,B,hW,hB,hx0,b0⟩:∃ W B,W=w.alloc (.cells #[.slice A1 x.nodes.length c1,.slice A2 x.pairs.length c2,.slice A3 x.ay.length c3,x.half] 40)∧B=w.heap.size∧Ext w W∧aF W B 40 #[.slice A1 x.nodes.length c1,.slice A2 x.pairs.length c2,.slice A3 x.ay.length c3,x.half]:=⟨_,_,rfl,rfl,(Ext.refl _).alloc _,aF.new _ _ _⟩
 rw [← hW,← hB];have Q:=ah b0;have X:=ah hx0;clear hW hB hx0 b0;have q0:=Q.out.cell 0;have q1:=Q.out.cell 1;have q2:=Q.out.cell 2;have q3:=Q.out.cell 3;simp only [List.getElem?_toArray,List.getElem?_cons_succ,List.getElem?_cons_zero] at q0 q1 q2 q3;obtain ⟨t1,ht1⟩:∃ t,fJ x.nodes=t:=⟨_,rfl⟩
 obtain ⟨t2,ht2⟩:∃ t,jG x.half 1 9=t:=⟨_,rfl⟩
 obtain ⟨t3,ht3⟩:∃ t,iL (labelsIn x.nodes) x.pairs=t:=⟨_,rfl⟩
 obtain ⟨t4,Vg⟩:∃ t,gY (labelsIn x.nodes) x.ay=t:=⟨_,rfl⟩
 have T1:=ah ht1;have T2:=ah ht2;have T3:=ah ht3;have T4:=ah Vg;have LR:Hid (∀ a∈labelsIn x.nodes,aA a=true):=ah fun a=>kS;clear ht1 ht2 ht3 Vg;cases t1 with
 | false =>
   have HN:Hid (aU x=false):=ah (by simp [aU,T1.out]);go_wp2_with (first | (go_at_call 168;(with_reducible refine (pK (S:=S) x.nodes _ _ (H1.out.ext X.out) _ T1.out).mono ?_);rintro e w7 ⟨rfl,hx7⟩;replace X:=ah (X.out.trans hx7);replace Q:=ah (Q.out.ext hx7);clear hx7 q0 q1 q2 q3;have q0:=Q.out.cell 0;have q1:=Q.out.cell 1;have q2:=Q.out.cell 2;have q3:=Q.out.cell 3;simp only [List.getElem?_toArray,List.getElem?_cons_succ,List.getElem?_cons_zero] at q0 q1 q2 q3) | (go_at_call 32;(with_reducible refine (lY _ _ _ _ _ T2.out).mono ?_);rintro e w8 ⟨rfl,rfl⟩));go_ret;exact ⟨au HN.out.symm,X.out⟩
 | true =>
   cases t2 with
   | false =>
     have HN:Hid (aU x=false):=ah (by simp [aU,T1.out,T2.out]);go_wp2_with (first | (go_at_call 168;(with_reducible refine (pK (S:=S) x.nodes _ _ (H1.out.ext X.out) _ T1.out).mono ?_);rintro e w7 ⟨rfl,hx7⟩;replace X:=ah (X.out.trans hx7);replace Q:=ah (Q.out.ext hx7);clear hx7 q0 q1 q2 q3;have q0:=Q.out.cell 0;have q1:=Q.out.cell 1;have q2:=Q.out.cell 2;have q3:=Q.out.cell 3;simp only [List.getElem?_toArray,List.getElem?_cons_succ,List.getElem?_cons_zero] at q0 q1 q2 q3) | (go_at_call 32;(with_reducible refine (lY _ _ _ _ _ T2.out).mono ?_);rintro e w8 ⟨rfl,rfl⟩));go_ret;exact ⟨au HN.out.symm,X.out⟩
   | true =>
     by_cases h8:(labelsIn x.nodes).length≤8
     · have H8:=ah h8;cases t3 with
       | false =>
         have HN:Hid (aU x=false):=ah (by simp [aU,T1.out,T2.out,T3.out]);go_wp2_with (first | (go_at_call 168;(with_reducible refine (pK (S:=S) x.nodes _ _ (H1.out.ext X.out) _ T1.out).mono ?_);rintro e w7 ⟨rfl,hx7⟩;replace X:=ah (X.out.trans hx7);replace Q:=ah (Q.out.ext hx7);clear hx7 q0 q1 q2 q3;have q0:=Q.out.cell 0;have q1:=Q.out.cell 1;have q2:=Q.out.cell 2;have q3:=Q.out.cell 3;simp only [List.getElem?_toArray,List.getElem?_cons_succ,List.getElem?_cons_zero] at q0 q1 q2 q3) | (go_at_call 32;(with_reducible refine (lY _ _ _ _ _ T2.out).mono ?_);rintro e w8 ⟨rfl,rfl⟩) | (go_at_call 86;(with_reducible refine (ku (S:=S) x.nodes _ _ (H1.out.ext X.out)).mono ?_);rintro e w7 ⟨vL,FL,rfl,oL,-,hx7⟩;obtain ⟨AL,cL,rfl,-⟩:=oL.form;have OL:=ah oL;clear oL;replace X:=ah (X.out.trans hx7);replace Q:=ah (Q.out.ext hx7);clear hx7 q0 q1 q2 q3;have q0:=Q.out.cell 0;have q1:=Q.out.cell 1;have q2:=Q.out.cell 2;have q3:=Q.out.cell 3;simp only [List.getElem?_toArray,List.getElem?_cons_succ,List.getElem?_cons_zero] at q0 q1 q2 q3) | (go_at_call 169;(with_reducible refine (zk (S:=S) (S':=fun b=>b∈FL) (labelsIn x.nodes) x.pairs _ _ _ OL.out.rd (H2.out.ext X.out) _ T3.out).mono ?_);rintro e w7 ⟨rfl,hx7⟩;replace OL:=ah (OL.out.ext hx7);replace X:=ah (X.out.trans hx7);replace Q:=ah (Q.out.ext hx7);clear hx7 q0 q1 q2 q3;have q0:=Q.out.cell 0;have q1:=Q.out.cell 1;have q2:=Q.out.cell 2;have q3:=Q.out.cell 3;simp only [List.getElem?_toArray,List.getElem?_cons_succ,List.getElem?_cons_zero] at q0 q1 q2 q3) | (go_at_call 170;(with_reducible refine (xA (S:=S) (S':=fun b=>b∈FL) (labelsIn x.nodes) x.ay _ _ _ OL.out.rd (H3.out.ext X.out) LR.out _ T4.out).mono ?_);rintro e w7 ⟨rfl,hx7⟩;replace OL:=ah (OL.out.ext hx7);replace X:=ah (X.out.trans hx7);replace Q:=ah (Q.out.ext hx7);clear hx7 q0 q1 q2 q3;have q0:=Q.out.cell 0;have q1:=Q.out.cell 1;have q2:=Q.out.cell 2;have q3:=Q.out.cell 3;simp only [List.getElem?_toArray,List.getElem?_cons_succ,List.getElem?_cons_zero] at q0 q1 q2 q3));go_ret;exact ⟨au HN.out.symm,X.out⟩
       | true =>
         cases t4 with
         | false =>
           have HN:Hid (aU x=false):=ah (by simp [aU,T1.out,T2.out,T3.out,T4.out]);go_wp2_with (first | (go_at_call 168;(with_reducible refine (pK (S:=S) x.nodes _ _ (H1.out.ext X.out) _ T1.out).mono ?_);rintro e w7 ⟨rfl,hx7⟩;replace X:=ah (X.out.trans hx7);replace Q:=ah (Q.out.ext hx7);clear hx7 q0 q1 q2 q3;have q0:=Q.out.cell 0;have q1:=Q.out.cell 1;have q2:=Q.out.cell 2;have q3:=Q.out.cell 3;simp only [List.getElem?_toArray,List.getElem?_cons_succ,List.getElem?_cons_zero] at q0 q1 q2 q3) | (go_at_call 32;(with_reducible refine (lY _ _ _ _ _ T2.out).mono ?_);rintro e w8 ⟨rfl,rfl⟩) | (go_at_call 86;(with_reducible refine (ku (S:=S) x.nodes _ _ (H1.out.ext X.out)).mono ?_);rintro e w7 ⟨vL,FL,rfl,oL,-,hx7⟩;obtain ⟨AL,cL,rfl,-⟩:=oL.form;have OL:=ah oL;clear oL;replace X:=ah (X.out.trans hx7);replace Q:=ah (Q.out.ext hx7);clear hx7 q0 q1 q2 q3;have q0:=Q.out.cell 0;have q1:=Q.out.cell 1;have q2:=Q.out.cell 2;have q3:=Q.out.cell 3;simp only [List.getElem?_toArray,List.getElem?_cons_succ,List.getElem?_cons_zero] at q0 q1 q2 q3) | (go_at_call 169;(with_reducible refine (zk (S:=S) (S':=fun b=>b∈FL) (labelsIn x.nodes) x.pairs _ _ _ OL.out.rd (H2.out.ext X.out) _ T3.out).mono ?_);rintro e w7 ⟨rfl,hx7⟩;replace OL:=ah (OL.out.ext hx7);replace X:=ah (X.out.trans hx7);replace Q:=ah (Q.out.ext hx7);clear hx7 q0 q1 q2 q3;have q0:=Q.out.cell 0;have q1:=Q.out.cell 1;have q2:=Q.out.cell 2;have q3:=Q.out.cell 3;simp only [List.getElem?_toArray,List.getElem?_cons_succ,List.getElem?_cons_zero] at q0 q1 q2 q3) | (go_at_call 170;(with_reducible refine (xA (S:=S) (S':=fun b=>b∈FL) (labelsIn x.nodes) x.ay _ _ _ OL.out.rd (H3.out.ext X.out) LR.out _ T4.out).mono ?_);rintro e w7 ⟨rfl,hx7⟩;replace OL:=ah (OL.out.ext hx7);replace X:=ah (X.out.trans hx7);replace Q:=ah (Q.out.ext hx7);clear hx7 q0 q1 q2 q3;have q0:=Q.out.cell 0;have q1:=Q.out.cell 1;have q2:=Q.out.cell 2;have q3:=Q.out.cell 3;simp only [List.getElem?_toArray,List.getElem?_cons_succ,List.getElem?_cons_zero] at q0 q1 q2 q3));go_ret;exact ⟨au HN.out.symm,X.out⟩
         | true =>
           have HN:Hid (aU x=true):=ah (by simp [aU,T1.out,T2.out,T3.out,T4.out,H8.out]);go_wp2_with (first | (go_at_call 168;(with_reducible refine (pK (S:=S) x.nodes _ _ (H1.out.ext X.out) _ T1.out).mono ?_);rintro e w7 ⟨rfl,hx7⟩;replace X:=ah (X.out.trans hx7);replace Q:=ah (Q.out.ext hx7);clear hx7 q0 q1 q2 q3;have q0:=Q.out.cell 0;have q1:=Q.out.cell 1;have q2:=Q.out.cell 2;have q3:=Q.out.cell 3;simp only [List.getElem?_toArray,List.getElem?_cons_succ,List.getElem?_cons_zero] at q0 q1 q2 q3) | (go_at_call 32;(with_reducible refine (lY _ _ _ _ _ T2.out).mono ?_);rintro e w8 ⟨rfl,rfl⟩) | (go_at_call 86;(with_reducible refine (ku (S:=S) x.nodes _ _ (H1.out.ext X.out)).mono ?_);rintro e w7 ⟨vL,FL,rfl,oL,-,hx7⟩;obtain ⟨AL,cL,rfl,-⟩:=oL.form;have OL:=ah oL;clear oL;replace X:=ah (X.out.trans hx7);replace Q:=ah (Q.out.ext hx7);clear hx7 q0 q1 q2 q3;have q0:=Q.out.cell 0;have q1:=Q.out.cell 1;have q2:=Q.out.cell 2;have q3:=Q.out.cell 3;simp only [List.getElem?_toArray,List.getElem?_cons_succ,List.getElem?_cons_zero] at q0 q1 q2 q3) | (go_at_call 169;(with_reducible refine (zk (S:=S) (S':=fun b=>b∈FL) (labelsIn x.nodes) x.pairs _ _ _ OL.out.rd (H2.out.ext X.out) _ T3.out).mono ?_);rintro e w7 ⟨rfl,hx7⟩;replace OL:=ah (OL.out.ext hx7);replace X:=ah (X.out.trans hx7);replace Q:=ah (Q.out.ext hx7);clear hx7 q0 q1 q2 q3;have q0:=Q.out.cell 0;have q1:=Q.out.cell 1;have q2:=Q.out.cell 2;have q3:=Q.out.cell 3;simp only [List.getElem?_toArray,List.getElem?_cons_succ,List.getElem?_cons_zero] at q0 q1 q2 q3) | (go_at_call 170;(with_reducible refine (xA (S:=S) (S':=fun b=>b∈FL) (labelsIn x.nodes) x.ay _ _ _ OL.out.rd (H3.out.ext X.out) LR.out _ T4.out).mono ?_);rintro e w7 ⟨rfl,hx7⟩;replace OL:=ah (OL.out.ext hx7);replace X:=ah (X.out.trans hx7);replace Q:=ah (Q.out.ext hx7);clear hx7 q0 q1 q2 q3;have q0:=Q.out.cell 0;have q1:=Q.out.cell 1;have q2:=Q.out.cell 2;have q3:=Q.out.cell 3;simp only [List.getElem?_toArray,List.getElem?_cons_succ,List.getElem?_cons_zero] at q0 q1 q2 q3));go_ret;exact ⟨au HN.out.symm,X.out⟩
     · have H8:=ah h8;have HN:Hid (aU x=false):=ah (by simp [aU,T1.out,T2.out,H8.out]);go_wp2_with (first | (go_at_call 168;(with_reducible refine (pK (S:=S) x.nodes _ _ (H1.out.ext X.out) _ T1.out).mono ?_);rintro e w7 ⟨rfl,hx7⟩;replace X:=ah (X.out.trans hx7);replace Q:=ah (Q.out.ext hx7);clear hx7 q0 q1 q2 q3;have q0:=Q.out.cell 0;have q1:=Q.out.cell 1;have q2:=Q.out.cell 2;have q3:=Q.out.cell 3;simp only [List.getElem?_toArray,List.getElem?_cons_succ,List.getElem?_cons_zero] at q0 q1 q2 q3) | (go_at_call 32;(with_reducible refine (lY _ _ _ _ _ T2.out).mono ?_);rintro e w8 ⟨rfl,rfl⟩) | (go_at_call 86;(with_reducible refine (ku (S:=S) x.nodes _ _ (H1.out.ext X.out)).mono ?_);rintro e w7 ⟨vL,FL,rfl,oL,-,hx7⟩;obtain ⟨AL,cL,rfl,-⟩:=oL.form;have OL:=ah oL;clear oL;replace X:=ah (X.out.trans hx7);replace Q:=ah (Q.out.ext hx7);clear hx7 q0 q1 q2 q3;have q0:=Q.out.cell 0;have q1:=Q.out.cell 1;have q2:=Q.out.cell 2;have q3:=Q.out.cell 3;simp only [List.getElem?_toArray,List.getElem?_cons_succ,List.getElem?_cons_zero] at q0 q1 q2 q3));go_ret;exact ⟨au HN.out.symm,X.out⟩
theorem pG {S:Nat→Prop} (x:Config) (cs:List Value) (w:World) (h:gV.rel S w cs x) (r:Bool) (hr:aU x=r) :
 Calls prog 81 #[.agg cs.toArray] w fun e w'=>e=.returned (.bool r)∧Ext w w':=by
 subst hr;exact BO x cs w h
end Go.Proofs.YtbdicafambkhdaaGreat
