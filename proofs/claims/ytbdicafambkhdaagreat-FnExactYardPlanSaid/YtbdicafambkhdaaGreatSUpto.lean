/- The walks of the reference's l14Upto, YardPlan and Least. Printed by wip/supto.py. -/
import Derived.Test.YtbdicafambkhdaaGreatSLabelW
import Derived.Test.YtbdicafambkhdaaGreatPlanT
import Derived.Test.YtbdicafambkhdaaGreatRows
import Derived.Test.YtbdicafambkhdaaGreatLabels
import Derived.Test.YtbdicafambkhdaaGreatGSmall
import Derived.Test.YtbdicafambkhdaaGreatGYardT
import Derived.Test.YtbdicafambkhdaaGreatClones
import Derived.Deep.RegionHeld3
import Derived.Test.YtbdicafambkhdaaGreatOrderI
import Derived.Test.YtbdicafambkhdaaGreatCopies
import Derived.Test.YtbdicafambkhdaaGreatTaskRS
import Derived.Test.YtbdicafambkhdaaGreatInsSpan
import Derived.Laws.IdiomStrings
import Derived.Laws.BytesArg
import Derived.Laws.BitsAllLaws
namespace Go.Proofs.YtbdicafambkhdaaGreat
open Go.Proofs.Tryz
open Go.RowKit
attribute [local irreducible] wpQuiet
def Wp (y:aK) (s:Int):List Place:=dO (uF y) (jQ y) (qN y s)
theorem Wq {y:aK} (h:og y) (s:Int):Wp y s=nG y s:=(ER h (MH s)).1.symm
theorem adW {l:List Task} {a:Label} {k:Nat} (hk:k < l.length):dh (l.take (k+1)) a=dh (l.take k) a ++ if (nth l k).label=a then [nth l k] else []:=by
 rw [dh,aV hk,List.filter_append];congr 1;by_cases h:(nth l k).label=a <;> simp [h]
theorem kD.sub {S S':Nat→Prop} {n0:Nat} {w:World} {v:Value} {l:List Task} {F:List Nat} (h:kD S n0 w v l F) (hs:∀ b,S b→S' b) (hF:∀ b∈F,S' b):Rd ETask S' w v l:=by
 obtain ⟨m,hm,ho,ht,hf⟩:=h;exact hm ▸ Nu (ho.rd.sub hF) fun e he=>(ht e he).sub hs
set_option maxHeartbeats 32000000 in
set_option maxRecDepth 100000 in
theorem I8 {S:Nat→Prop} (y:aK) (s:Int) (cs:List Value) (w:World) (hy0:eF.rel S w cs y) (hk:og y) :
 Calls prog 34 #[.agg cs.toArray,.int .i64 s] w (Rj (Wp y s) w):=by
 have hy:=VJ hy0;have HY:=ah hy;clear hy0;obtain ⟨v1,v2,v3,v4,v5,v6,rfl,RY,h1,h2,h3,h4,h5,h6⟩:=hy;obtain ⟨A1,c1,rfl,-⟩:=h1.form;obtain ⟨A2,c2,rfl,-⟩:=h2.form;obtain ⟨A3,c3,rfl,-⟩:=h3.form;obtain ⟨A4,c4,rfl,-⟩:=h4.form;obtain ⟨A5,c5,rfl,-⟩:=h5.form;obtain ⟨A6,c6,rfl,-⟩:=h6.form;have Jv:=ah hk;have H1:=ah h1;have XF:Hid (∀ V,Ext w V→Calls prog 91 #[.agg (Ry y A1 c1 A2 c2 A3 c3 A4 c4 A5 c5 A6 c6)] V (kX iW 76 (jQ y) V)):=ah fun V hV=>SG (S:=Lo S w) y _ V (eF.keep (hV.same _) HY.out) hk.ord;have HOF:=ah (Il hk);have HOO:=ah (Io hk);clear RY h1 h2 h3 h4 h5 h6 hk;obtain ⟨od,hod⟩:∃ od,jQ y=od:=⟨_,rfl⟩
 obtain ⟨ls,hls⟩:∃ ls,labelsIn y.config.nodes=ls:=⟨_,rfl⟩
 have HOD:=ah hod;have tN:=ah hls;rw [hod] at XF HOF HOO;have HL8:Hid (ls.length≤8):=ah (by rw [← hls];exact Jv.out.ahw);have Ol:Hid (∀ k,k < ls.length→aA (nth ls k)=true):=ah fun k hk=>kS (by rw [tN.out];exact bG hk);have Ju:Hid ls.Nodup:=ah (by rw [← hls];exact xE _);clear hod hls;simp only [bV];go_enter func34,ntmps34;go_upto_region 1 with (fail)
 obtain ⟨W,B,aX,aT,aj,fQ⟩:=iK w (Ry y A1 c1 A2 c2 A3 c3 A4 c4 A5 c5 A6 c6) 45;rw [← aX,← aT];have XW:=ah aj;have QB:=ah fQ;have EB:=ah aT;clear aX aT aj fQ;go_upto_region 2 with (fail)
 obtain ⟨W1,Bg,aX,aT,aj,fQ⟩:=iK W #[] 78;rw [← aX,← aT];have FZ:=ah aj;have QBg:=ah fQ;have EBg:=ah aT;clear aX aT aj fQ;have X1:=ah (XW.out.trans FZ.out);have BGE:Hid (w.heap.size≤Bg):=ah (by rw [EBg.out];exact XW.out.size);have q1:=(QB.out.ext FZ.out).cell;go_upto_region 3 with (go_at_call 91;(with_reducible refine (XF.out _ X1.out).mono ?_);rintro e w2 ⟨u2,F2,rfl,o2,g2,hx2⟩;obtain ⟨A2t,c2t,rfl,-⟩:=aW.form o2;have O2:=ah o2;have G2:=ah g2;have X2:=ah hx2;clear o2 g2 hx2 q1)
 have q1:=((QB.out.ext FZ.out).ext X2.out).cell;go_upto_region 4 with (go_at_call 86;(with_reducible refine (ku (S:=Lo S w) y.config.nodes _ _ (H1.out.ext (X1.out.trans X2.out))).mono ?_);rintro e w3 ⟨u3,F3,rfl,o3,g3,hx3⟩;rw [tN.out] at o3;obtain ⟨A3t,c3t,rfl,-⟩:=aW.form o3;have O3:=ah o3;have G3:=ah g3;have X3:=ah hx3;clear o3 g3 hx3 q1)
 have yj:=ah (X2.out.trans X3.out);obtain ⟨mt,hmt,hrt,hnt⟩:=Xf O2.out.rd;have HMT:=ah hmt;have Uu:=ah (hrt.ext X3.out);have HNT:=ah (hnt.keep (X3.out.same _));obtain ⟨A3x,c3x,hv3,y1,y2,hk3⟩:=O3.out.rd.open_;injection hv3 with e1 e2 e3
 subst e1 e3;clear e2;unfold maxLen at y2;have HK3:=ah hk3;obtain ⟨A2x,c2x,hv2,z1,z2,hk2⟩:=(O2.out.rd.ext X3.out).open_;injection hv2 with e1 e2 e3
 subst e1 e3;clear e2;unfold maxLen at z2;have HK2:=ah hk2;clear hmt hrt hnt hk3 hk2;have GLT:Hid (Bg < W1.heap.size):=ah QBg.out.lt;have RG:Hid (dY w.heap.size w3 (.slice (some ⟨Bg,0,none⟩) 0 0) [] [Bg]):=ah (dY.nil (QBg.out.ext yj.out) BGE.out);have QY3:=ah ((QB.out.ext FZ.out).ext yj.out);have BLT:Hid (B < Bg):=ah (by have:=QB.out.lt;have:=EBg.out;omega);go_wp2_with fail;go_loopw [5,8] (fun g i w'=>∃ (k:Nat) (F:List Nat),k≤ls.length∧i=.int .i64 k∧(∀ j,j < k→keyOf (nth ls j)≤s)∧dY w.heap.size w' g (dO (uF y) od (ls.take k)) F∧(∀ b∈F,b=Bg∨w3.heap.size≤b)∧Kept [Bg] w3 w') (fun _ i _=>ls.length - (intOf i).toNat);case atStart=>exact ⟨0,[Bg],Nat.zero_le _,rfl,by omega,by simpa [dO] using RG.out,fun b hb=>.inl (List.mem_singleton.1 hb),Kept.refl _ _⟩
 case round =>
  obtain ⟨k,F,hk1,rfl,hlow,hg,hF,hkp⟩:=hrel;have XD:=ah hlow;have HG:=ah hg;have HF:=ah hF;have lJ:=ah hkp;have Om:Hid (Ext w wr):=ah (hkp.ext (X1.out.trans yj.out) fun b hb=>by rw [List.mem_singleton.1 hb];exact BGE.out);obtain ⟨Ag,cg,rfl⟩:=hg.form;have QYr:Hid (aF wr B 45 (Ry y A1 c1 A2 c2 A3 c3 A4 c4 A5 c5 A6 c6)):=ah ((hkp.block B QY3.out.lt (by have:=BLT.out;simp;omega)).trans QY3.out);clear hlow hg hF hkp;by_cases hlt:k < ls.length
  · obtain ⟨b,q,cs',hAb,hbF,⟨rfl,hfit⟩,hc⟩:=HK3.out k hlt;subst hAb;have hbB:b∉[Bg]:=fun hm=>by have h1:=G3.out b hbF;have h2:=GLT.out;have h3:=X2.out.size;rw [List.mem_singleton.1 hm] at h1;omega
    have c0:=lJ.out.cell hbB (hc 0 _ rfl);have c1:=lJ.out.cell hbB (hc 1 _ rfl);simp only [aH,Nat.add_zero] at c0 c1;have HFK:=ah hfit;have HLK:=ah (Ol.out k hlt);have hlk:=Ol.out k hlt;simp only [aA,Bool.and_eq_true] at hlk;have HL1:=ah hlk.1;have HL2:=ah hlk.2;clear hc hfit hbB hlk;by_cases hle:keyOf (nth ls k)≤s
    · have hle2:8 * (nth ls k).level+(nth ls k).set≤s:=hle;have HLE:=ah hle;have HPA:=ah (ER Jv.out (ls:=ls.take k) (by rw [tN.out];exact List.take_sublist _ _));have HPN:=ah (QC (uF y) od hlt);have HNI:=ah (NW Ju.out hlt);rw [HOD.out] at HPA;rw [HPA.out.1] at HPA;obtain ⟨pk,hpk⟩:∃ pk,dO (uF y) od (ls.take k)=pk:=⟨_,rfl⟩
      have HPK:=ah hpk;rw [hpk] at HG HPA HPN;rw [hpk];clear hpk hle;go_upto_region 7 with (go_at_call 35;(with_reducible refine (gu (nth ls k).level (nth ls k).set _ HL1.out HL2.out).mono ?_);rintro e w6 ⟨rfl,hx6⟩;have X6:=ah hx6;clear hx6)
      go_upto_region 8 with (fail)
      obtain ⟨W7,B7,aX,aT,aj,fQ⟩:=iK w6 #[] 76;rw [← aX,← aT];have XW7:=ah aj;have QB7:=ah fQ;have EB7:=ah aT;clear aX aT aj fQ;have X7:=ah (X6.out.trans XW7.out);have R7:Hid (kD (fun b=>b∈F2) wr.heap.size W7 (.slice (some ⟨B7,0,none⟩) 0 0) [] [B7]):=ah (kD.nil QB7.out (by rw [EB7.out];exact X6.out.size));have C0:=ah c0;have C1:=ah c1;clear c0 c1;go_wp2_with fail;obtain ⟨wq,hwq⟩:∃ q,q=wr:=⟨_,rfl⟩
      subst hwq;go_loopw [9,10] (fun v i w'=>∃ (j:Nat) (F9:List Nat),j≤od.length∧i=.int .i64 j∧kD (fun b=>b∈F2) wq.heap.size w' v (dh (od.take j) (nth ls k)) F9∧Ext wq w') (fun _ i _=>od.length - (intOf i).toNat);case atStart=>exact ⟨0,[B7],Nat.zero_le _,rfl,R7.out,X7.out⟩
      case round =>
       clear R7;obtain ⟨j,F9,hj1,rfl,Yh,jO⟩:=hrel;have R9:=ah Yh;have X9:=ah jO;obtain ⟨A9,c9,rfl⟩:=Yh.form;clear Yh jO;by_cases hjl:j < od.length
       · obtain ⟨bt,qt,cst,hAt,hbt,⟨ut,rfl,hft,hrd⟩,hct⟩:=HK2.out j hjl;subst hAt;obtain ⟨At,dt,rfl,-⟩:=hrd.form;simp only [aB] at hct;have hsm:Same (fun b=>b∈F2) w3 wr:=(lJ.out.same fun b hb hm=>by have h1:=G2.out b hb;have h2:=GLT.out;rw [List.mem_singleton.1 hm] at h1;omega).trans (X9.out.same _);have z0:=hsm _ _ _ hbt (hct 0 _ rfl);have z1:=hsm _ _ _ hbt (hct 1 _ rfl);have z2:=hsm _ _ _ hbt (hct 2 _ rfl);have z3:=hsm _ _ _ hbt (hct 3 _ rfl);have z4:=hsm _ _ _ hbt (hct 4 _ rfl);have z5:=hsm _ _ _ hbt (hct 5 _ rfl);have z6:=hsm _ _ _ hbt (hct 6 _ rfl);have z7:=hsm _ _ _ hbt (hct 7 _ rfl);have z8:=hsm _ _ _ hbt (hct 8 _ rfl);have z9:=hsm _ _ _ hbt (hct 9 _ rfl);have z10:=hsm _ _ _ hbt (hct 10 _ rfl);have z11:=hsm _ _ _ hbt (hct 11 _ rfl);have z12:=hsm _ _ _ hbt (hct 12 _ rfl);have z13:=hsm _ _ _ hbt (hct 13 _ rfl);simp only [ETask,Nat.add_zero] at z0 z1 z2 z3 z4 z5 z6 z7 z8 z9 z10 z11 z12 z13;have yC:=ah hft;have uQ:=ah (hrd.keep hsm);have d0:=Ext.some X9.out C0.out;have d1:=Ext.some X9.out C1.out;have afS:=ah (adW (a:=nth ls k) hjl);have HEQ:Hid ((nth od j).label=nth ls k↔(nth od j).label.level=(nth ls k).level∧(nth od j).label.set=(nth ls k).set):=ah ⟨fun h=>by rw [h];exact ⟨rfl,rfl⟩,fun h=>Label.ext h.1 h.2⟩;obtain ⟨r,hr⟩:∃ r,decide ((nth od j).label=nth ls k)=r:=⟨_,rfl⟩
         have HRR:=ah hr;clear hct hft hrd hsm hr;go_upto_region 11 with (fail)
         go_cut [49] (fun u wc=>u=.bool r∧Ext wr wc);case first =>
          by_cases he:(nth od j).label.level=(nth ls k).level∧(nth od j).label.set=(nth ls k).set
          · have hr2:r=true:=by rw [← HRR.out];exact decide_eq_true (HEQ.out.2 he)
            subst hr2;have f0:wr.cell? ⟨b,q+k * 2,none⟩=some (.int .i64 (nth od j).label.level):=by rw [he.1];exact d0
            have f1:wr.cell? ⟨b,q+k * 2+1,none⟩=some (.int .i64 (nth od j).label.set):=by rw [he.2];exact d1
            clear d0 d1 he;refine ak (by kernel_rfl) (by kernel_rfl) ?_;repeat (
             (refine wpQuiet_step (fun K hK=>?_)
              go_simp;first
               | (refine hK _ ?_;clear hK K)
               | (apply Exists.intro
                  refine ⟨fun bH aj=>?_,hK _ ?_⟩
                  · have JW:=Ext.some aj z0;have Uf:=Ext.some aj z1;have aoW:=Ext.some aj f0;have atD:=Ext.some aj f1;first | exact rfl | (go_simp;done) | (go_simp;exact rfl)
                  clear hK K)))
            refine wpQuiet_nil ?_;intro w1 hx1;go_wp2_with fail;go_meet;exact ⟨by simp,hx1⟩
          · have hr2:r=false:=by rw [← HRR.out];exact decide_eq_false fun h=>he (HEQ.out.1 h)
            subst hr2;by_cases he1:(nth od j).label.level=(nth ls k).level
            · have he2:¬ (nth od j).label.set=(nth ls k).set:=fun h=>he ⟨he1,h⟩;have f0:wr.cell? ⟨b,q+k * 2,none⟩=some (.int .i64 (nth od j).label.level):=by rw [he1];exact d0
              clear d0 he he1;refine ak (by kernel_rfl) (by kernel_rfl) ?_;repeat (
               (refine wpQuiet_step (fun K hK=>?_)
                go_simp;first
                 | (refine hK _ ?_;clear hK K)
                 | (apply Exists.intro
                    refine ⟨fun bH aj=>?_,hK _ ?_⟩
                    · have JW:=Ext.some aj z0;have Uf:=Ext.some aj z1;have aoW:=Ext.some aj f0;have kJ:=Ext.some aj d1;first | exact rfl | (go_simp;done) | (go_simp;exact rfl)
                    clear hK K)))
              refine wpQuiet_nil ?_;intro w1 hx1;go_wp2_with fail;go_meet;exact ⟨by simp,hx1⟩
            · clear he;refine ak (by kernel_rfl) (by kernel_rfl) ?_;repeat (
               (refine wpQuiet_step (fun K hK=>?_)
                go_simp;first
                 | (refine hK _ ?_;clear hK K)
                 | (apply Exists.intro
                    refine ⟨fun bH aj=>?_,hK _ ?_⟩
                    · have JW:=Ext.some aj z0;have Uf:=Ext.some aj z1;have jH:=Ext.some aj d0;have kJ:=Ext.some aj d1;first | exact rfl | (go_simp;done) | (go_simp;exact rfl)
                    clear hK K)))
              refine wpQuiet_nil ?_;intro w1 hx1;go_wp2_with fail;go_meet;exact ⟨by simp,hx1⟩
         case rest =>
         generalize wc=W11 at hcut ⊢;obtain ⟨rfl,xg⟩:=hcut;have X11:=ah xg;replace z0:=Ext.some xg z0;replace z1:=Ext.some xg z1;replace z2:=Ext.some xg z2;replace z3:=Ext.some xg z3;replace z4:=Ext.some xg z4;replace z5:=Ext.some xg z5;replace z6:=Ext.some xg z6;replace z7:=Ext.some xg z7;replace z8:=Ext.some xg z8;replace z9:=Ext.some xg z9;replace z10:=Ext.some xg z10;replace z11:=Ext.some xg z11;replace z12:=Ext.some xg z12;replace z13:=Ext.some xg z13;clear xg d0 d1;have R11:=ah (R9.out.ext X11.out);cases r with
         | false =>
           have HE:Hid (dh (od.take (j+1)) (nth ls k)=dh (od.take j) (nth ls k)):=ah (by rw [afS.out,if_neg (by simpa using HRR.out)];simp);go_wp2_with fail;go_roundw;case rel=>exact ⟨j+1,F9,by omega,by go_num,by rw [HE.out];exact R11.out,X9.out.trans X11.out⟩
           case measure=>simp [intOf];omega
         | true =>
           have HE:Hid (dh (od.take (j+1)) (nth ls k)=dh (od.take j) (nth ls k) ++ [nth od j]):=ah (by rw [afS.out,if_pos (by simpa using HRR.out)]);have acZ:=ah (uQ.out.ext X11.out);have wu:Hid ((dh (od.take j) (nth ls k)).length≤96):=ah (by have h1:=List.length_filter_le (fun t=>decide (t.label=nth ls k)) (od.take j);have h2:=HOF.out;rw [List.length_take] at h1;unfold dh;omega);go_wp2_with (at_builtin;refine tJ (S:=fun b=>b∈F2) (n0:=wq.heap.size) (n1:=0) (l:=dh (od.take j) (nth ls k)) (qs:=[nth od j]) rfl _ _ rfl rfl (R11.out.ext ((Ext.refl _).alloc _)) rfl (kD.one (t:=nth od j) (by have h:=aF.new W11 76 (aB (nth od j) (.slice At (nth od j).nodes.length dt)).toArray;simpa [aB] using h) yC.out (acZ.out.ext ((Ext.refl _).alloc _)) (Nat.zero_le _)) (by have:=wu.out;simp only [List.length_singleton];omega) (((X9.out.trans X11.out).alloc _).size) (fun b hb hm=>by have h1:=R9.out.ge b hm;have h2:=O2.out.lt b hb;have h3:=X3.out.size;have h4:=lJ.out.size;omega) ?_;intro v12 w12 F12 ag5 hk12 aoX;obtain ⟨A12,c12,rfl⟩:=kD.form ag5;have R12:=ah ag5;have X12:Hid (Ext wq w12):=ah (hk12.ext ((X9.out.trans X11.out).alloc _) R9.out.ge);clear ag5 hk12 aoX);go_roundw;case rel=>exact ⟨j+1,F12,by omega,by go_num,by have h:=R12.out;rw [List.length_append,List.length_singleton] at h;rw [HE.out];exact h,X12.out⟩
           case measure=>simp [intOf];omega
       · obtain rfl:j=od.length:=by omega
         rw [List.take_length] at R9 ⊢;have hS':∀ b,b < wr.heap.size∧b∉F→b < wr.heap.size∧b∉F:=fun _ h=>h;have hlow2:∀ b,b < w3.heap.size→b≠Bg→b < wr.heap.size∧b∉F:=fun b hb hne=>⟨Nat.lt_of_lt_of_le hb (Nat.le_trans lJ.out.size X9.out.size),fun hm=>by
          rcases HF.out b hm with h | h
          · exact hne h
          · omega⟩
         have hyr:eF.rel (fun b=>b < wr.heap.size∧b∉F) wr [.slice A1 y.config.nodes.length c1,.slice A2 y.config.pairs.length c2,.slice A3 y.config.ay.length c3,y.config.half,.slice A4 y.nodes.length c4,.slice A5 y.tasks.length c5,.slice A6 y.uses.length c6,y.now] y:=eF.sub (fun b hb=>hlow2 b (Nat.lt_of_lt_of_le hb.2 (X1.out.trans yj.out).size) fun e=>by have h1:=BGE.out;have h2:=hb.2;omega) (eF.keep ((Om.out.trans X9.out).same _) HY.out);have hrt:Rd ETask (fun b=>b < wr.heap.size∧b∉F) wr (.slice A9 (dh od (nth ls k)).length c9) (dh od (nth ls k)):=R9.out.sub (fun b hb=>hlow2 b (Nat.lt_of_lt_of_le (O2.out.lt b hb) X3.out.size) fun e=>by have h1:=G2.out b hb;have h2:=GLT.out;omega) fun b hb=>⟨R9.out.lt b hb,fun hm=>by have h1:=R9.out.ge b hb;have h2:=HG.out.lt b hm;omega⟩;have hmem:∀ t∈dh od (nth ls k),t∈od:=fun t ht=>(List.mem_filter.1 ht).1;have XC:Hid (Calls prog 92 #[.agg (Ry y A1 c1 A2 c2 A3 c3 A4 c4 A5 c5 A6 c6),.slice Ag pk.length cg,.slice A9 (dh od (nth ls k)).length c9] wr fun e w'=>∃ v F',e=.returned v∧dY w.heap.size w' v (uF y pk (dh od (nth ls k))) F'∧Kept F wr w'∧∀ b∈F',b∈F∨wr.heap.size≤b):=ah (SE (S:=fun b=>b < wr.heap.size∧b∉F) y pk (dh od (nth ls k)) (nth ls k) w.heap.size _ _ _ F wr hyr (HG.out.ext X9.out) hrt (fun b hb=>hb) (Om.out.trans X9.out).size Jv.out (fun t ht=>(HOO.out t (hmem t ht)).1) HPA.out.2.1 (by have:=HPA.out.2.2.1;omega) (by have h1:=List.length_filter_le (fun t=>decide (t.label=nth ls k)) od;have h2:=HOF.out;unfold dh;omega) (HPA.out.2.2.2 _ HNI.out));clear hS' hlow2 hyr hrt hmem;have qy:=(QYr.out.ext X9.out).cell;go_wp2_with (go_at_call 92;(with_reducible refine XC.out.mono ?_);rintro e w13 ⟨v13,F13,rfl,ag6,alJ,alG⟩;obtain ⟨A13,c13,rfl⟩:=dY.form ag6;have R13:=ah ag6;have K13:=ah alJ;have N13:=ah alG;clear ag6 alJ alG);go_roundw;case rel=>exact ⟨k+1,F13,by omega,by go_num,all_succ (p:=fun j=>keyOf (nth ls j)≤s) XD.out HLE.out,by rw [HPN.out];exact R13.out,fun b hb=>(N13.out b hb).elim (HF.out b) (fun h=>.inr (Nat.le_trans (Nat.le_trans lJ.out.size X9.out.size) h)),(lJ.out.trans (Kept.dw X9.out)).step K13.out (fun b hb=>(HF.out b hb).imp_left fun h=>by simp [h])⟩
         case measure=>simp [intOf];omega
    · have hle2:¬ 8 * (nth ls k).level+(nth ls k).set≤s:=hle;have HST:Hid (qN y s=ls.take k):=ah (by
       have h:=Ae (y:=y) (s:=s) (k:=k) (by rw [tN.out];exact hk1) (by rw [tN.out];exact XD.out) (by rw [tN.out];exact .inr (by omega));rw [tN.out] at h;exact h)
      clear hle;go_wp2_with (go_at_call 35;(with_reducible refine (gu (nth ls k).level (nth ls k).set _ HL1.out HL2.out).mono ?_);rintro e w6 ⟨rfl,hx6⟩;have X6:=ah hx6;clear hx6);go_ret;exact ⟨_,F,rfl,by rw [Wp,HST.out,HOD.out];exact HG.out.ext X6.out,Om.out.trans X6.out⟩
  · obtain rfl:k=ls.length:=by omega
    have HST:Hid (qN y s=ls):=ah (by
     have h:=Ae (y:=y) (s:=s) (k:=ls.length) (by rw [tN.out];exact Nat.le_refl _) (by rw [tN.out];exact XD.out) (by rw [tN.out];exact .inl rfl);rw [tN.out,List.take_length] at h;exact h)
    rw [List.take_length] at HG ⊢;go_wp2_with fail;go_ret;exact ⟨_,F,rfl,by rw [Wp,HST.out,HOD.out];exact HG.out,Om.out⟩
end Go.Proofs.YtbdicafambkhdaaGreat
