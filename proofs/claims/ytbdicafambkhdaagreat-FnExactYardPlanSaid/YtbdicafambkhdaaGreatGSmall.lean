/- The walk of spec.TasksRight. -/
import Derived.Test.YtbdicafambkhdaaGreatTaskRS
import Derived.Test.YtbdicafambkhdaaGreatLib
set_option maxHeartbeats 4000000
set_option maxRecDepth 50000
namespace Go.Proofs.YtbdicafambkhdaaGreat
open Go.Proofs.Tryz
open Go.RowKit
attribute [local irreducible] wpQuiet
theorem uJ {S:Nat→Prop} (l:List Task) (v:Value) (w:World) (h:Rd ETask S w v l) :
 Calls prog 83 #[v] w fun e w'=>e=.returned (.bool (bn l))∧Ext w w':=by
 have HR:=ah h;obtain ⟨A,c,rfl,h1,h2,hk⟩:=h.open_;unfold maxLen at h2;have HK:=ah hk;clear hk h;by_cases h96:96 < l.length
 · have HN:=ah (yA h96);go_enter func83,ntmps83;go_wp2_with fail;go_ret;exact ⟨au HN.out.symm,Ext.refl _⟩
 have agX:l.length≤96:=by omega
 clear h96;go_enter func83,ntmps83;go_wp2_with fail;go_loopw [3] (fun i w'=>∃ k:Nat,k≤l.length∧i=.int .i64 k∧(∀ j,j < k→tS l j=true)∧Ext w w') (fun i _=>l.length - (intOf i).toNat);case atStart=>exact ⟨0,by omega,rfl,fun j hj=>by omega,Ext.refl _⟩
 case round =>
  obtain ⟨k,hk1,rfl,hall,hx⟩:=hrel;have HA:=ah hall;have HX:=ah hx;clear hall;by_cases hlt:k < l.length
  · obtain ⟨b,q,cs,rfl,_,⟨v1,rfl,hfit,hrd⟩,hc⟩:=HK.out k hlt;obtain ⟨A1,c1',rfl,-⟩:=hrd.form;have lM:=ah hfit;have uQ:=ah hrd;have c0:=Ext.some hx (hc 0 _ rfl);have c1:=Ext.some hx (hc 1 _ rfl);have c2:=Ext.some hx (hc 2 _ rfl);have c3:=Ext.some hx (hc 3 _ rfl);have c4:=Ext.some hx (hc 4 _ rfl);have c5:=Ext.some hx (hc 5 _ rfl);have c6:=Ext.some hx (hc 6 _ rfl);have c7:=Ext.some hx (hc 7 _ rfl);have c8:=Ext.some hx (hc 8 _ rfl);have c9:=Ext.some hx (hc 9 _ rfl);have c10:=Ext.some hx (hc 10 _ rfl);have c11:=Ext.some hx (hc 11 _ rfl);have c12:=Ext.some hx (hc 12 _ rfl);have c13:=Ext.some hx (hc 13 _ rfl);simp only [ETask,Nat.add_zero] at c0 c1 c2 c3 c4 c5 c6 c7 c8 c9 c10 c11 c12 c13;clear hc hfit hrd hx;go_wp2_with fail;obtain ⟨W,B,aX,aT,jF,aG⟩:=fH wr (Rt (nth l k) (.slice A1 (nth l k).nodes.length c1')) 76;rw [← aX,← aT];have e0:=aG 0 _ rfl;have e1:=aG 1 _ rfl;have e2:=aG 2 _ rfl;have e7:=aG 7 _ rfl;have e8:=aG 8 _ rfl;have e9:=aG 9 _ rfl;clear aX aT aG;have HW:=ah (HX.out.trans jF);refine (Fa (S:=S) (nth l k) _ _ (eU lM.out (uQ.out.ext HW.out))).mono ?_;rintro e w2 ⟨rfl,hx2⟩;have X2:=ah (HW.out.trans hx2);replace e0:=Ext.some hx2 e0;replace e1:=Ext.some hx2 e1;replace e2:=Ext.some hx2 e2;replace e7:=Ext.some hx2 e7;replace e8:=Ext.some hx2 e8;replace e9:=Ext.some hx2 e9;clear hx2 jF c0 c1 c2 c3 c4 c5 c6 c7 c8 c9 c10 c11 c12 c13;by_cases ht:bJ (nth l k)=true
    · have HT:=ah ht;have hl:=dQ ht;have XC:=ah hl;clear hl;by_cases h0:0 < k
      · obtain ⟨m,rfl⟩:∃ m,k=m+1:=⟨k - 1,by omega⟩
        obtain ⟨b',q',cs',Ui,_,⟨v',rfl,Ve,_⟩,hd⟩:=HK.out m (by omega);cases Ui;have FD:=ah Ve;have d0:=Ext.some X2.out (hd 0 _ rfl);have d1:=Ext.some X2.out (hd 1 _ rfl);have d2:=Ext.some X2.out (hd 2 _ rfl);simp only [ETask,Nat.add_zero] at d0 d1 d2;have ha:=HA.out m (by omega);simp only [tS,Bool.and_eq_true] at ha;obtain ⟨p1,p2⟩:=x9 ha.1.1;have QV:=ah (dQ ha.1.1);clear hd Ve ha;have ha:=QV.out;have hb:=XC.out;simp only [aA,Bool.and_eq_true] at ha hb;have HA4:=ah ha;have HB4:=ah hb;have Ui:=dR ha.1;have hbp:=dR ha.2;have hbq:=dR hb.1;have hbr:=dR hb.2;clear ha hb;have i0:(0:Int)≤(m:Int)+1:=by omega
        have i1:(m:Int)+1 < (l.length:Int):=by omega
        have i2:((m:Int)+1).toNat=m+1:=by omega
        have i3:IntKind.i64.wrap (m:Int)=(m:Int):=IntWalk.i64_in _ (by omega);have i4:m < l.length:=by omega
        have im:((m:Int)+1 == 0)=false:=by simp;omega
        have i5:(m:Int)+1≤(c:Int):=by omega
        have i6:m+1≤c:=by omega
        have DY:=ah (Rd.take HR.out (Nat.le_of_lt hlt));by_cases hkey:8 * (nth l m).label.level+(nth l m).label.set < 8 * (nth l (m+1)).label.level+(nth l (m+1)).label.set
        · have Xz:=ah hkey;have hkd:decide (8 * (nth l m).label.level+(nth l m).label.set < 8 * (nth l (m+1)).label.level+(nth l (m+1)).label.set)=true:=decide_eq_true hkey;clear hkey;go_wp2_with fail;refine ak (by kernel_rfl) (by kernel_rfl) ?_;repeat (
           (refine wpQuiet_step (fun K hK=>?_)
            go_simp;first
             | (refine hK _ ?_;clear hK K)
             | (apply Exists.intro
                refine ⟨fun bH aj=>?_,hK _ ?_⟩
                · have jH:=Ext.some aj d0;have kJ:=Ext.some aj d1;have oh:=Ext.some aj e0;have lX:=Ext.some aj e1;first | exact rfl | (go_simp;done) | (go_simp;exact rfl) | (go_at_call 35;exact aJ aj (gu (nth l m).label.level (nth l m).label.set _ HA4.out.1 HA4.out.2)) | (go_at_call 35;exact aJ aj (gu (nth l (m+1)).label.level (nth l (m+1)).label.set _ HB4.out.1 HB4.out.2))
                clear hK K)))
          refine wpQuiet_nil ?_;intro w1 hx1;have X3:=ah (X2.out.trans hx1);replace d0:=Ext.some hx1 d0;replace d1:=Ext.some hx1 d1;replace d2:=Ext.some hx1 d2;replace e0:=Ext.some hx1 e0;replace e1:=Ext.some hx1 e1;replace e2:=Ext.some hx1 e2;replace e7:=Ext.some hx1 e7;replace e8:=Ext.some hx1 e8;replace e9:=Ext.some hx1 e9;clear hx1
          rename World=>V3
          have i7:IntKind.i64.wrap ((nth l m).id+1)=(nth l m).id+1:=IntWalk.i64_in _ (by omega);go_wp2_with fail;all_goals refine ak (by kernel_rfl) (by kernel_rfl) ?_
          all_goals have jl:=@kL
          all_goals have adU:=@adT
          repeat (any_goals (
           refine wpQuiet_step (fun K hK=>?_);go_simp;first
            | (refine hK _ ?_;clear hK K)
            | (apply Exists.intro
               refine ⟨fun bH aj=>?_,hK _ ?_⟩
               · have jH:=Ext.some aj d0;have kJ:=Ext.some aj d1;have KR:=Ext.some aj d2;have oh:=Ext.some aj e0;have lX:=Ext.some aj e1;have uz:=Ext.some aj e2;(first | exact rfl | (go_simp;done) | (go_simp;exact rfl))
               clear hK K)
            | (split
               all_goals (first
                | (refine hK _ ?_;clear hK K)
                | (apply Exists.intro
                   refine ⟨fun bH aj=>?_,hK _ ?_⟩
                   · have jH:=Ext.some aj d0;have kJ:=Ext.some aj d1;have KR:=Ext.some aj d2;have oh:=Ext.some aj e0;have lX:=Ext.some aj e1;have uz:=Ext.some aj e2;(first | exact rfl | (go_simp;done) | (go_simp;exact rfl))
                   clear hK K)))))
          all_goals (refine wpQuiet_nil ?_)
          all_goals (intro w1 hx1;clear jl adU)
          all_goals have X4:=ah (X3.out.trans hx1)
          all_goals replace e7:=Ext.some hx1 e7
          all_goals replace e8:=Ext.some hx1 e8
          all_goals replace e9:=Ext.some hx1 e9
          all_goals clear hx1 d0 d1 d2 e0 e1 e2 i7
          all_goals rename World=>V4
          all_goals go_wp2_with fail
          all_goals first
           | (go_ret;exact ⟨au (jc hlt (by have ht:=HT.out;have hk:=qX QV.out XC.out;have hy:=Xz.out;simp only [keyOf,Label.ext_iff] at hk;go_light;simp only [tS,yZ,yQ,ht,Nat.add_one_ne_zero,if_false,Nat.add_sub_cancel];grind)).symm,X4.out⟩)
           | skip
          all_goals refine ak (by kernel_rfl) (by kernel_rfl) ?_
          all_goals have jl:=@kL
          repeat (any_goals (
           refine wpQuiet_step (fun K hK=>?_);go_simp;first
            | (refine hK _ ?_;clear hK K)
            | (apply Exists.intro
               refine ⟨fun bH aj=>?_,hK _ ?_⟩
               · have OD:=Ext.some aj e7;have RQ:=Ext.some aj e8;have RU:=Ext.some aj e9;(first | exact rfl | (go_simp;done) | (go_simp;exact rfl) | (go_at_call 144;exact aJ aj (nR (S:=S) (l.take (m+1)) (nth l (m+1)).under (nth l (m+1)).after _ _ (DY.out.ext (X4.out.trans aj)))))
               clear hK K)
            | (split
               all_goals (first
                | (refine hK _ ?_;clear hK K)
                | (apply Exists.intro
                   refine ⟨fun bH aj=>?_,hK _ ?_⟩
                   · have OD:=Ext.some aj e7;have RQ:=Ext.some aj e8;have RU:=Ext.some aj e9;(first | exact rfl | (go_simp;done) | (go_simp;exact rfl) | (go_at_call 144;exact aJ aj (nR (S:=S) (l.take (m+1)) (nth l (m+1)).under (nth l (m+1)).after _ _ (DY.out.ext (X4.out.trans aj)))))
                   clear hK K)))))
          all_goals (refine wpQuiet_nil ?_)
          all_goals (intro w1 hx1;clear jl)
          all_goals have X5:=ah (X4.out.trans hx1)
          all_goals clear hx1 e7 e8 e9
          all_goals go_wp2_with fail
          all_goals first
           | (go_ret;exact ⟨au (jc hlt (by have ht:=HT.out;have hk:=qX QV.out XC.out;have hy:=Xz.out;simp only [keyOf,Label.ext_iff] at hk;go_light;simp only [tS,yZ,yQ,ht,Nat.add_one_ne_zero,if_false,Nat.add_sub_cancel];grind)).symm,X5.out⟩)
           | (refine ⟨⟨m+2,by omega,by go_num,all_succ HA.out (by have ht:=HT.out;have hk:=qX QV.out XC.out;have hy:=Xz.out;simp only [keyOf,Label.ext_iff] at hk;go_light;simp only [tS,yZ,yQ,ht,Nat.add_one_ne_zero,if_false,Nat.add_sub_cancel];grind),X5.out⟩,?_⟩
              simp [intOf];omega)
        · have Xz:=ah hkey;have hkd:decide (8 * (nth l m).label.level+(nth l m).label.set < 8 * (nth l (m+1)).label.level+(nth l (m+1)).label.set)=false:=decide_eq_false hkey;clear hkey;go_wp2_with fail;refine ak (by kernel_rfl) (by kernel_rfl) ?_;repeat (
           (refine wpQuiet_step (fun K hK=>?_)
            go_simp;first
             | (refine hK _ ?_;clear hK K)
             | (apply Exists.intro
                refine ⟨fun bH aj=>?_,hK _ ?_⟩
                · have jH:=Ext.some aj d0;have kJ:=Ext.some aj d1;have oh:=Ext.some aj e0;have lX:=Ext.some aj e1;first | exact rfl | (go_simp;done) | (go_simp;exact rfl) | (go_at_call 35;exact aJ aj (gu (nth l m).label.level (nth l m).label.set _ HA4.out.1 HA4.out.2)) | (go_at_call 35;exact aJ aj (gu (nth l (m+1)).label.level (nth l (m+1)).label.set _ HB4.out.1 HB4.out.2))
                clear hK K)))
          refine wpQuiet_nil ?_;intro w1 hx1;have X3:=ah (X2.out.trans hx1);replace d0:=Ext.some hx1 d0;replace d1:=Ext.some hx1 d1;replace d2:=Ext.some hx1 d2;replace e0:=Ext.some hx1 e0;replace e1:=Ext.some hx1 e1;replace e2:=Ext.some hx1 e2;replace e7:=Ext.some hx1 e7;replace e8:=Ext.some hx1 e8;replace e9:=Ext.some hx1 e9;clear hx1
          rename World=>V3
          have i7:IntKind.i64.wrap ((nth l m).id+1)=(nth l m).id+1:=IntWalk.i64_in _ (by omega);go_wp2_with fail;all_goals refine ak (by kernel_rfl) (by kernel_rfl) ?_
          all_goals have jl:=@kL
          all_goals have adU:=@adT
          repeat (any_goals (
           refine wpQuiet_step (fun K hK=>?_);go_simp;first
            | (refine hK _ ?_;clear hK K)
            | (apply Exists.intro
               refine ⟨fun bH aj=>?_,hK _ ?_⟩
               · have jH:=Ext.some aj d0;have kJ:=Ext.some aj d1;have KR:=Ext.some aj d2;have oh:=Ext.some aj e0;have lX:=Ext.some aj e1;have uz:=Ext.some aj e2;(first | exact rfl | (go_simp;done) | (go_simp;exact rfl))
               clear hK K)
            | (split
               all_goals (first
                | (refine hK _ ?_;clear hK K)
                | (apply Exists.intro
                   refine ⟨fun bH aj=>?_,hK _ ?_⟩
                   · have jH:=Ext.some aj d0;have kJ:=Ext.some aj d1;have KR:=Ext.some aj d2;have oh:=Ext.some aj e0;have lX:=Ext.some aj e1;have uz:=Ext.some aj e2;(first | exact rfl | (go_simp;done) | (go_simp;exact rfl))
                   clear hK K)))))
          all_goals (refine wpQuiet_nil ?_)
          all_goals (intro w1 hx1;clear jl adU)
          all_goals have X4:=ah (X3.out.trans hx1)
          all_goals replace e7:=Ext.some hx1 e7
          all_goals replace e8:=Ext.some hx1 e8
          all_goals replace e9:=Ext.some hx1 e9
          all_goals clear hx1 d0 d1 d2 e0 e1 e2 i7
          all_goals rename World=>V4
          all_goals go_wp2_with fail
          all_goals first
           | (go_ret;exact ⟨au (jc hlt (by have ht:=HT.out;have hk:=qX QV.out XC.out;have hy:=Xz.out;simp only [keyOf,Label.ext_iff] at hk;go_light;simp only [tS,yZ,yQ,ht,Nat.add_one_ne_zero,if_false,Nat.add_sub_cancel];grind)).symm,X4.out⟩)
           | skip
          all_goals refine ak (by kernel_rfl) (by kernel_rfl) ?_
          all_goals have jl:=@kL
          repeat (any_goals (
           refine wpQuiet_step (fun K hK=>?_);go_simp;first
            | (refine hK _ ?_;clear hK K)
            | (apply Exists.intro
               refine ⟨fun bH aj=>?_,hK _ ?_⟩
               · have OD:=Ext.some aj e7;have RQ:=Ext.some aj e8;have RU:=Ext.some aj e9;(first | exact rfl | (go_simp;done) | (go_simp;exact rfl) | (go_at_call 144;exact aJ aj (nR (S:=S) (l.take (m+1)) (nth l (m+1)).under (nth l (m+1)).after _ _ (DY.out.ext (X4.out.trans aj)))))
               clear hK K)
            | (split
               all_goals (first
                | (refine hK _ ?_;clear hK K)
                | (apply Exists.intro
                   refine ⟨fun bH aj=>?_,hK _ ?_⟩
                   · have OD:=Ext.some aj e7;have RQ:=Ext.some aj e8;have RU:=Ext.some aj e9;(first | exact rfl | (go_simp;done) | (go_simp;exact rfl) | (go_at_call 144;exact aJ aj (nR (S:=S) (l.take (m+1)) (nth l (m+1)).under (nth l (m+1)).after _ _ (DY.out.ext (X4.out.trans aj)))))
                   clear hK K)))))
          all_goals (refine wpQuiet_nil ?_)
          all_goals (intro w1 hx1;clear jl)
          all_goals have X5:=ah (X4.out.trans hx1)
          all_goals clear hx1 e7 e8 e9
          all_goals go_wp2_with fail
          all_goals first
           | (go_ret;exact ⟨au (jc hlt (by have ht:=HT.out;have hk:=qX QV.out XC.out;have hy:=Xz.out;simp only [keyOf,Label.ext_iff] at hk;go_light;simp only [tS,yZ,yQ,ht,Nat.add_one_ne_zero,if_false,Nat.add_sub_cancel];grind)).symm,X5.out⟩)
           | (refine ⟨⟨m+2,by omega,by go_num,all_succ HA.out (by have ht:=HT.out;have hk:=qX QV.out XC.out;have hy:=Xz.out;simp only [keyOf,Label.ext_iff] at hk;go_light;simp only [tS,yZ,yQ,ht,Nat.add_one_ne_zero,if_false,Nat.add_sub_cancel];grind),X5.out⟩,?_⟩
              simp [intOf];omega)
      · obtain rfl:k=0:=by omega
        have DY:=ah (Rd.take HR.out (Nat.zero_le l.length));have i5:(0:Int)≤(c:Int):=by omega
        go_wp2_with fail;refine ak (by kernel_rfl) (by kernel_rfl) ?_;repeat (
         (refine wpQuiet_step (fun K hK=>?_)
          go_simp;first
           | (refine hK _ ?_;clear hK K)
           | (apply Exists.intro
              refine ⟨fun bH aj=>?_,hK _ ?_⟩
              · first | exact rfl | (go_simp;done) | (go_simp;exact rfl)
              clear hK K)))
        refine wpQuiet_nil ?_;intro w1 hx1;have X3:=ah (X2.out.trans hx1);replace e2:=Ext.some hx1 e2;replace e7:=Ext.some hx1 e7;replace e8:=Ext.some hx1 e8;replace e9:=Ext.some hx1 e9;clear hx1 e0 e1
        rename World=>V3
        go_wp2_with fail;all_goals refine ak (by kernel_rfl) (by kernel_rfl) ?_
        all_goals have jl:=@kL
        repeat (any_goals (
         refine wpQuiet_step (fun K hK=>?_);go_simp;first
          | (refine hK _ ?_;clear hK K)
          | (apply Exists.intro
             refine ⟨fun bH aj=>?_,hK _ ?_⟩
             · have uz:=Ext.some aj e2;(first | exact rfl | (go_simp;done) | (go_simp;exact rfl))
             clear hK K)
          | (split
             all_goals (first
              | (refine hK _ ?_;clear hK K)
              | (apply Exists.intro
                 refine ⟨fun bH aj=>?_,hK _ ?_⟩
                 · have uz:=Ext.some aj e2;(first | exact rfl | (go_simp;done) | (go_simp;exact rfl))
                 clear hK K)))))
        all_goals (refine wpQuiet_nil ?_)
        all_goals (intro w1 hx1;clear jl)
        all_goals have X4:=ah (X3.out.trans hx1)
        all_goals replace e7:=Ext.some hx1 e7
        all_goals replace e8:=Ext.some hx1 e8
        all_goals replace e9:=Ext.some hx1 e9
        all_goals clear hx1 e2
        all_goals rename World=>V4
        all_goals go_wp2_with fail
        all_goals first
         | (go_ret;exact ⟨au (jc hlt (by have ht:=HT.out;go_light;simp only [tS,yZ,yQ,ht,if_true];grind)).symm,X4.out⟩)
         | skip
        all_goals refine ak (by kernel_rfl) (by kernel_rfl) ?_
        all_goals have jl:=@kL
        repeat (any_goals (
         refine wpQuiet_step (fun K hK=>?_);go_simp;first
          | (refine hK _ ?_;clear hK K)
          | (apply Exists.intro
             refine ⟨fun bH aj=>?_,hK _ ?_⟩
             · have OD:=Ext.some aj e7;have RQ:=Ext.some aj e8;have RU:=Ext.some aj e9;(first | exact rfl | (go_simp;done) | (go_simp;exact rfl) | (go_at_call 144;exact aJ aj (nR (S:=S) (l.take 0) (nth l 0).under (nth l 0).after _ _ (DY.out.ext (X4.out.trans aj)))))
             clear hK K)
          | (split
             all_goals (first
              | (refine hK _ ?_;clear hK K)
              | (apply Exists.intro
                 refine ⟨fun bH aj=>?_,hK _ ?_⟩
                 · have OD:=Ext.some aj e7;have RQ:=Ext.some aj e8;have RU:=Ext.some aj e9;(first | exact rfl | (go_simp;done) | (go_simp;exact rfl) | (go_at_call 144;exact aJ aj (nR (S:=S) (l.take 0) (nth l 0).under (nth l 0).after _ _ (DY.out.ext (X4.out.trans aj)))))
                 clear hK K)))))
        all_goals (refine wpQuiet_nil ?_)
        all_goals (intro w1 hx1;clear jl)
        all_goals have X5:=ah (X4.out.trans hx1)
        all_goals clear hx1 e7 e8 e9
        all_goals go_wp2_with fail
        all_goals first
         | (go_ret;exact ⟨au (jc hlt (by have ht:=HT.out;go_light;simp only [tS,yZ,yQ,ht,if_true];grind)).symm,X5.out⟩)
         | (refine ⟨⟨1,by omega,by go_num,all_succ HA.out (by have ht:=HT.out;go_light;simp only [tS,yZ,yQ,ht,if_true];grind),X5.out⟩,?_⟩
            simp [intOf];omega)
    · simp only [Bool.not_eq_true] at ht;have HF:Hid (bn l=false):=ah (jc hlt (by simp [tS,ht]));go_wp2_with fail;go_ret;exact ⟨au HF.out.symm,X2.out⟩
  · have HF:Hid (bn l=true):=ah (by rw [Oa fun i hi=>HA.out i (by omega)];exact decide_eq_true agX);go_wp2_with fail;go_ret;exact ⟨au HF.out.symm,HX.out⟩
end Go.Proofs.YtbdicafambkhdaaGreat
/- The walk of impl.TasksRight. The walks of LiveOf,the program's and the reference's. -/
namespace Go.Proofs.YtbdicafambkhdaaGreat
open Go.Proofs.Tryz
open Go.RowKit
attribute [local irreducible] wpQuiet
theorem N9 {S:Nat→Prop} (l:List Task) (v:Value) (w:World) (h:Rd ETask S w v l) :
 Calls prog 101 #[v] w fun e w'=>e=.returned (.bool (bn l))∧Ext w w':=by
 have HR:=ah h;obtain ⟨A,c,rfl,h1,h2,hk⟩:=h.open_;unfold maxLen at h2;have HK:=ah hk;clear hk h;by_cases h96:96 < l.length
 · have HN:=ah (yA h96);go_enter func101,ntmps101;go_wp2_with fail;go_ret;exact ⟨au HN.out.symm,Ext.refl _⟩
 have agX:l.length≤96:=by omega
 clear h96;go_enter func101,ntmps101;go_wp2_with fail;go_loopw [12] (fun i w'=>∃ k:Nat,k≤l.length∧i=.int .i64 k∧(∀ j,j < k→tI l j=true)∧Ext w w') (fun i _=>l.length - (intOf i).toNat);case atStart=>exact ⟨0,by omega,rfl,fun j hj=>by omega,Ext.refl _⟩
 case round =>
  obtain ⟨k,hk1,rfl,hall,hx⟩:=hrel;have HA:=ah hall;have HX:=ah hx;clear hall;by_cases hlt:k < l.length
  · obtain ⟨b,q,cs,rfl,_,⟨v1,rfl,hfit,hrd⟩,hc⟩:=HK.out k hlt;obtain ⟨A1,c1',rfl,-⟩:=hrd.form;have lM:=ah hfit;have uQ:=ah hrd;have c0:=Ext.some hx (hc 0 _ rfl);have c1:=Ext.some hx (hc 1 _ rfl);have c2:=Ext.some hx (hc 2 _ rfl);have c3:=Ext.some hx (hc 3 _ rfl);have c4:=Ext.some hx (hc 4 _ rfl);have c5:=Ext.some hx (hc 5 _ rfl);have c6:=Ext.some hx (hc 6 _ rfl);have c7:=Ext.some hx (hc 7 _ rfl);have c8:=Ext.some hx (hc 8 _ rfl);have c9:=Ext.some hx (hc 9 _ rfl);have c10:=Ext.some hx (hc 10 _ rfl);have c11:=Ext.some hx (hc 11 _ rfl);have c12:=Ext.some hx (hc 12 _ rfl);have c13:=Ext.some hx (hc 13 _ rfl);simp only [ETask,Nat.add_zero] at c0 c1 c2 c3 c4 c5 c6 c7 c8 c9 c10 c11 c12 c13;clear hc hfit hrd hx;go_wp2_with fail;obtain ⟨W,B,aX,aT,jF,aG⟩:=fH wr (Rt (nth l k) (.slice A1 (nth l k).nodes.length c1')) 76;rw [← aX,← aT];have e0:=aG 0 _ rfl;have e1:=aG 1 _ rfl;have e2:=aG 2 _ rfl;have e7:=aG 7 _ rfl;have e8:=aG 8 _ rfl;have e9:=aG 9 _ rfl;clear aX aT aG;have HW:=ah (HX.out.trans jF);refine (PL (S:=S) (nth l k) _ _ (eU lM.out (uQ.out.ext HW.out))).mono ?_;rintro e w2 ⟨rfl,hx2⟩;have X2:=ah (HW.out.trans hx2);replace e0:=Ext.some hx2 e0;replace e1:=Ext.some hx2 e1;replace e2:=Ext.some hx2 e2;replace e7:=Ext.some hx2 e7;replace e8:=Ext.some hx2 e8;replace e9:=Ext.some hx2 e9;clear hx2 jF c0 c1 c2 c3 c4 c5 c6 c7 c8 c9 c10 c11 c12 c13;by_cases ht:bJ (nth l k)=true
    · have HT:=ah ht;by_cases h0:0 < k
      · obtain ⟨m,rfl⟩:∃ m,k=m+1:=⟨k - 1,by omega⟩
        obtain ⟨b',q',cs',Ui,_,⟨v',rfl,Ve,_⟩,hd⟩:=HK.out m (by omega);cases Ui;have FD:=ah Ve;have d0:=Ext.some X2.out (hd 0 _ rfl);have d1:=Ext.some X2.out (hd 1 _ rfl);have d2:=Ext.some X2.out (hd 2 _ rfl);simp only [ETask,Nat.add_zero] at d0 d1 d2;have ha:=HA.out m (by omega);simp only [tI,Bool.and_eq_true] at ha;obtain ⟨p1,p2⟩:=x9 ha.1.1;clear hd Ve ha;have i0:(0:Int)≤(m:Int)+1:=by omega
        have i1:(m:Int)+1 < (l.length:Int):=by omega
        have i2:((m:Int)+1).toNat=m+1:=by omega
        have i3:IntKind.i64.wrap (m:Int)=(m:Int):=IntWalk.i64_in _ (by omega);have i4:m < l.length:=by omega
        have HFa:Hid (aP (nth l m).label):=ah ⟨FD.out.1,FD.out.2.1⟩;have HFb:Hid (aP (nth l (m+1)).label):=ah ⟨lM.out.1,lM.out.2.1⟩;go_wp2_with fail;refine ak (by kernel_rfl) (by kernel_rfl) ?_;repeat (
         (refine wpQuiet_step (fun K hK=>?_)
          go_simp;first
           | (refine hK _ ?_;clear hK K)
           | (apply Exists.intro
              refine ⟨fun bH aj=>?_,hK _ ?_⟩
              · have jH:=Ext.some aj d0;have kJ:=Ext.some aj d1;have oh:=Ext.some aj e0;have lX:=Ext.some aj e1;first | exact rfl | (go_simp;done) | (go_simp;exact rfl) | (go_at_call 117;exact aJ aj (qg (S:=S) (S':=S) (nth l m).label (nth l (m+1)).label _ _ _ (aC HFa.out) (aC HFb.out)))
              clear hK K)))
        refine wpQuiet_nil ?_;intro w1 hx1;have X3:=ah (X2.out.trans hx1);replace d2:=Ext.some hx1 d2;replace e2:=Ext.some hx1 e2;replace e7:=Ext.some hx1 e7;replace e8:=Ext.some hx1 e8;replace e9:=Ext.some hx1 e9;clear hx1 d0 d1 e0 e1;clear i2 i3;go_wp2_with (go_at_call 156;(with_reducible refine (DU (S:=S) l (nth l (m+1)).under (nth l (m+1)).after _ _ (HR.out.ext X3.out)).mono ?_);rintro e w4 ⟨rfl,hx4⟩;have X4:=ah (X3.out.trans hx4);clear hx4);all_goals first
         | (go_ret;exact ⟨au (qQ hlt (by have ht:=HT.out;go_light;simp only [tI,yZ,yQ,ht,Nat.add_one_ne_zero,if_false,Nat.add_sub_cancel];grind)).symm,by first | exact X4.out | exact X3.out⟩)
         | (refine ⟨⟨m+2,by omega,by go_num,all_succ HA.out (by have ht:=HT.out;go_light;simp only [tI,yZ,yQ,ht,Nat.add_one_ne_zero,if_false,Nat.add_sub_cancel];grind),by first | exact X4.out | exact X3.out⟩,?_⟩
            simp [intOf];omega)
      · obtain rfl:k=0:=by omega
        clear e0 e1;go_wp2_with (go_at_call 156;(with_reducible refine (DU (S:=S) l (nth l 0).under (nth l 0).after _ _ (HR.out.ext X2.out)).mono ?_);rintro e w4 ⟨rfl,hx4⟩;have X4:=ah (X2.out.trans hx4);clear hx4);all_goals first
         | (go_ret;exact ⟨au (qQ hlt (by have ht:=HT.out;go_light;simp only [tI,yZ,yQ,ht,if_true];grind)).symm,by first | exact X4.out | exact X2.out⟩)
         | (refine ⟨⟨1,by omega,by go_num,all_succ HA.out (by have ht:=HT.out;go_light;simp only [tI,yZ,yQ,ht,if_true];grind),by first | exact X4.out | exact X2.out⟩,?_⟩
            simp [intOf];omega)
    · simp only [Bool.not_eq_true] at ht;have HF:Hid (bn l=false):=ah (qQ hlt (by simp [tI,ht]));go_wp2_with fail;go_ret;exact ⟨au HF.out.symm,X2.out⟩
  · have HF:Hid (bn l=true):=ah (by rw [CS fun i hi=>HA.out i (by omega)];exact decide_eq_true agX);go_wp2_with fail;go_ret;exact ⟨au HF.out.symm,HX.out⟩
def VG (n:Int):Bool:=jG n 1 3
def isLive (a:Label) (x:Task):Bool:=decide (x.label=a) && VG x.state
def wI (l:List Task) (a:Label):Nat:=l.countP (isLive a)
def xG (l:List Task) (a:Label):Int:=if bn l=true then wI l a else 0
theorem MK {l:List Task} {a:Label} {k:Nat} (hk:k < l.length):wI (l.take (k+1)) a=wI (l.take k) a+if isLive a (nth l k)=true then 1 else 0:=by
 have h:l.take (k+1)=l.take k ++ [nth l k]:=by
  rw [List.take_succ_eq_append_getElem hk,aO hk]
 rw [h];simp [wI,List.countP_append,List.countP_cons]
theorem VH (l:List Task) (a:Label) (k:Nat):wI (l.take k) a≤k:=Nat.le_trans List.countP_le_length (List.length_take_le _ _)
theorem Me {a:Label} {x:Task}:isLive a x=(decide (x.label.level=a.level) && decide (x.label.set=a.set) && VG x.state):=by
 obtain ⟨⟨l,s⟩,i,_⟩:=x;obtain ⟨m,t⟩:=a;simp [isLive]
theorem I5 (n:Int) (w:World):Calls prog 175 #[.int .i64 n] w fun e w'=>e=.returned (.bool (VG n))∧w=w':=by
 go_enter func175,ntmps175;go_wp2_with fail;all_goals (go_ret;exact ⟨au (by go_light;unfold VG jG;grind),rfl⟩)
theorem Yl (l s i:Int) (o:ByteArray) (ne lo pr ul us af bo st sa:Int) (A:Option Addr) (n c:Nat) (w:World) :
 Calls prog 204 #[.agg #[.int .i64 l,.int .i64 s,.int .i64 i,.string o,.int .i64 ne,.int .i64 lo,.int .i64 pr,.int .i64 ul,.int .i64 us,.int .i64 af,.int .i64 bo,.int .i64 st,.int .i64 sa,.slice A n c]] w fun e w'=>e=.returned (.bool (VG st))∧Ext w w':=by
 go_enter func204,ntmps204;go_wp2_with (go_at_call 42;refine (bI _ _ _ _).mono ?_;rintro e w' ⟨rfl,rfl⟩);go_ret;exact ⟨rfl,(Ext.refl _).alloc _⟩
theorem VI {S:Nat→Prop} (l:List Task) (a:Label) (v:Value) (w:World) (h:Rd ETask S w v l) (hl:l.length≤96) :
 Calls prog 108 #[v,.agg (Rl a)] w fun e w'=>e=.returned (.int .i64 (wI l a))∧Ext w w':=by
 obtain ⟨A,c,rfl,h1,h2,hk⟩:=h.open_;unfold maxLen at h2;have HK:=ah hk;clear hk h;go_enter func108,ntmps108;go_upto_region 1 with (fail)
 obtain ⟨W,B,aX,aT,jF,aG⟩:=fH w (Rl a) 47;rw [← aX,← aT];have b0:=aG 0 _ rfl;have b1:=aG 1 _ rfl;clear aX aT aG;have HB0:=ah b0;have HB1:=ah b1;have HW:=ah jF;clear b0 b1 jF;go_wp2_with fail;go_loopw [5,10] (fun n i w'=>∃ k:Nat,k≤l.length∧i=.int .i64 k∧n=.int .i64 (wI (l.take k) a)∧Ext W w') (fun _ i _=>l.length - (intOf i).toNat);case atStart=>exact ⟨0,by omega,rfl,rfl,Ext.refl _⟩
 case round =>
  obtain ⟨k,hk1,rfl,rfl,hx⟩:=hrel;have HX:=ah hx;by_cases hlt:k < l.length
  · obtain ⟨b,q,cs,rfl,_,⟨v1,rfl,hfit,hrd⟩,hc⟩:=HK.out k hlt;obtain ⟨A1,c1',rfl,-⟩:=hrd.form;have hxx:=HW.out.trans hx;have c0:=Ext.some hxx (hc 0 _ rfl);have c1:=Ext.some hxx (hc 1 _ rfl);have c2:=Ext.some hxx (hc 2 _ rfl);have c3:=Ext.some hxx (hc 3 _ rfl);have c4:=Ext.some hxx (hc 4 _ rfl);have c5:=Ext.some hxx (hc 5 _ rfl);have c6:=Ext.some hxx (hc 6 _ rfl);have c7:=Ext.some hxx (hc 7 _ rfl);have c8:=Ext.some hxx (hc 8 _ rfl);have c9:=Ext.some hxx (hc 9 _ rfl);have c10:=Ext.some hxx (hc 10 _ rfl);have c11:=Ext.some hxx (hc 11 _ rfl);have c12:=Ext.some hxx (hc 12 _ rfl);have c13:=Ext.some hxx (hc 13 _ rfl);simp only [ETask,Nat.add_zero] at c0 c1 c2 c3 c4 c5 c6 c7 c8 c9 c10 c11 c12 c13;have d0:=fun o:Obj=>Ext.some (hx.alloc o) HB0.out;have d1:=fun o:Obj=>Ext.some (hx.alloc o) HB1.out;have HS:=ah (MK (a:=a) hlt);have hle:=VH l a k;clear hc hfit hrd hx hxx;generalize hn:wI (l.take k) a=n at *;have HN:=ah hn;clear hn;have jl:=@kL;go_wp2_with (go_at_call 204;refine (Yl _ _ _ _ _ _ _ _ _ _ _ _ _ _ _ _ _).mono ?_;rintro e w2 ⟨rfl,hx2⟩;have X2:=ah ((HX.out.alloc _).trans hx2);clear hx2);all_goals
     refine ⟨⟨k+1,by omega,by go_num,by rw [HS.out,Me];clear jl;go_light;simp [*],by first | exact X2.out | exact HX.out.alloc _⟩,?_⟩;simp [intOf];omega
  · obtain rfl:k=l.length:=by omega
    go_wp2_with fail;go_ret;exact ⟨aI (by rw [List.take_length]),HW.out.trans HX.out⟩
theorem NR {S:Nat→Prop} (l:List Task) (a:Label) (v:Value) (w:World) (h:Rd ETask S w v l) :
 Calls prog 88 #[v,.agg (Rl a)] w fun e w'=>e=.returned (.int .i64 (xG l a))∧Ext w w':=by
 have HR:=ah h;obtain ⟨A,c,rfl,h1,h2,hk⟩:=h.open_;unfold maxLen at h2;have HK:=ah hk;clear hk h;go_enter func88,ntmps88;go_upto_region 1 with (fail)
 obtain ⟨W,B,aX,aT,jF,aG⟩:=fH w (Rl a) 47;rw [← aX,← aT];have b0:=aG 0 _ rfl;have b1:=aG 1 _ rfl;clear aX aT aG;have HW:=ah jF;clear jF;go_wp2_with fail;refine (uJ (S:=S) l _ _ (HR.out.ext HW.out)).mono ?_;rintro e w1 ⟨rfl,hx⟩;have HB0:=ah (Ext.some hx b0);have HB1:=ah (Ext.some hx b1);have X1:=ah (HW.out.trans hx);clear hx b0 b1;by_cases ht:bn l=true
 · have HL:Hid (l.length≤96):=ah (by simp only [bn,Bool.and_eq_true,decide_eq_true_eq] at ht;exact ht.1);have HE:Hid (xG l a=wI l a):=ah (by rw [xG,if_pos ht]);have hl:=HL.out;go_wp2_with fail;clear ht;go_loopw [5,6] (fun n i w'=>∃ k:Nat,k≤l.length∧i=.int .i64 k∧n=.int .i64 (wI (l.take k) a)∧Ext w1 w') (fun _ i _=>l.length - (intOf i).toNat);case atStart=>exact ⟨0,by omega,rfl,rfl,Ext.refl _⟩
   case round =>
    obtain ⟨k,hk1,rfl,rfl,hx⟩:=hrel;have HX:=ah hx;by_cases hlt:k < l.length
    · obtain ⟨b,q,cs,rfl,_,⟨v1,rfl,hfit,hrd⟩,hc⟩:=HK.out k hlt;have hxx:=X1.out.trans hx;have c0:=Ext.some hxx (hc 0 _ rfl);have c1:=Ext.some hxx (hc 1 _ rfl);have c11:=Ext.some hxx (hc 11 _ rfl);simp only [ETask,Nat.add_zero] at c0 c1 c11;have d0:=Ext.some hx HB0.out;have d1:=Ext.some hx HB1.out;have HS:=ah (MK (a:=a) hlt);have hle:=VH l a k;clear hc hfit hrd hx hxx;generalize hn:wI (l.take k) a=n at *;have HN:=ah hn;clear hn;go_wp2_with fail;all_goals refine ak (by kernel_rfl) (by kernel_rfl) ?_
      all_goals have jl:=@kL
      repeat (any_goals (
       refine wpQuiet_step (fun K hK=>?_);go_simp;first
        | (refine hK _ ?_;clear hK K)
        | (apply Exists.intro
           refine ⟨fun bH aj=>?_,hK _ ?_⟩
           · have kH:=Ext.some aj c0;have mX:=Ext.some aj c1;have alc:=Ext.some aj c11;have jH:=Ext.some aj d0;have kJ:=Ext.some aj d1;(first | exact rfl | (go_simp;done) | (go_simp;exact rfl) | (go_at_call 175;exact aN aj (I5 _ _)))
           clear hK K)
        | (split
           all_goals (first
            | (refine hK _ ?_;clear hK K)
            | (apply Exists.intro
               refine ⟨fun bH aj=>?_,hK _ ?_⟩
               · have kH:=Ext.some aj c0;have mX:=Ext.some aj c1;have alc:=Ext.some aj c11;have jH:=Ext.some aj d0;have kJ:=Ext.some aj d1;(first | exact rfl | (go_simp;done) | (go_simp;exact rfl) | (go_at_call 175;exact aN aj (I5 _ _)))
               clear hK K)))))
      all_goals (refine wpQuiet_nil ?_)
      all_goals (intro w1 hx1;clear jl)
      all_goals have X2:=ah (HX.out.trans hx1)
      all_goals clear hx1 c0 c1 c11 d0 d1
      all_goals go_wp2_with fail
      all_goals
       refine ⟨⟨k+1,by omega,by go_num,by rw [HS.out,Me];go_light;simp [*],X2.out⟩,?_⟩;simp [intOf];omega
    · obtain rfl:k=l.length:=by omega
      go_wp2_with fail;go_ret;exact ⟨aI (by rw [HE.out,List.take_length]),X1.out.trans HX.out⟩
 · have HE:Hid (xG l a=0):=ah (by rw [xG,if_neg ht]);simp only [Bool.not_eq_true] at ht;go_wp2_with fail;go_ret;exact ⟨aI HE.out.symm,X1.out⟩
end Go.Proofs.YtbdicafambkhdaaGreat
/- The walks of TaskReady,the program's and the reference's. -/
namespace Go.Proofs.YtbdicafambkhdaaGreat
open Go.Proofs.Tryz
open Go.RowKit
attribute [local irreducible] wpQuiet
def sG (l:List Task) (x:Task):Bool :=
 if x.state≠1∨x.after=0 then decide (x.state=1)
 else l.any fun y=>jv x.under x.after y && decide ((l.find? (jv x.under x.after)).map (·.state)=some 4)
theorem Jg {l:List Task} {x:Task} (h1:x.state=1) (h2:x.after≠0) {k:Nat} (hk:k < l.length) (hp:jv x.under x.after (nth l k)=true) (hn:∀ j,j < k→jv x.under x.after (nth l j)=false):sG l x=decide ((nth l k).state=4):=by
 have hf:l.find? (jv x.under x.after)=some (nth l k):=by
  rw [List.find?_eq_some_iff_getElem];refine ⟨hp,k,hk,(aO hk).symm,fun j hj=>?_⟩;have:=hn j hj;rw [aO (by omega)] at this;simpa using this
 unfold sG;rw [if_neg (by simp [h1,h2]),hf];by_cases h4:(nth l k).state=4
 · rw [decide_eq_true h4];exact List.any_eq_true.2 ⟨nth l k,bG hk,by simp [hp,h4]⟩
 · rw [decide_eq_false h4,List.any_eq_false];intro y _;simp [h4]
theorem Nv {l:List Task} {x:Task} (h1:x.state=1) (h2:x.after≠0) (hn:∀ j,j < l.length→jv x.under x.after (nth l j)=false):sG l x=false:=by
 unfold sG;rw [if_neg (by simp [h1,h2]),List.any_eq_false];intro y hy;obtain ⟨j,hj,rfl⟩:=List.getElem_of_mem hy;have:=hn j hj;rw [aO hj] at this;simp [this]
theorem Jh {l:List Task} {x:Task} (h:x.state≠1∨x.after=0):sG l x=decide (x.state=1):=by unfold sG;rw [if_pos h]
theorem PE {S S':Nat→Prop} (l:List Task) (x:Task) (v:Value) (cs:List Value) (w:World) (h:Rd ETask S w v l) (g:ETask.rel S' w cs x) :
 Calls prog 179 #[v,.agg cs.toArray] w fun e w'=>e=.returned (.bool (sG l x))∧Ext w w':=by
 have HR:=ah h;obtain ⟨A,c,rfl,h1,h2,hk⟩:=h.open_;unfold maxLen at h2;have HK:=ah hk;clear hk h;obtain ⟨v1,rfl,_,hrd⟩:=g;obtain ⟨A1,c1,rfl,-⟩:=hrd.form;clear hrd;simp only [aB];by_cases hp:x.state≠1∨x.after=0
 · have HE:=ah (Jh (l:=l) hp);go_enter func179,ntmps179;rcases hp with hp | hp
   · go_wp2_with fail;all_goals (go_ret;exact ⟨au (by rw [HE.out];go_light;grind),(Ext.refl _).alloc _⟩)
   · go_wp2_with fail;all_goals (go_ret;exact ⟨au (by rw [HE.out];go_light;grind),(Ext.refl _).alloc _⟩)
 · simp only [ne_eq,not_or,Classical.not_not] at hp;obtain ⟨p1,p2⟩:=hp;have P1:=ah p1;have P2:=ah p2;clear p1 p2;go_enter func179,ntmps179;go_upto_region 1 with (fail)
   obtain ⟨W,B,aX,aT,jF,aG⟩:=fH w (Rt x (.slice A1 x.nodes.length c1)) 76;rw [← aX,← aT];have e7:=aG 7 _ rfl;have e8:=aG 8 _ rfl;have e9:=aG 9 _ rfl;have e11:=aG 11 _ rfl;clear aX aT aG;have HW:=ah jF;clear jF;have p1:=P1.out;have p2:=P2.out;go_wp2_with fail;refine (nR (S:=S) l x.under x.after _ _ (HR.out.ext HW.out)).mono ?_;rintro e w1 ⟨rfl,hx1⟩;have X1:=ah (HW.out.trans hx1);clear hx1 e7 e8 e9 e11 p1 p2;rcases rH (jv x.under x.after) l with ⟨hi,hn⟩ | ⟨k,hlt,hi,hq,hn⟩
   · have HI:Hid (pI l x.under x.after = -1):=ah hi;have HE:=ah (Nv P1.out P2.out hn);clear hi hn;rw [HI.out];go_wp2_with fail;go_ret;exact ⟨au HE.out.symm,X1.out⟩
   · have HI:Hid (pI l x.under x.after=k):=ah hi;have HE:=ah (Jg P1.out P2.out hlt hq hn);obtain ⟨b,q,cs,rfl,_,⟨v2,rfl,_,_⟩,hc⟩:=HK.out k hlt;have c11:=Ext.some X1.out (hc 11 _ rfl);simp only [ETask] at c11;clear hi hq hn hc;rw [HI.out];go_wp2_with fail;go_ret;exact ⟨au (by rw [HE.out];go_light;first | rfl | (rw [Bool.eq_iff_iff];simp)),X1.out⟩
theorem acg {S S':Nat→Prop} (l:List Task) (x:Task) (v:Value) (cs:List Value) (w:World) (h:Rd ETask S w v l) (g:ETask.rel S' w cs x) :
 Calls prog 208 #[v,.agg cs.toArray] w fun e w'=>e=.returned (.bool (sG l x))∧Ext w w':=by
 have HR:=ah h;obtain ⟨A,c,rfl,h1,h2,hk⟩:=h.open_;unfold maxLen at h2;have HK:=ah hk;clear hk h;obtain ⟨v1,rfl,_,hrd⟩:=g;obtain ⟨A1,c1,rfl,-⟩:=hrd.form;clear hrd;simp only [aB];by_cases hp:x.state≠1∨x.after=0
 · have HE:=ah (Jh (l:=l) hp);go_enter func208,ntmps208;rcases hp with hp | hp
   · go_wp2_with fail;all_goals (go_ret;exact ⟨au (by rw [HE.out];go_light;grind),(Ext.refl _).alloc _⟩)
   · go_wp2_with fail;all_goals (go_ret;exact ⟨au (by rw [HE.out];go_light;grind),(Ext.refl _).alloc _⟩)
 · simp only [ne_eq,not_or,Classical.not_not] at hp;obtain ⟨p1,p2⟩:=hp;have P1:=ah p1;have P2:=ah p2;clear p1 p2;go_enter func208,ntmps208;go_upto_region 1 with (fail)
   obtain ⟨W,B,aX,aT,jF,aG⟩:=fH w (Rt x (.slice A1 x.nodes.length c1)) 76;rw [← aX,← aT];have e7:=aG 7 _ rfl;have e8:=aG 8 _ rfl;have e9:=aG 9 _ rfl;have e11:=aG 11 _ rfl;clear aX aT aG;have HW:=ah jF;clear jF;have p1:=P1.out;have p2:=P2.out;go_wp2_with fail;refine (DU (S:=S) l x.under x.after _ _ (HR.out.ext HW.out)).mono ?_;rintro e w1 ⟨rfl,hx1⟩;have X1:=ah (HW.out.trans hx1);clear hx1 e7 e8 e9 e11 p1 p2;rcases rH (jv x.under x.after) l with ⟨hi,hn⟩ | ⟨k,hlt,hi,hq,hn⟩
   · have HI:Hid (pI l x.under x.after = -1):=ah hi;have HE:=ah (Nv P1.out P2.out hn);clear hi hn;rw [HI.out];go_wp2_with fail;go_ret;exact ⟨au HE.out.symm,X1.out⟩
   · have HI:Hid (pI l x.under x.after=k):=ah hi;have HE:=ah (Jg P1.out P2.out hlt hq hn);obtain ⟨b,q,cs,rfl,_,⟨v2,rfl,_,_⟩,hc⟩:=HK.out k hlt;have c11:=Ext.some X1.out (hc 11 _ rfl);simp only [ETask] at c11;clear hi hq hn hc;rw [HI.out];go_wp2_with fail;go_ret;exact ⟨au (by rw [HE.out];go_light;first | rfl | (rw [Bool.eq_iff_iff];simp)),X1.out⟩
end Go.Proofs.YtbdicafambkhdaaGreat
/- Which data are small enough to be copied. Printed by wip/gen.py. -/
namespace Go.Proofs.YtbdicafambkhdaaGreat
open Go.Proofs.Tryz
def SmL {α:Type} (P:α→Prop) (l:List α):Prop:=l.length≤1048576∧∀ x∈l,P x
def XL (_x:Span):Prop:=True
def qW (_x:Label):Prop:=True
def J3 (l:List Span):Prop:=SmL XL l
def FV (x:Node):Prop:=J3 x.books
def aaU (x:Use):Prop:=qW x.label
def D6 (l:List Int):Prop:=SmL (fun _=>True) l
def FW (x:Task):Prop:=qW x.label∧qW x.under∧D6 x.nodes
def XJ (x:Pair):Prop:=qW x.from_∧qW x.jA
def Rn (x:jk):Prop:=qW x.label
def D7 (l:List Label):Prop:=SmL qW l
def zX (l:List (List Label)):Prop:=SmL D7 l
def JZ (l:List Pair):Prop:=SmL XJ l
def D8 (l:List jk):Prop:=SmL Rn l
def oI (x:Config):Prop:=zX x.nodes∧JZ x.pairs∧D8 x.ay
def JY (l:List Node):Prop:=SmL FV l
def J4 (l:List Task):Prop:=SmL FW l
def Ro (l:List Use):Prop:=SmL aaU l
def rQ (x:aK):Prop:=oI x.config∧JY x.nodes∧J4 x.tasks∧Ro x.uses
end Go.Proofs.YtbdicafambkhdaaGreat
