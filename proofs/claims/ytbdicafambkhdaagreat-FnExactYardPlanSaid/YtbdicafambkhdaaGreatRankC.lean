/- GR-TEXT. Walks of other texts once more: memory grew by draws and new blocks alone. Printed by wip/gr.py. GR-TEXT. The walk of UseOf once more: memory grew by draws and new blocks alone. Printed by wip/gr.py. GR-TEXT. The closures of taskOrder: the rank of a task, the comparison of two. -/
import Derived.Test.YtbdicafambkhdaaGreatOrdY
import Derived.Deep.RegionHeld3
set_option maxHeartbeats 16000000
set_option maxRecDepth 100000
namespace Go.Proofs.YtbdicafambkhdaaGreat
open Go.Proofs.Tryz
open Go.RowKit
attribute [local irreducible] wpQuiet
theorem kY {S:Nat→Prop} (x:Label) (cs:List Value) (w:World) (h:aH.rel S w cs x) :
 Calls prog 150 #[.agg cs.toArray] w fun e w'=>e=.returned (.bool (aA x))∧Gr w w':=by
 obtain ⟨rfl,hi⟩:=h;clear hi;simp only [aQ];go_enter func150,ntmps150;go_wp2_with (go_at_call 42;refine (bI _ _ _ _).mono ?_;rintro e w' ⟨rfl,rfl⟩);all_goals (go_ret;exact ⟨au (by simp_all [aA]),(Gr.refl _).alloc _⟩)
theorem zB {S S':Nat→Prop} (l:List Use) (a:Label) (v:Value) (cs:List Value) (w:World) (h:Rd dX S w v l) (g:aH.rel S' w cs a) :
 Calls prog 153 #[v,.agg cs.toArray] w fun e w'=>e=.returned (.int .i64 (dn l a))∧Gr w w':=by
 obtain ⟨rfl,hi⟩:=g;clear hi;obtain ⟨A,c,rfl,h1,h2,hk⟩:=h.open_;unfold maxLen at h2;have HK:=ah hk;clear hk h;simp only [aQ];go_enter func153,ntmps153;go_wp2_with fail;obtain ⟨W,B,aX,aT,jF,aG⟩:=lN w (Rl a) 47;rw [← aX,← aT];have b0:=aG 0 _ rfl;have b1:=aG 1 _ rfl;clear aX aT aG;have HB0:=ah b0;have HB1:=ah b1;have HW:=ah jF;clear b0 b1 jF;go_loopw [5,10] (fun n i w'=>∃ k:Nat,k≤l.length∧i=.int .i64 k∧n=.int .i64 (dn (l.take k) a)∧Gr W w') (fun _ i _=>l.length - (intOf i).toNat);case atStart=>exact ⟨0,by omega,rfl,rfl,Gr.refl _⟩
 case round =>
  obtain ⟨k,hk1,rfl,rfl,hx⟩:=hrel;have HX:=ah hx;by_cases hlt:k < l.length
  · obtain ⟨b,o,cs,rfl,_,⟨rfl,_⟩,hc⟩:=HK.out k hlt;have hxx:=HW.out.trans hx;have c0:=Gr.some hxx (hc 0 _ rfl);have c1:=Gr.some hxx (hc 1 _ rfl);have c2:=Gr.some hxx (hc 2 _ rfl);have c3:=Gr.some hxx (hc 3 _ rfl);simp only [dX,Nat.add_zero] at c0 c1 c2 c3;have d0:=fun o:Obj=>Gr.some (hx.alloc o) HB0.out;have d1:=fun o:Obj=>Gr.some (hx.alloc o) HB1.out;have hs:=oP (a:=a) hlt;have hle:dn (l.take k) a < 2 ^ 63 - 1:=by have:=Jb (l.take k) a;have:=List.length_take_le k l;omega
    clear hc hx hxx;generalize hn:dn (l.take k) a=n at *;have HN:=ah hn;clear hn;by_cases e0:(nth l k).label.level=a.level
    · by_cases e1:(nth l k).label.set=a.set
      · rw [if_pos (Label.ext e0 e1)] at hs;have HS:=ah hs;clear hs;go_wp2_with fail;go_roundw;case rel=>exact ⟨k+1,by omega,by go_num,by rw [HS.out];go_num,((HX.out.alloc _))⟩
        case measure=>simp [intOf];omega
      · rw [if_neg (fun e=>e1 (congrArg Label.set e))] at hs;have HS:=ah hs;clear hs;go_wp2_with fail;go_roundw;case rel=>exact ⟨k+1,by omega,by go_num,by rw [HS.out];go_num,((HX.out.alloc _))⟩
        case measure=>simp [intOf];omega
    · rw [if_neg (fun e=>e0 (congrArg Label.level e))] at hs;have HS:=ah hs;clear hs;go_wp2_with fail;go_roundw;case rel=>exact ⟨k+1,by omega,by go_num,by rw [HS.out];go_num,((HX.out.alloc _))⟩
      case measure=>simp [intOf];omega
  · have he:k=l.length:=by omega
    subst he;go_wp2_with fail;go_ret;exact ⟨aI (by rw [List.take_length]),HW.out.trans HX.out⟩
theorem yg {S:Nat→Prop} (l:List Use) (v:Value) (w:World) (h:Rd dX S w v l) :
 Calls prog 102 #[v] w fun e w'=>e=.returned (.bool (bF l))∧Gr w w':=by
 have HR:=ah h;obtain ⟨A,c,rfl,h1,h2,hk⟩:=h.open_;unfold maxLen at h2;have HK:=ah hk;clear hk h;go_enter func102,ntmps102;go_wp2_with fail;go_loopw [7] (fun i w'=>∃ k:Nat,k≤l.length∧i=.int .i64 k∧(∀ j,j < k→mP l j=true)∧Gr w w') (fun i _=>l.length - (intOf i).toNat);case atStart=>exact ⟨0,by omega,rfl,fun j hj=>by omega,Gr.refl _⟩
 case round =>
  obtain ⟨k,hk1,rfl,hall,hx⟩:=hrel;have HA:=ah hall;have HX:=ah hx;clear hall;by_cases hlt:k < l.length
  · obtain ⟨b,o,cs,rfl,_,⟨rfl,hfit⟩,hc⟩:=HK.out k hlt;have HL:Hid (aP (nth l k).label):=ah ⟨hfit.1,hfit.2.1⟩;have HS:Hid (Str (nth l k).owner):=ah hfit.2.2.1;have HF0:=ah hfit;have c0:=Gr.some hx (hc 0 _ rfl);have c1:=Gr.some hx (hc 1 _ rfl);have c2:=Gr.some hx (hc 2 _ rfl);have c3:=Gr.some hx (hc 3 _ rfl);simp only [dX,Nat.add_zero] at c0 c1 c2 c3;have HT:=ah (Rd.take HR.out (Nat.le_of_lt hlt));clear hc hfit;by_cases hl:aA (nth l k).label=true
    · by_cases hm:je (nth l k).owner=true
      · by_cases hu:jG (nth l k).used 1 100000=true
        · by_cases h0:0 < k
          · obtain ⟨m,rfl⟩:∃ m,k=m+1:=⟨k - 1,by omega⟩
            obtain ⟨b',o',cs',Ui,_,⟨rfl,I4⟩,hd⟩:=HK.out m (by omega);cases Ui;have FD:=ah I4;have d0:=Gr.some hx (hd 0 _ rfl);have d1:=Gr.some hx (hd 1 _ rfl);have d2:=Gr.some hx (hd 2 _ rfl);have d3:=Gr.some hx (hd 3 _ rfl);simp only [dX,Nat.add_zero] at d0 d1 d2 d3;clear hd I4;have i0:(0:Int)≤(m:Int)+1:=by omega
            have i1:(m:Int)+1 < (l.length:Int):=by omega
            have i2:((m:Int)+1).toNat=m+1:=by omega
            have i3:IntKind.i64.wrap (m:Int)=(m:Int):=IntWalk.i64_in _ (by omega);have i4:m < l.length:=by omega
            have i5:(m:Int)+1≤(c:Int):=by omega
            have i6:m+1≤c:=by omega
            by_cases hle:jJ (nth l m) (nth l (m+1)) < 0
            · have hle':¬ 0≤jJ (nth l m) (nth l (m+1)):=by omega
              by_cases hn:dn (l.take (m+1)) (nth l (m+1)).label=6
              · have HF:Hid (bF l=false):=ah (dI hlt (DV hn));go_wp2_with fail;obtain ⟨W,B,aX,aT,jF,aG⟩:=lN wr (Ru (nth l (m+1))) 138;rw [← aX,← aT];have e0:=aG 0 _ rfl;have e1:=aG 1 _ rfl;have e2:=aG 2 _ rfl;have e3:=aG 3 _ rfl;clear aX aT aG;have d0':=Gr.some jF d0;have d1':=Gr.some jF d1;have RP:=Gr.some jF d2;have UO:=Gr.some jF d3;refine jd (by kernel_rfl) (by kernel_rfl) ?_;repeat (
                 (refine wpQuiet_step (fun K hK=>?_)
                  go_simp;first
                   | (refine hK _ ?_;clear hK K)
                   | (apply Exists.intro
                      refine ⟨fun bH aj=>?_,hK _ ?_⟩
                      · have oh:=Gr.some aj e0;have lX:=Gr.some aj e1;have uz:=Gr.some aj e2;have yR:=Gr.some aj e3;have yO:=Gr.some aj d0';have yP:=Gr.some aj d1';have UN:=Gr.some aj RP;have UQ:=Gr.some aj UO;first | exact rfl | (go_simp;done) | (go_simp;exact rfl) | (go_at_call 150;exact uX aj (kY (S:=S) (nth l (m+1)).label _ _ (aC HL.out))) | (go_at_call 151;exact iM aj (eG _ _ HS.out)) | (go_at_call 42;exact iM aj (bI _ _ _ _)) | (go_at_call 155;exact uX aj (uq (S:=S) (S':=S) (nth l m) (nth l (m+1)) _ _ _ (jh FD.out) (jh HF0.out)))
                      clear hK K)))
                refine wpQuiet_nil ?_;intro w1 hx1;go_wp2_with fail;have X1:=ah (HX.out.trans (jF.trans hx1));have g0:=Gr.some hx1 e0;have g1:=Gr.some hx1 e1;clear e0 e1 e2 e3 hx1 jF d0' d1' RP UO
                rename World=>V
                refine jd (by kernel_rfl) (by kernel_rfl) ?_;repeat (
                 (refine wpQuiet_step (fun K hK=>?_)
                  go_simp;first
                   | (refine hK _ ?_;clear hK K)
                   | (apply Exists.intro
                      refine ⟨fun bH aj=>?_,hK _ ?_⟩
                      · have adI:=Gr.some aj g0;have adJ:=Gr.some aj g1;first | exact rfl | (go_simp;done) | (go_simp;exact rfl) | (go_at_call 153;exact uX aj (zB (S:=S) (S':=S) (l.take (m+1)) (nth l (m+1)).label _ _ _ (HT.out.ext (X1.out.trans aj)) (aC HL.out)))
                      clear hK K)))
                refine wpQuiet_nil ?_;intro w1 hx1;go_wp2_with fail;go_ret;exact ⟨au HF.out.symm,X1.out.trans hx1⟩
              · have HN:=ah hn;have hn2:¬ ((dn (l.take (m+1)) (nth l (m+1)).label:Nat):Int)=6:=by omega
                clear hn;go_wp2_with fail;obtain ⟨W,B,aX,aT,jF,aG⟩:=lN wr (Ru (nth l (m+1))) 138;rw [← aX,← aT];have e0:=aG 0 _ rfl;have e1:=aG 1 _ rfl;have e2:=aG 2 _ rfl;have e3:=aG 3 _ rfl;clear aX aT aG;have d0':=Gr.some jF d0;have d1':=Gr.some jF d1;have RP:=Gr.some jF d2;have UO:=Gr.some jF d3;refine jd (by kernel_rfl) (by kernel_rfl) ?_;repeat (
                 (refine wpQuiet_step (fun K hK=>?_)
                  go_simp;first
                   | (refine hK _ ?_;clear hK K)
                   | (apply Exists.intro
                      refine ⟨fun bH aj=>?_,hK _ ?_⟩
                      · have oh:=Gr.some aj e0;have lX:=Gr.some aj e1;have uz:=Gr.some aj e2;have yR:=Gr.some aj e3;have yO:=Gr.some aj d0';have yP:=Gr.some aj d1';have UN:=Gr.some aj RP;have UQ:=Gr.some aj UO;first | exact rfl | (go_simp;done) | (go_simp;exact rfl) | (go_at_call 150;exact uX aj (kY (S:=S) (nth l (m+1)).label _ _ (aC HL.out))) | (go_at_call 151;exact iM aj (eG _ _ HS.out)) | (go_at_call 42;exact iM aj (bI _ _ _ _)) | (go_at_call 155;exact uX aj (uq (S:=S) (S':=S) (nth l m) (nth l (m+1)) _ _ _ (jh FD.out) (jh HF0.out)))
                      clear hK K)))
                refine wpQuiet_nil ?_;intro w1 hx1;go_wp2_with fail;have X1:=ah (HX.out.trans (jF.trans hx1));have g0:=Gr.some hx1 e0;have g1:=Gr.some hx1 e1;clear e0 e1 e2 e3 hx1 jF d0' d1' RP UO
                rename World=>V
                refine jd (by kernel_rfl) (by kernel_rfl) ?_;repeat (
                 (refine wpQuiet_step (fun K hK=>?_)
                  go_simp;first
                   | (refine hK _ ?_;clear hK K)
                   | (apply Exists.intro
                      refine ⟨fun bH aj=>?_,hK _ ?_⟩
                      · have adI:=Gr.some aj g0;have adJ:=Gr.some aj g1;first | exact rfl | (go_simp;done) | (go_simp;exact rfl) | (go_at_call 153;exact uX aj (zB (S:=S) (S':=S) (l.take (m+1)) (nth l (m+1)).label _ _ _ (HT.out.ext (X1.out.trans aj)) (aC HL.out)))
                      clear hK K)))
                refine wpQuiet_nil ?_;intro w1 hx1;go_wp2_with fail;go_roundw;case rel=>exact ⟨m+2,by omega,by go_num,all_succ HA.out (tZ hl hm hu (by rw [lq];exact decide_eq_true hle) HN.out),X1.out.trans hx1⟩
                case measure=>simp only [intOf];(try simp);(try omega)
            · have hgt:0≤jJ (nth l m) (nth l (m+1)):=by omega
              have HF:Hid (bF l=false):=ah (dI hlt (zT (by rw [lq];exact decide_eq_false hle)));clear hle;go_wp2_with fail;obtain ⟨W,B,aX,aT,jF,aG⟩:=lN wr (Ru (nth l (m+1))) 138;rw [← aX,← aT];have e0:=aG 0 _ rfl;have e1:=aG 1 _ rfl;have e2:=aG 2 _ rfl;have e3:=aG 3 _ rfl;clear aX aT aG;have d0':=Gr.some jF d0;have d1':=Gr.some jF d1;have RP:=Gr.some jF d2;have UO:=Gr.some jF d3;refine jd (by kernel_rfl) (by kernel_rfl) ?_;repeat (
               (refine wpQuiet_step (fun K hK=>?_)
                go_simp;first
                 | (refine hK _ ?_;clear hK K)
                 | (apply Exists.intro
                    refine ⟨fun bH aj=>?_,hK _ ?_⟩
                    · have oh:=Gr.some aj e0;have lX:=Gr.some aj e1;have uz:=Gr.some aj e2;have yR:=Gr.some aj e3;have yO:=Gr.some aj d0';have yP:=Gr.some aj d1';have UN:=Gr.some aj RP;have UQ:=Gr.some aj UO;first | exact rfl | (go_simp;done) | (go_simp;exact rfl) | (go_at_call 150;exact uX aj (kY (S:=S) (nth l (m+1)).label _ _ (aC HL.out))) | (go_at_call 151;exact iM aj (eG _ _ HS.out)) | (go_at_call 42;exact iM aj (bI _ _ _ _)) | (go_at_call 155;exact uX aj (uq (S:=S) (S':=S) (nth l m) (nth l (m+1)) _ _ _ (jh FD.out) (jh HF0.out)))
                    clear hK K)))
              refine wpQuiet_nil ?_;intro w1 hx1;go_wp2_with fail;go_ret;exact ⟨au HF.out.symm,HX.out.trans (jF.trans hx1)⟩
          · obtain rfl:k=0:=by omega
            simp only [Nat.zero_mul,Nat.add_zero] at c0 c1 c2 c3;have hn:dn (l.take 0) (nth l 0).label≠6:=by simp [dn]
            · have HN:=ah hn;have hn2:¬ ((dn (l.take 0) (nth l 0).label:Nat):Int)=6:=by omega
              clear hn;go_wp2_with fail;obtain ⟨W,B,aX,aT,jF,aG⟩:=lN wr (Ru (nth l 0)) 138;rw [← aX,← aT];have e0:=aG 0 _ rfl;have e1:=aG 1 _ rfl;have e2:=aG 2 _ rfl;have e3:=aG 3 _ rfl;clear aX aT aG;refine jd (by kernel_rfl) (by kernel_rfl) ?_;repeat (
               (refine wpQuiet_step (fun K hK=>?_)
                go_simp;first
                 | (refine hK _ ?_;clear hK K)
                 | (apply Exists.intro
                    refine ⟨fun bH aj=>?_,hK _ ?_⟩
                    · have oh:=Gr.some aj e0;have lX:=Gr.some aj e1;have uz:=Gr.some aj e2;have yR:=Gr.some aj e3;first | exact rfl | (go_simp;done) | (go_simp;exact rfl) | (go_at_call 150;exact uX aj (kY (S:=S) (nth l 0).label _ _ (aC HL.out))) | (go_at_call 151;exact iM aj (eG _ _ HS.out)) | (go_at_call 42;exact iM aj (bI _ _ _ _))
                    clear hK K)))
              refine wpQuiet_nil ?_;intro w1 hx1;go_wp2_with fail;have X1:=ah (HX.out.trans (jF.trans hx1));have g0:=Gr.some hx1 e0;have g1:=Gr.some hx1 e1;clear e0 e1 e2 e3 hx1 jF
              rename World=>V
              refine jd (by kernel_rfl) (by kernel_rfl) ?_;repeat (
               (refine wpQuiet_step (fun K hK=>?_)
                go_simp;first
                 | (refine hK _ ?_;clear hK K)
                 | (apply Exists.intro
                    refine ⟨fun bH aj=>?_,hK _ ?_⟩
                    · have adI:=Gr.some aj g0;have adJ:=Gr.some aj g1;first | exact rfl | (go_simp;done) | (go_simp;exact rfl) | (go_at_call 153;exact uX aj (zB (S:=S) (S':=S) (l.take 0) (nth l 0).label _ _ _ (HT.out.ext (X1.out.trans aj)) (aC HL.out)))
                    clear hK K)))
              refine wpQuiet_nil ?_;intro w1 hx1;go_wp2_with fail;go_roundw;case rel=>exact ⟨1,by omega,by go_num,all_succ HA.out (tZ hl hm hu (by exact wo l) HN.out),X1.out.trans hx1⟩
              case measure=>simp only [intOf];(try simp);(try omega)
        · have HF:Hid (bF l=false):=ah (dI hlt (nY (by simp [uP,hu])));simp only [Bool.not_eq_true] at hu;go_wp2_with fail;obtain ⟨W,B,aX,aT,jF,aG⟩:=lN wr (Ru (nth l k)) 138;rw [← aX,← aT];have e0:=aG 0 _ rfl;have e1:=aG 1 _ rfl;have e2:=aG 2 _ rfl;have e3:=aG 3 _ rfl;clear aX aT aG;refine jd (by kernel_rfl) (by kernel_rfl) ?_;repeat (
           (refine wpQuiet_step (fun K hK=>?_)
            go_simp;first
             | (refine hK _ ?_;clear hK K)
             | (apply Exists.intro
                refine ⟨fun bH aj=>?_,hK _ ?_⟩
                · have oh:=Gr.some aj e0;have lX:=Gr.some aj e1;have uz:=Gr.some aj e2;have yR:=Gr.some aj e3;first | exact rfl | (go_simp;done) | (go_simp;exact rfl) | (go_at_call 150;exact uX aj (kY (S:=S) (nth l k).label _ _ (aC HL.out))) | (go_at_call 151;exact iM aj (eG _ _ HS.out)) | (go_at_call 42;exact iM aj (bI _ _ _ _))
                clear hK K)))
          refine wpQuiet_nil ?_;intro w1 hx1;go_wp2_with fail;go_ret;exact ⟨au HF.out.symm,HX.out.trans (jF.trans hx1)⟩
      · have HF:Hid (bF l=false):=ah (dI hlt (nY (by simp [uP,hm])));simp only [Bool.not_eq_true] at hm;go_wp2_with fail;obtain ⟨W,B,aX,aT,jF,aG⟩:=lN wr (Ru (nth l k)) 138;rw [← aX,← aT];have e0:=aG 0 _ rfl;have e1:=aG 1 _ rfl;have e2:=aG 2 _ rfl;have e3:=aG 3 _ rfl;clear aX aT aG;refine jd (by kernel_rfl) (by kernel_rfl) ?_;repeat (
         (refine wpQuiet_step (fun K hK=>?_)
          go_simp;first
           | (refine hK _ ?_;clear hK K)
           | (apply Exists.intro
              refine ⟨fun bH aj=>?_,hK _ ?_⟩
              · have oh:=Gr.some aj e0;have lX:=Gr.some aj e1;have uz:=Gr.some aj e2;have yR:=Gr.some aj e3;first | exact rfl | (go_simp;done) | (go_simp;exact rfl) | (go_at_call 150;exact uX aj (kY (S:=S) (nth l k).label _ _ (aC HL.out))) | (go_at_call 151;exact iM aj (eG _ _ HS.out)) | (go_at_call 42;exact iM aj (bI _ _ _ _))
              clear hK K)))
        refine wpQuiet_nil ?_;intro w1 hx1;go_wp2_with fail;go_ret;exact ⟨au HF.out.symm,HX.out.trans (jF.trans hx1)⟩
    · have HF:Hid (bF l=false):=ah (dI hlt (nY (by simp [uP,hl])));simp only [Bool.not_eq_true] at hl;go_wp2_with fail;obtain ⟨W,B,aX,aT,jF,aG⟩:=lN wr (Ru (nth l k)) 138;rw [← aX,← aT];have e0:=aG 0 _ rfl;have e1:=aG 1 _ rfl;have e2:=aG 2 _ rfl;have e3:=aG 3 _ rfl;clear aX aT aG;refine jd (by kernel_rfl) (by kernel_rfl) ?_;repeat (
       (refine wpQuiet_step (fun K hK=>?_)
        go_simp;first
         | (refine hK _ ?_;clear hK K)
         | (apply Exists.intro
            refine ⟨fun bH aj=>?_,hK _ ?_⟩
            · have oh:=Gr.some aj e0;have lX:=Gr.some aj e1;have uz:=Gr.some aj e2;have yR:=Gr.some aj e3;first | exact rfl | (go_simp;done) | (go_simp;exact rfl) | (go_at_call 150;exact uX aj (kY (S:=S) (nth l k).label _ _ (aC HL.out))) | (go_at_call 151;exact iM aj (eG _ _ HS.out)) | (go_at_call 42;exact iM aj (bI _ _ _ _))
            clear hK K)))
      refine wpQuiet_nil ?_;intro w1 hx1;go_wp2_with fail;go_ret;exact ⟨au HF.out.symm,HX.out.trans (jF.trans hx1)⟩
  · have HF:Hid (bF l=decide (l.length≤48)):=ah (yh fun i hi=>HA.out i (by omega));go_wp2_with fail;go_ret;exact ⟨au (by rw [HF.out];simp;omega),HX.out⟩
theorem Ig {S:Nat→Prop} (l:List Use) (p:Use→Bool) (v:Value) (f:Nat) (caps:Array Value) (w:World) (h:Rd dX S w v l) (hcall:∀ (args:Array Value) (W:World),(callFunc f args).run prog W=.ok (.enter f args) W)
 (hf:∀ (cs:List Value) (x:Use) (w1:World),Gr w w1→dX.rel S w1 cs x→Calls prog f (#[.agg cs.toArray] ++ caps) w1 fun e w'=>e=.returned (.bool (p x))∧Gr w1 w') :
 Calls prog 205 #[v,.func (.func f) #[] caps] w fun e w'=>e=.returned (.int .i64 (idxOf p l))∧Gr w w':=by
 obtain ⟨A,c,rfl,h1,h2,hk⟩:=h.open_;unfold maxLen at h2;have HK:=ah hk;have HF:=ah hf;clear hk h hf;go_enter func205,ntmps205;go_wp2_with fail;go_loopw [8] (fun i w'=>∃ k:Nat,k≤l.length∧i=.int .i64 k∧(∀ j,j < k→p (nth l j)=false)∧Gr w w') (fun i _=>l.length - (intOf i).toNat);case atStart=>exact ⟨0,by omega,rfl,fun j hj=>by omega,Gr.refl _⟩
 case round =>
  obtain ⟨k,hk1,rfl,hall,hx⟩:=hrel;have HA:=ah hall;have HX:=ah hx;clear hall;by_cases hlt:k < l.length
  · obtain ⟨b,o,cs,rfl,hb,hr,hc⟩:=HK.out k hlt;have HR:=ah (dX.keep (hx.same S) hr);have HC:=ah (hx.range hc);have HI:Hid ((prog.info? 138).map (·.size)=some cs.length):=ah (by rw [dX.len hr];kernel_rfl);clear hr hc hx;by_cases hp:p (nth l k)=true
    · have HE:Hid (idxOf p l=k):=ah (iP hlt HA.out hp);go_wp2_with (first | (refine wpList_load_mid rfl 138 _ rfl b (o+k * 4) rfl cs _ HC.out underlying138 rfl HI.out ?_) | ((with_reducible refine (HF.out cs (nth l k) _ HX.out HR.out).mono ?_);rintro e w1 ⟨rfl,hx1⟩;have jf:=ah hx1;clear hx1));go_ret;exact ⟨aI HE.out.symm,HX.out.trans jf.out⟩
    · simp only [Bool.not_eq_true] at hp;have HE:=ah (all_succ HA.out hp);go_wp2_with (first | (refine wpList_load_mid rfl 138 _ rfl b (o+k * 4) rfl cs _ HC.out underlying138 rfl HI.out ?_) | ((with_reducible refine (HF.out cs (nth l k) _ HX.out HR.out).mono ?_);rintro e w1 ⟨rfl,hx1⟩;have jf:=ah hx1;clear hx1));go_roundw;case rel=>exact ⟨k+1,by omega,by go_num,HE.out,HX.out.trans jf.out⟩
      case measure=>simp [intOf];omega
  · have HE:Hid (idxOf p l = -1):=ah (iO fun j hj=>HA.out j (by omega));go_wp2_with fail;go_ret;exact ⟨aI HE.out.symm,HX.out⟩
theorem Dn {S:Nat→Prop} (l:List Use) (p:Use→Bool) (v:Value) (f:Nat) (c1 c2:Value) (w:World) (h:Rd dX S w v l) (hcall:∀ (args:Array Value) (W:World),(callFunc f args).run prog W=.ok (.enter f args) W)
 (hf:∀ (cs:List Value) (x:Use) (w1:World),Gr w w1→dX.rel S w1 cs x→Calls prog f #[.agg cs.toArray,c1,c2] w1 fun e w'=>e=.returned (.bool (p x))∧Gr w1 w') :
 Calls prog 205 #[v,.func (.func f) #[] #[c1,c2]] w fun e w'=>e=.returned (.int .i64 (idxOf p l))∧Gr w w' :=
 Ig l p v f #[c1,c2] w h hcall fun cs x w1 hx hr=>by rw [show (#[.agg cs.toArray] ++ #[c1,c2]:Array Value) = #[.agg cs.toArray,c1,c2] from rfl];exact hf cs x w1 hx hr
theorem acF {S:Nat→Prop} (x:Use) (a:Label) (o:ByteArray) (cs:List Value) (B:Nat) (w:World) (h:dX.rel S w cs x) (d0:w.cell? ⟨B,0,none⟩=some (.int .i64 a.level)) (d1:w.cell? ⟨B,1,none⟩=some (.int .i64 a.set)) (d2:w.cell? ⟨B+1,0,none⟩=some (.string o)) :
 Calls prog 235 #[.agg cs.toArray,.pointer (some ⟨B,0,none⟩),.pointer (some ⟨B+1,0,none⟩)] w fun e w'=>e=.returned (.bool (uD a o x))∧Gr w w':=by
 obtain ⟨rfl,hi⟩:=h;clear hi;have d0':=fun ob:Obj=>Gr.some ((Gr.refl w).alloc ob) d0;have d1':=fun ob:Obj=>Gr.some ((Gr.refl w).alloc ob) d1;have RP:=fun ob:Obj=>Gr.some ((Gr.refl w).alloc ob) d2;have jl:=@kL;simp only [kN];go_enter func235,ntmps235;go_wp2_with fail;all_goals (go_ret;exact ⟨au (by rw [Ih];simp [*] <;> (rw [Bool.eq_iff_iff];simp)),(Gr.refl _).alloc _⟩)
theorem Oc {S:Nat→Prop} (l:List Use) (a:Label) (o:ByteArray) (v:Value) (w:World) (h:Rd dX S w v l) :
 Calls prog 152 #[v,.agg (Rl a),.string o] w fun e w'=>e=.returned (.int .i64 (aeH l a o))∧Gr w w':=by
 have HR:=ah h;clear h;go_enter func152,ntmps152;go_wp2_with fail;obtain ⟨W,B,hW,hB,hx0,a0,b0⟩:=Qb w (Rl a) #[.string o] 47 9;rw [← hW,← hB];clear hW hB;refine (Dn l (uD a o) v _ _ _ _ (HR.out.ext hx0) UE (fun cs x w1 hx hr=>acF x a o cs B w1 hr ((a0.ext hx).cell 0) ((a0.ext hx).cell 1) ((b0.ext hx).cell 0))).mono ?_;rintro e w1 ⟨rfl,hx1⟩;clear a0 b0;have HX:=ah (hx0.trans hx1);clear hx0 hx1;go_wp2_with fail;go_ret;exact ⟨rfl,HX.out⟩
theorem acG {S:Nat→Prop} (l:List Use) (a:Label) (o:ByteArray) (v:Value) (w:World) (h:Rd dX S w v l) :
 Calls prog 212 #[v,.agg (Rl a),.string o] w fun e w'=>e=.returned (.int .i64 (uO l a o))∧Gr w w':=by
 have HR:=ah h;obtain ⟨A,c,rfl,h1,h2,hk⟩:=h.open_;unfold maxLen at h2;have HK:=ah hk;clear hk h;by_cases hu:bF l=true
 · rcases rH (uD a o) l with ⟨hi,hn⟩ | ⟨k,hlt,hi,hp,hn⟩
   · have HI:Hid (aeH l a o = -1):=ah hi;have HE:=ah (Oe (a:=a) (o:=o) hn);clear hi hn;go_enter func212,ntmps212;go_wp2_with (first | (go_at_call 152;refine (Oc (S:=S) l a o _ _ (HR.out.ext ((Gr.refl _).alloc _).ext)).mono ?_;rintro e w1 ⟨rfl,hx1⟩;rw [HI.out];have jf:=ah (((Gr.refl w).alloc _).trans hx1);clear hx1) | (go_at_call 102;refine (yg (S:=S) l _ _ (HR.out.ext jf.out.ext)).mono ?_;rintro e w2 ⟨rfl,hx2⟩));go_ret;exact ⟨aI HE.out.symm,jf.out.trans hx2⟩
   · have HI:Hid (aeH l a o=k):=ah hi;have HE:=ah (Og (aeu hu hlt hp) hu hlt hn hp);clear hi hn hp;obtain ⟨b,q,cs,rfl,_,⟨rfl,hfit⟩,hc⟩:=HK.out k hlt;have HC:=ah (hc 3 _ rfl);clear hc hfit;go_enter func212,ntmps212;go_wp2_with (first | (go_at_call 152;refine (Oc (S:=S) l a o _ _ (HR.out.ext ((Gr.refl _).alloc _).ext)).mono ?_;rintro e w1 ⟨rfl,hx1⟩;rw [HI.out];have jf:=ah (((Gr.refl w).alloc _).trans hx1);clear hx1) | (go_at_call 102;refine (yg (S:=S) l _ _ (HR.out.ext jf.out.ext)).mono ?_;rintro e w2 ⟨rfl,hx2⟩;have c3:=Gr.some (jf.out.trans hx2) HC.out;simp only [dX] at c3));go_ret;exact ⟨aI HE.out.symm,jf.out.trans hx2⟩
 · have HE:Hid (uO l a o=0):=ah (by unfold uO;rw [if_neg (fun h=>hu h.2)]);simp only [Bool.not_eq_true] at hu;go_enter func212,ntmps212;go_wp2_with (first | (go_at_call 152;refine (Oc (S:=S) l a o _ _ (HR.out.ext ((Gr.refl _).alloc _).ext)).mono ?_;rintro e w1 ⟨rfl,hx1⟩;have jf:=ah (((Gr.refl w).alloc _).trans hx1);clear hx1) | (go_at_call 102;refine (yg (S:=S) l _ _ (HR.out.ext jf.out.ext)).mono ?_;rintro e w2 ⟨rfl,hx2⟩));go_ret;exact ⟨aI HE.out.symm,jf.out.trans hx2⟩
theorem UC:∀ (args:Array Value) (W:World),(callFunc 214 args).run prog W=.ok (.enter 214 args) W:=by
 intro args W;go_simp
theorem aed {S:Nat→Prop} (y:aK) (x:Task) (A A6:Option Addr) (n c c6 Y:Nat) (w:World) (hb:0≤x.born∧x.born≤1000000) (hn:0≤y.now∧y.now≤1000000)
 (e6:w.cell? ⟨Y,6,none⟩=some (.slice A6 y.uses.length c6)) (e7:w.cell? ⟨Y,7,none⟩=some (.int .i64 y.now)) (hu:Rd dX S w (.slice A6 y.uses.length c6) y.uses) :
 Calls prog 210 #[.agg (aB x (.slice A n c)).toArray,.pointer (some ⟨Y,0,none⟩)] w fun e w'=>e=.returned (.int .i64 (lC y x))∧Gr w w':=by
 have HU:=ah hu;have hw:IntKind.i64.wrap (y.now - x.born)=y.now - x.born:=IntWalk.i64_in _ (by omega);clear hb hn hu;simp only [aB];go_enter func210,ntmps210;go_wp2_with fail;obtain ⟨W,B,aX,aT,jF,aG⟩:=lN w (Rt x (.slice A n c)) 76;rw [← aX,← aT];have b0:=aG 0 _ rfl;have b1:=aG 1 _ rfl;have b3:=aG 3 _ rfl;have b6:=aG 6 _ rfl;have b10:=aG 10 _ rfl;clear aX aT aG;have g6:=Gr.some jF e6;have g7:=Gr.some jF e7;have HX:=ah jF;have HUO:Hid (∀ V,Gr W V→Calls prog 212 #[.slice A6 y.uses.length c6,.agg (Rl x.label),.string x.owner] V fun e w'=>e=.returned (.int .i64 (uO y.uses x.label x.owner))∧Gr V w'):=ah fun V hV=>acG (S:=S) y.uses x.label x.owner _ _ (HU.out.ext (HX.out.trans hV));clear e6 e7 jF;refine jd (by kernel_rfl) (by kernel_rfl) ?_;repeat (
  (refine wpQuiet_step (fun K hK=>?_)
   go_simp;first
    | (refine hK _ ?_;clear hK K)
    | (apply Exists.intro
       refine ⟨fun bH aj=>?_,hK _ ?_⟩
       · have aoP:=Gr.some aj b0;have aoR:=Gr.some aj b1;have atd:=Gr.some aj b3;have ate:=Gr.some aj b6;have aqk:=Gr.some aj b10;have atE:=Gr.some aj g6;have atF:=Gr.some aj g7;first | exact rfl | (go_simp;done) | (go_simp;exact rfl) | (go_at_call 212;exact uX aj (HUO.out _ aj)) | (go_at_call 211;exact iM aj (aee _ _ _ _))
       clear hK K)))
 refine wpQuiet_nil ?_;intro w1 hx1;have H1:=ah hx1;clear b0 b1 b3 b6 b10 g6 g7 hx1;go_wp2_with fail;go_ret;exact ⟨aI rfl,HX.out.trans H1.out⟩
theorem aef (w:World) (a b c:Int) (T:TypeId) (ha:I64 a) (hb:I64 b) (hc:I64 c):Rd fC (fun _=>True) (w.alloc (.cells #[.int .i64 a,.int .i64 b,.int .i64 c] T)) (.slice (some ⟨w.heap.size,0,none⟩) 3 3) [a,b,c]:=by
 refine ⟨_,_,rfl,Nat.le_refl _,by decide,fun k x hk=>?_⟩;have hB:=aF.new w T #[.int .i64 a,.int .i64 b,.int .i64 c];have h0:=hB.cell 0;have h1:=hB.cell 1;have h2:=hB.cell 2;rcases k with _ | _ | _ | k
 · obtain rfl:a=x:=by simpa using hk
   exact ⟨_,_,_,rfl,trivial,⟨rfl,ha⟩,fun j u hj=>by
    rcases j with _ | j
    · rw [show (0+0 * fC.size+0:Nat)=0 from rfl,h0];simpa using hj
    · simp at hj⟩
 · obtain rfl:b=x:=by simpa using hk
   exact ⟨_,_,_,rfl,trivial,⟨rfl,hb⟩,fun j u hj=>by
    rcases j with _ | j
    · rw [show (0+(0+1) * fC.size+0:Nat)=1 from rfl,h1];simpa using hj
    · simp at hj⟩
 · obtain rfl:c=x:=by simpa using hk
   exact ⟨_,_,_,rfl,trivial,⟨rfl,hc⟩,fun j u hj=>by
    rcases j with _ | j
    · rw [show (0+(0+1+1) * fC.size+0:Nat)=2 from rfl,h2];simpa using hj
    · simp at hj⟩
 · simp at hk
theorem Qd (a b:Int):I64 (mQ a b):=by
 have:=CX a b;unfold I64;omega
theorem ab9 {S:Nat→Prop} (y:aK) (a b:Task) (A A' A6:Option Addr) (n c n' c' c6 Y C:Nat) (TC:TypeId) (w:World) (fa:eH a) (fb:eH b) (ha:0≤a.born∧a.born≤1000000) (hb:0≤b.born∧b.born≤1000000) (hn:0≤y.now∧y.now≤1000000)
 (e6:w.cell? ⟨Y,6,none⟩=some (.slice A6 y.uses.length c6)) (e7:w.cell? ⟨Y,7,none⟩=some (.int .i64 y.now)) (hu:Rd dX S w (.slice A6 y.uses.length c6) y.uses) (hC:aF w C TC #[.func (.func 210) #[] #[.pointer (some ⟨Y,0,none⟩)]]) :
 Calls prog 214 #[.agg (aB a (.slice A n c)).toArray,.agg (aB b (.slice A' n' c')).toArray,.pointer (some ⟨C,0,none⟩)] w fun e w'=>e=.returned (.int .i64 (ng y a b))∧Gr w w':=by
 have HA:Hid (aP a.label):=ah ⟨fa.1,fa.2.1⟩;have HB:Hid (aP b.label):=ah ⟨fb.1,fb.2.1⟩;have HQ:Hid (∀ V,Gr w V→∀ (x:Task) (A:Option Addr) (n c:Nat),0≤x.born∧x.born≤1000000→Calls prog 210 #[.agg (aB x (.slice A n c)).toArray,.pointer (some ⟨Y,0,none⟩)] V fun e w'=>e=.returned (.int .i64 (lC y x))∧Gr V w') :=
  ah fun V hV x A n c hx=>aed (S:=S) y x A A6 n c c6 Y V hx hn (Gr.some hV e6) (Gr.some hV e7) (hu.ext hV)
 have XA:=ah ha;have XB:=ah hb;clear fa fb ha hb hn e6 e7 hu;simp only [aB] at HQ ⊢;go_enter func214,ntmps214;go_upto_region 1 with (fail)
 obtain ⟨W,B,hW,hB,hx0,a0,b0⟩:=Qb w (Rt a (.slice A n c)) (Rt b (.slice A' n' c')) 76 76;rw [← hW,← hB];clear hW hB;have XX:=ah hx0;have al:∀ V,Gr W V→∀ i,V.cell? ⟨B,i,none⟩=_:=fun V hx=>(a0.ext hx).cell;have bl:∀ V,Gr W V→∀ i,V.cell? ⟨B+1,i,none⟩=_:=fun V hx=>(b0.ext hx).cell;have cl:∀ V,Gr W V→∀ i,V.cell? ⟨C,i,none⟩=_:=fun V hx=>(hC.ext (hx0.trans hx)).cell;clear hx0 a0 b0 hC;go_region_held3 (fun w'=>Gr W w') (first | exact (Gr.refl _).drew | assumption | exact Gr.alloc (by assumption) _ | exact Gr.trans (by assumption) jO | exact Gr.trans (by assumption) eu | exact Gr.trans (by assumption) hx7 | exact Gr.trans (by assumption) hx6) (first
  | (go_at_call 117;(refine (qH (S:=fun _=>True) (S':=fun _=>True) a.label b.label _ _ _ (aC HA.out) (aC HB.out)).mono ?_);rintro e w8 ⟨rfl,eu⟩)
  | (go_at_call 210;(with_reducible refine (HQ.out _ (XX.out.trans (by assumption)) b _ _ _ XB.out).mono ?_);rintro e w7 ⟨rfl,hx7⟩)
  | (go_at_call 210;(with_reducible refine (HQ.out _ (XX.out.trans (by assumption)) a _ _ _ XA.out).mono ?_);rintro e w6 ⟨rfl,hx6⟩)
  | (go_at_call 216;refine (yN _ _ _).mono ?_;rintro e w1 ⟨rfl,rfl⟩)
  | (go_at_call 215;refine (ad7 [bW a.label b.label,mQ (lC y b) (lC y a),mQ a.id b.id] _ _ (aef _ _ _ _ _ (vT _ _) (Qd _ _) (Qd _ _))).mono ?_;rintro e w9 ⟨rfl,jO⟩))
 all_goals
  clear al bl cl;go_wp2_with fail;go_ret;exact ⟨rfl,XX.out.trans (by assumption)⟩
end Go.Proofs.YtbdicafambkhdaaGreat
