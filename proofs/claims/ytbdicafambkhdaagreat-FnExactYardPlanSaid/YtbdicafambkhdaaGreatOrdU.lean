/- The walk of impl.UsesRight. -/
import Derived.Test.YtbdicafambkhdaaGreatUsesE
import Derived.Sort.Statements
set_option maxHeartbeats 8000000
set_option maxRecDepth 50000
namespace Go.Proofs.YtbdicafambkhdaaGreat
open Go.Proofs.Tryz
open Go.RowKit
attribute [local irreducible] wpQuiet
theorem PU {S:Nat→Prop} (l:List Use) (v:Value) (w:World) (h:Rd dX S w v l) :
 Calls prog 102 #[v] w fun e w'=>e=.returned (.bool (bF l))∧Ext w w':=by
 have HR:=ah h;obtain ⟨A,c,rfl,h1,h2,hk⟩:=h.open_;unfold maxLen at h2;have HK:=ah hk;clear hk h;go_enter func102,ntmps102;go_wp2_with fail;go_loopw [7] (fun i w'=>∃ k:Nat,k≤l.length∧i=.int .i64 k∧(∀ j,j < k→mP l j=true)∧Ext w w') (fun i _=>l.length - (intOf i).toNat);case atStart=>exact ⟨0,by omega,rfl,fun j hj=>by omega,Ext.refl _⟩
 case round =>
  obtain ⟨k,hk1,rfl,hall,hx⟩:=hrel;have HA:=ah hall;have HX:=ah hx;clear hall;by_cases hlt:k < l.length
  · obtain ⟨b,o,cs,rfl,_,⟨rfl,hfit⟩,hc⟩:=HK.out k hlt;have HL:Hid (aP (nth l k).label):=ah ⟨hfit.1,hfit.2.1⟩;have HS:Hid (Str (nth l k).owner):=ah hfit.2.2.1;have HF0:=ah hfit;have c0:=Ext.some hx (hc 0 _ rfl);have c1:=Ext.some hx (hc 1 _ rfl);have c2:=Ext.some hx (hc 2 _ rfl);have c3:=Ext.some hx (hc 3 _ rfl);simp only [dX,Nat.add_zero] at c0 c1 c2 c3;have HT:=ah (Rd.take HR.out (Nat.le_of_lt hlt));clear hc hfit;by_cases hl:aA (nth l k).label=true
    · by_cases hm:je (nth l k).owner=true
      · by_cases hu:jG (nth l k).used 1 100000=true
        · by_cases h0:0 < k
          · obtain ⟨m,rfl⟩:∃ m,k=m+1:=⟨k - 1,by omega⟩
            obtain ⟨b',o',cs',Ui,_,⟨rfl,I4⟩,hd⟩:=HK.out m (by omega);cases Ui;have FD:=ah I4;have d0:=Ext.some hx (hd 0 _ rfl);have d1:=Ext.some hx (hd 1 _ rfl);have d2:=Ext.some hx (hd 2 _ rfl);have d3:=Ext.some hx (hd 3 _ rfl);simp only [dX,Nat.add_zero] at d0 d1 d2 d3;clear hd I4;have i0:(0:Int)≤(m:Int)+1:=by omega
            have i1:(m:Int)+1 < (l.length:Int):=by omega
            have i2:((m:Int)+1).toNat=m+1:=by omega
            have i3:IntKind.i64.wrap (m:Int)=(m:Int):=IntWalk.i64_in _ (by omega);have i4:m < l.length:=by omega
            have i5:(m:Int)+1≤(c:Int):=by omega
            have i6:m+1≤c:=by omega
            by_cases hle:jJ (nth l m) (nth l (m+1)) < 0
            · have hle':¬ 0≤jJ (nth l m) (nth l (m+1)):=by omega
              by_cases hn:dn (l.take (m+1)) (nth l (m+1)).label=6
              · have HF:Hid (bF l=false):=ah (dI hlt (DV hn));go_wp2_with fail;obtain ⟨W,B,aX,aT,jF,aG⟩:=fH wr (Ru (nth l (m+1))) 138;rw [← aX,← aT];have e0:=aG 0 _ rfl;have e1:=aG 1 _ rfl;have e2:=aG 2 _ rfl;have e3:=aG 3 _ rfl;clear aX aT aG;have d0':=Ext.some jF d0;have d1':=Ext.some jF d1;have RP:=Ext.some jF d2;have UO:=Ext.some jF d3;refine ak (by kernel_rfl) (by kernel_rfl) ?_;repeat (
                 (refine wpQuiet_step (fun K hK=>?_)
                  go_simp;first
                   | (refine hK _ ?_;clear hK K)
                   | (apply Exists.intro
                      refine ⟨fun bH aj=>?_,hK _ ?_⟩
                      · have oh:=Ext.some aj e0;have lX:=Ext.some aj e1;have uz:=Ext.some aj e2;have yR:=Ext.some aj e3;have yO:=Ext.some aj d0';have yP:=Ext.some aj d1';have UN:=Ext.some aj RP;have UQ:=Ext.some aj UO;first | exact rfl | (go_simp;done) | (go_simp;exact rfl) | (go_at_call 150;exact aJ aj (gy (S:=S) (nth l (m+1)).label _ _ (aC HL.out))) | (go_at_call 151;exact aN aj (eG _ _ HS.out)) | (go_at_call 42;exact aN aj (bI _ _ _ _)) | (go_at_call 155;exact aJ aj (rU (S:=S) (S':=S) (nth l m) (nth l (m+1)) _ _ _ (jh FD.out) (jh HF0.out)))
                      clear hK K)))
                refine wpQuiet_nil ?_;intro w1 hx1;go_wp2_with fail;have X1:=ah (HX.out.trans (jF.trans hx1));have g0:=Ext.some hx1 e0;have g1:=Ext.some hx1 e1;clear e0 e1 e2 e3 hx1 jF d0' d1' RP UO
                rename World=>V
                refine ak (by kernel_rfl) (by kernel_rfl) ?_;repeat (
                 (refine wpQuiet_step (fun K hK=>?_)
                  go_simp;first
                   | (refine hK _ ?_;clear hK K)
                   | (apply Exists.intro
                      refine ⟨fun bH aj=>?_,hK _ ?_⟩
                      · have adI:=Ext.some aj g0;have adJ:=Ext.some aj g1;first | exact rfl | (go_simp;done) | (go_simp;exact rfl) | (go_at_call 153;exact aJ aj (xK (S:=S) (S':=S) (l.take (m+1)) (nth l (m+1)).label _ _ _ (HT.out.ext (X1.out.trans aj)) (aC HL.out)))
                      clear hK K)))
                refine wpQuiet_nil ?_;intro w1 hx1;go_wp2_with fail;go_ret;exact ⟨au HF.out.symm,X1.out.trans hx1⟩
              · have HN:=ah hn;have hn2:¬ ((dn (l.take (m+1)) (nth l (m+1)).label:Nat):Int)=6:=by omega
                clear hn;go_wp2_with fail;obtain ⟨W,B,aX,aT,jF,aG⟩:=fH wr (Ru (nth l (m+1))) 138;rw [← aX,← aT];have e0:=aG 0 _ rfl;have e1:=aG 1 _ rfl;have e2:=aG 2 _ rfl;have e3:=aG 3 _ rfl;clear aX aT aG;have d0':=Ext.some jF d0;have d1':=Ext.some jF d1;have RP:=Ext.some jF d2;have UO:=Ext.some jF d3;refine ak (by kernel_rfl) (by kernel_rfl) ?_;repeat (
                 (refine wpQuiet_step (fun K hK=>?_)
                  go_simp;first
                   | (refine hK _ ?_;clear hK K)
                   | (apply Exists.intro
                      refine ⟨fun bH aj=>?_,hK _ ?_⟩
                      · have oh:=Ext.some aj e0;have lX:=Ext.some aj e1;have uz:=Ext.some aj e2;have yR:=Ext.some aj e3;have yO:=Ext.some aj d0';have yP:=Ext.some aj d1';have UN:=Ext.some aj RP;have UQ:=Ext.some aj UO;first | exact rfl | (go_simp;done) | (go_simp;exact rfl) | (go_at_call 150;exact aJ aj (gy (S:=S) (nth l (m+1)).label _ _ (aC HL.out))) | (go_at_call 151;exact aN aj (eG _ _ HS.out)) | (go_at_call 42;exact aN aj (bI _ _ _ _)) | (go_at_call 155;exact aJ aj (rU (S:=S) (S':=S) (nth l m) (nth l (m+1)) _ _ _ (jh FD.out) (jh HF0.out)))
                      clear hK K)))
                refine wpQuiet_nil ?_;intro w1 hx1;go_wp2_with fail;have X1:=ah (HX.out.trans (jF.trans hx1));have g0:=Ext.some hx1 e0;have g1:=Ext.some hx1 e1;clear e0 e1 e2 e3 hx1 jF d0' d1' RP UO
                rename World=>V
                refine ak (by kernel_rfl) (by kernel_rfl) ?_;repeat (
                 (refine wpQuiet_step (fun K hK=>?_)
                  go_simp;first
                   | (refine hK _ ?_;clear hK K)
                   | (apply Exists.intro
                      refine ⟨fun bH aj=>?_,hK _ ?_⟩
                      · have adI:=Ext.some aj g0;have adJ:=Ext.some aj g1;first | exact rfl | (go_simp;done) | (go_simp;exact rfl) | (go_at_call 153;exact aJ aj (xK (S:=S) (S':=S) (l.take (m+1)) (nth l (m+1)).label _ _ _ (HT.out.ext (X1.out.trans aj)) (aC HL.out)))
                      clear hK K)))
                refine wpQuiet_nil ?_;intro w1 hx1;go_wp2_with fail;go_roundw;case rel=>exact ⟨m+2,by omega,by go_num,all_succ HA.out (tZ hl hm hu (by rw [lq];exact decide_eq_true hle) HN.out),X1.out.trans hx1⟩
                case measure=>simp only [intOf];(try simp);(try omega)
            · have hgt:0≤jJ (nth l m) (nth l (m+1)):=by omega
              have HF:Hid (bF l=false):=ah (dI hlt (zT (by rw [lq];exact decide_eq_false hle)));clear hle;go_wp2_with fail;obtain ⟨W,B,aX,aT,jF,aG⟩:=fH wr (Ru (nth l (m+1))) 138;rw [← aX,← aT];have e0:=aG 0 _ rfl;have e1:=aG 1 _ rfl;have e2:=aG 2 _ rfl;have e3:=aG 3 _ rfl;clear aX aT aG;have d0':=Ext.some jF d0;have d1':=Ext.some jF d1;have RP:=Ext.some jF d2;have UO:=Ext.some jF d3;refine ak (by kernel_rfl) (by kernel_rfl) ?_;repeat (
               (refine wpQuiet_step (fun K hK=>?_)
                go_simp;first
                 | (refine hK _ ?_;clear hK K)
                 | (apply Exists.intro
                    refine ⟨fun bH aj=>?_,hK _ ?_⟩
                    · have oh:=Ext.some aj e0;have lX:=Ext.some aj e1;have uz:=Ext.some aj e2;have yR:=Ext.some aj e3;have yO:=Ext.some aj d0';have yP:=Ext.some aj d1';have UN:=Ext.some aj RP;have UQ:=Ext.some aj UO;first | exact rfl | (go_simp;done) | (go_simp;exact rfl) | (go_at_call 150;exact aJ aj (gy (S:=S) (nth l (m+1)).label _ _ (aC HL.out))) | (go_at_call 151;exact aN aj (eG _ _ HS.out)) | (go_at_call 42;exact aN aj (bI _ _ _ _)) | (go_at_call 155;exact aJ aj (rU (S:=S) (S':=S) (nth l m) (nth l (m+1)) _ _ _ (jh FD.out) (jh HF0.out)))
                    clear hK K)))
              refine wpQuiet_nil ?_;intro w1 hx1;go_wp2_with fail;go_ret;exact ⟨au HF.out.symm,HX.out.trans (jF.trans hx1)⟩
          · obtain rfl:k=0:=by omega
            simp only [Nat.zero_mul,Nat.add_zero] at c0 c1 c2 c3;have hn:dn (l.take 0) (nth l 0).label≠6:=by simp [dn]
            · have HN:=ah hn;have hn2:¬ ((dn (l.take 0) (nth l 0).label:Nat):Int)=6:=by omega
              clear hn;go_wp2_with fail;obtain ⟨W,B,aX,aT,jF,aG⟩:=fH wr (Ru (nth l 0)) 138;rw [← aX,← aT];have e0:=aG 0 _ rfl;have e1:=aG 1 _ rfl;have e2:=aG 2 _ rfl;have e3:=aG 3 _ rfl;clear aX aT aG;refine ak (by kernel_rfl) (by kernel_rfl) ?_;repeat (
               (refine wpQuiet_step (fun K hK=>?_)
                go_simp;first
                 | (refine hK _ ?_;clear hK K)
                 | (apply Exists.intro
                    refine ⟨fun bH aj=>?_,hK _ ?_⟩
                    · have oh:=Ext.some aj e0;have lX:=Ext.some aj e1;have uz:=Ext.some aj e2;have yR:=Ext.some aj e3;first | exact rfl | (go_simp;done) | (go_simp;exact rfl) | (go_at_call 150;exact aJ aj (gy (S:=S) (nth l 0).label _ _ (aC HL.out))) | (go_at_call 151;exact aN aj (eG _ _ HS.out)) | (go_at_call 42;exact aN aj (bI _ _ _ _))
                    clear hK K)))
              refine wpQuiet_nil ?_;intro w1 hx1;go_wp2_with fail;have X1:=ah (HX.out.trans (jF.trans hx1));have g0:=Ext.some hx1 e0;have g1:=Ext.some hx1 e1;clear e0 e1 e2 e3 hx1 jF
              rename World=>V
              refine ak (by kernel_rfl) (by kernel_rfl) ?_;repeat (
               (refine wpQuiet_step (fun K hK=>?_)
                go_simp;first
                 | (refine hK _ ?_;clear hK K)
                 | (apply Exists.intro
                    refine ⟨fun bH aj=>?_,hK _ ?_⟩
                    · have adI:=Ext.some aj g0;have adJ:=Ext.some aj g1;first | exact rfl | (go_simp;done) | (go_simp;exact rfl) | (go_at_call 153;exact aJ aj (xK (S:=S) (S':=S) (l.take 0) (nth l 0).label _ _ _ (HT.out.ext (X1.out.trans aj)) (aC HL.out)))
                    clear hK K)))
              refine wpQuiet_nil ?_;intro w1 hx1;go_wp2_with fail;go_roundw;case rel=>exact ⟨1,by omega,by go_num,all_succ HA.out (tZ hl hm hu (by exact wo l) HN.out),X1.out.trans hx1⟩
              case measure=>simp only [intOf];(try simp);(try omega)
        · have HF:Hid (bF l=false):=ah (dI hlt (nY (by simp [uP,hu])));simp only [Bool.not_eq_true] at hu;go_wp2_with fail;obtain ⟨W,B,aX,aT,jF,aG⟩:=fH wr (Ru (nth l k)) 138;rw [← aX,← aT];have e0:=aG 0 _ rfl;have e1:=aG 1 _ rfl;have e2:=aG 2 _ rfl;have e3:=aG 3 _ rfl;clear aX aT aG;refine ak (by kernel_rfl) (by kernel_rfl) ?_;repeat (
           (refine wpQuiet_step (fun K hK=>?_)
            go_simp;first
             | (refine hK _ ?_;clear hK K)
             | (apply Exists.intro
                refine ⟨fun bH aj=>?_,hK _ ?_⟩
                · have oh:=Ext.some aj e0;have lX:=Ext.some aj e1;have uz:=Ext.some aj e2;have yR:=Ext.some aj e3;first | exact rfl | (go_simp;done) | (go_simp;exact rfl) | (go_at_call 150;exact aJ aj (gy (S:=S) (nth l k).label _ _ (aC HL.out))) | (go_at_call 151;exact aN aj (eG _ _ HS.out)) | (go_at_call 42;exact aN aj (bI _ _ _ _))
                clear hK K)))
          refine wpQuiet_nil ?_;intro w1 hx1;go_wp2_with fail;go_ret;exact ⟨au HF.out.symm,HX.out.trans (jF.trans hx1)⟩
      · have HF:Hid (bF l=false):=ah (dI hlt (nY (by simp [uP,hm])));simp only [Bool.not_eq_true] at hm;go_wp2_with fail;obtain ⟨W,B,aX,aT,jF,aG⟩:=fH wr (Ru (nth l k)) 138;rw [← aX,← aT];have e0:=aG 0 _ rfl;have e1:=aG 1 _ rfl;have e2:=aG 2 _ rfl;have e3:=aG 3 _ rfl;clear aX aT aG;refine ak (by kernel_rfl) (by kernel_rfl) ?_;repeat (
         (refine wpQuiet_step (fun K hK=>?_)
          go_simp;first
           | (refine hK _ ?_;clear hK K)
           | (apply Exists.intro
              refine ⟨fun bH aj=>?_,hK _ ?_⟩
              · have oh:=Ext.some aj e0;have lX:=Ext.some aj e1;have uz:=Ext.some aj e2;have yR:=Ext.some aj e3;first | exact rfl | (go_simp;done) | (go_simp;exact rfl) | (go_at_call 150;exact aJ aj (gy (S:=S) (nth l k).label _ _ (aC HL.out))) | (go_at_call 151;exact aN aj (eG _ _ HS.out)) | (go_at_call 42;exact aN aj (bI _ _ _ _))
              clear hK K)))
        refine wpQuiet_nil ?_;intro w1 hx1;go_wp2_with fail;go_ret;exact ⟨au HF.out.symm,HX.out.trans (jF.trans hx1)⟩
    · have HF:Hid (bF l=false):=ah (dI hlt (nY (by simp [uP,hl])));simp only [Bool.not_eq_true] at hl;go_wp2_with fail;obtain ⟨W,B,aX,aT,jF,aG⟩:=fH wr (Ru (nth l k)) 138;rw [← aX,← aT];have e0:=aG 0 _ rfl;have e1:=aG 1 _ rfl;have e2:=aG 2 _ rfl;have e3:=aG 3 _ rfl;clear aX aT aG;refine ak (by kernel_rfl) (by kernel_rfl) ?_;repeat (
       (refine wpQuiet_step (fun K hK=>?_)
        go_simp;first
         | (refine hK _ ?_;clear hK K)
         | (apply Exists.intro
            refine ⟨fun bH aj=>?_,hK _ ?_⟩
            · have oh:=Ext.some aj e0;have lX:=Ext.some aj e1;have uz:=Ext.some aj e2;have yR:=Ext.some aj e3;first | exact rfl | (go_simp;done) | (go_simp;exact rfl) | (go_at_call 150;exact aJ aj (gy (S:=S) (nth l k).label _ _ (aC HL.out))) | (go_at_call 151;exact aN aj (eG _ _ HS.out)) | (go_at_call 42;exact aN aj (bI _ _ _ _))
            clear hK K)))
      refine wpQuiet_nil ?_;intro w1 hx1;go_wp2_with fail;go_ret;exact ⟨au HF.out.symm,HX.out.trans (jF.trans hx1)⟩
  · have HF:Hid (bF l=decide (l.length≤48)):=ah (yh fun i hi=>HA.out i (by omega));go_wp2_with fail;go_ret;exact ⟨au (by rw [HF.out];simp;omega),HX.out⟩
end Go.Proofs.YtbdicafambkhdaaGreat
/- The walks of UseOf,the program's and the reference's. The order of uses is linear up to the label and the owner;adding a use,in plain Lean. -/
namespace Go.Proofs.YtbdicafambkhdaaGreat
open Go.Proofs.Tryz
open Go.RowKit
attribute [local irreducible] wpQuiet
theorem OU {S:Nat→Prop} (l:List Use) (p:Use→Bool) (v:Value) (f:Nat) (caps:Array Value) (w:World) (h:Rd dX S w v l) (hcall:∀ (args:Array Value) (W:World),(callFunc f args).run prog W=.ok (.enter f args) W)
 (hf:∀ (cs:List Value) (x:Use) (w1:World),Ext w w1→dX.rel S w1 cs x→Calls prog f (#[.agg cs.toArray] ++ caps) w1 fun e w'=>e=.returned (.bool (p x))∧Ext w1 w') :
 Calls prog 205 #[v,.func (.func f) #[] caps] w fun e w'=>e=.returned (.int .i64 (idxOf p l))∧Ext w w':=by
 obtain ⟨A,c,rfl,h1,h2,hk⟩:=h.open_;unfold maxLen at h2;have HK:=ah hk;have HF:=ah hf;clear hk h hf;go_enter func205,ntmps205;go_wp2_with fail;go_loopw [8] (fun i w'=>∃ k:Nat,k≤l.length∧i=.int .i64 k∧(∀ j,j < k→p (nth l j)=false)∧Ext w w') (fun i _=>l.length - (intOf i).toNat);case atStart=>exact ⟨0,by omega,rfl,fun j hj=>by omega,Ext.refl _⟩
 case round =>
  obtain ⟨k,hk1,rfl,hall,hx⟩:=hrel;have HA:=ah hall;have HX:=ah hx;clear hall;by_cases hlt:k < l.length
  · obtain ⟨b,o,cs,rfl,hb,hr,hc⟩:=HK.out k hlt;have HR:=ah (dX.keep (hx.same S) hr);have HC:=ah (hx.range hc);have HI:Hid ((prog.info? 138).map (·.size)=some cs.length):=ah (by rw [dX.len hr];kernel_rfl);clear hr hc hx;by_cases hp:p (nth l k)=true
    · have HE:Hid (idxOf p l=k):=ah (iP hlt HA.out hp);go_wp2_with (first | (refine wpList_load_mid rfl 138 _ rfl b (o+k * 4) rfl cs _ HC.out underlying138 rfl HI.out ?_) | ((with_reducible refine (HF.out cs (nth l k) _ HX.out HR.out).mono ?_);rintro e w1 ⟨rfl,hx1⟩;have jf:=ah hx1;clear hx1));go_ret;exact ⟨aI HE.out.symm,HX.out.trans jf.out⟩
    · simp only [Bool.not_eq_true] at hp;have HE:=ah (all_succ HA.out hp);go_wp2_with (first | (refine wpList_load_mid rfl 138 _ rfl b (o+k * 4) rfl cs _ HC.out underlying138 rfl HI.out ?_) | ((with_reducible refine (HF.out cs (nth l k) _ HX.out HR.out).mono ?_);rintro e w1 ⟨rfl,hx1⟩;have jf:=ah hx1;clear hx1));go_roundw;case rel=>exact ⟨k+1,by omega,by go_num,HE.out,HX.out.trans jf.out⟩
      case measure=>simp [intOf];omega
  · have HE:Hid (idxOf p l = -1):=ah (iO fun j hj=>HA.out j (by omega));go_wp2_with fail;go_ret;exact ⟨aI HE.out.symm,HX.out⟩
theorem Gt {S:Nat→Prop} (l:List Use) (p:Use→Bool) (v:Value) (f:Nat) (caps:Array Value) (w:World) (h:Rd dX S w v l) (hcall:∀ (args:Array Value) (W:World),(callFunc f args).run prog W=.ok (.enter f args) W)
 (hf:∀ (cs:List Value) (x:Use) (w1:World),Ext w w1→dX.rel S w1 cs x→Calls prog f (#[.agg cs.toArray] ++ caps) w1 fun e w'=>e=.returned (.bool (p x))∧Ext w1 w') :
 Calls prog 110 #[v,.func (.func f) #[] caps] w fun e w'=>e=.returned (.bool (l.any p))∧Ext w w':=by
 have HE:=ah (jr (p:=p) (l:=l));have H:=ah (OU l p v f caps w h hcall hf);clear h hcall hf;go_enter func110,ntmps110;go_wp2_with (refine H.out.mono ?_;rintro e w1 ⟨rfl,hx1⟩;have jf:=ah hx1;clear hx1);go_ret;exact ⟨au HE.out,jf.out⟩
theorem C9 {S:Nat→Prop} (l:List Use) (p:Use→Bool) (v:Value) (f:Nat) (c1:Value) (w:World) (h:Rd dX S w v l) (hcall:∀ (args:Array Value) (W:World),(callFunc f args).run prog W=.ok (.enter f args) W)
 (hf:∀ (cs:List Value) (x:Use) (w1:World),Ext w w1→dX.rel S w1 cs x→Calls prog f #[.agg cs.toArray,c1] w1 fun e w'=>e=.returned (.bool (p x))∧Ext w1 w') :
 Calls prog 110 #[v,.func (.func f) #[] #[c1]] w fun e w'=>e=.returned (.bool (l.any p))∧Ext w w' :=
 Gt l p v f #[c1] w h hcall fun cs x w1 hx hr=>by rw [show (#[.agg cs.toArray] ++ #[c1]:Array Value) = #[.agg cs.toArray,c1] from rfl];exact hf cs x w1 hx hr
def uD (a:Label) (o:ByteArray) (x:Use):Bool:=decide (x.label=a) && decide (x.owner=o)
def uO (l:List Use) (a:Label) (o:ByteArray):Int:=if o.size≤8000∧bF l=true then ((l.find? (uD a o)).map (·.used)).getD 0 else 0
theorem Og {l:List Use} {a:Label} {o:ByteArray} {k:Nat} (h0:o.size≤8000) (hr:bF l=true) (hk:k < l.length) (h:∀ j,j < k→uD a o (nth l j)=false) (hp:uD a o (nth l k)=true):uO l a o=(nth l k).used:=by
 have:l.find? (uD a o)=some (nth l k):=by
  rw [List.find?_eq_some_iff_getElem];refine ⟨hp,k,hk,(aO hk).symm,fun j hj=>?_⟩;have:=h j hj;rw [aO (by omega)] at this;simpa using this
 rw [uO,if_pos ⟨h0,hr⟩,this];rfl
theorem Oe {l:List Use} {a:Label} {o:ByteArray} (h:∀ j,j < l.length→uD a o (nth l j)=false):uO l a o=0:=by
 have:l.find? (uD a o)=none:=List.find?_eq_none.2 fun x hx=>by
  obtain ⟨i,hi,rfl⟩:=List.getElem_of_mem hx;have:=h i hi;rw [aO hi] at this;simpa using this
 rw [uO,this];split <;> rfl
theorem Ih {a:Label} {o:ByteArray} {x:Use}:uD a o x=(decide (x.label.level=a.level) && decide (x.label.set=a.set) && decide (x.owner.toList=o.toList)):=by
 obtain ⟨⟨l,s⟩,p,u⟩:=x;obtain ⟨m,t⟩:=a;simp [uD,Gm]
theorem PG {S:Nat→Prop} (l:List Use) (a:Label) (o:ByteArray) (v:Value) (w:World) (h:Rd dX S w v l) (ho:Str o) :
 Calls prog 293 #[v,.agg (Rl a),.string o] w fun e w'=>e=.returned (.int .i64 (uO l a o))∧Ext w w':=by
 have HR:=ah h;obtain ⟨A,c,rfl,h1,h2,hk⟩:=h.open_;unfold maxLen at h2;unfold Str maxLen at ho;have HK:=ah hk;clear hk h;by_cases h8:o.size≤8000
 · by_cases hu:bF l=true
   · have HU:=ah hu;go_enter func293,ntmps293;go_wp2_with fail;obtain ⟨W,B,aX,aT,jF,aG⟩:=fH w (Rl a) 47;rw [← aX,← aT];have b0:=aG 0 _ rfl;have b1:=aG 1 _ rfl;clear aX aT aG;have HB0:=ah b0;have HB1:=ah b1;have HW:=ah jF;clear b0 b1 jF;go_wp2_with (go_at_call 84;refine (qB (S:=S) l _ _ (HR.out.ext HW.out)).mono ?_;rintro e w1 ⟨rfl,hx1⟩;have jf:=ah (HW.out.trans hx1);have HB2:=ah (Ext.some hx1 HB0.out);have HB3:=ah (Ext.some hx1 HB1.out);clear hx1);clear hu;go_loopw [7] (fun i w'=>∃ k:Nat,k≤l.length∧i=.int .i64 k∧(∀ j,j < k→uD a o (nth l j)=false)∧Ext w1 w') (fun i _=>l.length - (intOf i).toNat);case atStart=>exact ⟨0,by omega,rfl,fun j hj=>by omega,Ext.refl _⟩
     case round =>
      obtain ⟨k,hk1,rfl,hall,hx⟩:=hrel;have HA:=ah hall;have HX:=ah (jf.out.trans hx);have HY:=ah hx;clear hall;by_cases hlt:k < l.length
      · obtain ⟨b,q,cs,rfl,_,⟨rfl,hfit⟩,hc⟩:=HK.out k hlt;have c0:=Ext.some HX.out (hc 0 _ rfl);have c1:=Ext.some HX.out (hc 1 _ rfl);have c2:=Ext.some HX.out (hc 2 _ rfl);have c3:=Ext.some HX.out (hc 3 _ rfl);have d0:=Ext.some hx HB2.out;have d1:=Ext.some hx HB3.out;simp only [dX,Nat.add_zero] at c0 c1 c2 c3;clear hc hfit hx;go_wp2_with fail;all_goals refine ak (by kernel_rfl) (by kernel_rfl) ?_
        all_goals have jl:=@kL
        repeat (any_goals (
         refine wpQuiet_step (fun K hK=>?_);go_simp;first
          | (refine hK _ ?_;clear hK K)
          | (apply Exists.intro
             refine ⟨fun bH aj=>?_,hK _ ?_⟩
             · have kH:=Ext.some aj c0;have mX:=Ext.some aj c1;have yI:=Ext.some aj c2;have jH:=Ext.some aj d0;have kJ:=Ext.some aj d1;(first | exact rfl | (go_simp;done) | (go_simp;exact rfl))
             clear hK K)
          | (split
             all_goals (first
              | (refine hK _ ?_;clear hK K)
              | (apply Exists.intro
                 refine ⟨fun bH aj=>?_,hK _ ?_⟩
                 · have kH:=Ext.some aj c0;have mX:=Ext.some aj c1;have yI:=Ext.some aj c2;have jH:=Ext.some aj d0;have kJ:=Ext.some aj d1;(first | exact rfl | (go_simp;done) | (go_simp;exact rfl))
                 clear hK K)))))
        all_goals (refine wpQuiet_nil ?_)
        all_goals (intro w1 hx1;clear jl)
        all_goals have e3:=Ext.some hx1 c3
        all_goals have HE:=ah hx1
        all_goals clear c0 c1 c2 c3 d0 d1 hx1
        all_goals go_wp2_with fail
        all_goals first
         | (go_ret;exact ⟨aI (Og h8 HU.out hlt HA.out (by rw [Ih];simp_all)).symm,HX.out.trans HE.out⟩)
         | (go_roundw
            case rel=>exact ⟨k+1,by omega,by go_num,all_succ HA.out (by rw [Ih];simp_all),HY.out.trans HE.out⟩
            case measure=>simp [intOf];omega)
      · have HE:=ah (Oe (a:=a) (o:=o) (l:=l) fun j hj=>HA.out j (by omega));go_wp2_with fail;go_ret;exact ⟨aI HE.out.symm,HX.out⟩
   · simp only [Bool.not_eq_true] at hu;have HU:Hid (uO l a o=0):=ah (by unfold uO;rw [if_neg (by simp [hu])]);go_enter func293,ntmps293;go_wp2_with (go_at_call 84;refine (qB (S:=S) l _ _ (HR.out.ext ((Ext.refl _).alloc _))).mono ?_;rintro e w1 ⟨rfl,hx1⟩);go_ret;exact ⟨aI HU.out.symm,((Ext.refl _).alloc _).trans hx1⟩
 · have HU:Hid (uO l a o=0):=ah (by unfold uO;rw [if_neg (fun h=>h8 h.1)]);have h8':8000 < o.size:=by omega
   clear h8;go_enter func293,ntmps293;go_wp2_with fail;go_ret;exact ⟨aI HU.out.symm,(Ext.refl _).alloc _⟩
theorem UE:∀ (args:Array Value) (W:World),(callFunc 235 args).run prog W=.ok (.enter 235 args) W:=by
 intro args W;go_simp
def aeH (l:List Use) (a:Label) (o:ByteArray):Int:=idxOf (uD a o) l
theorem rH {α:Type} [Inhabited α] (p:α→Bool) (l:List α):(idxOf p l = -1∧∀ j,j < l.length→p (nth l j)=false)∨∃ k:Nat,k < l.length∧idxOf p l=k∧p (nth l k)=true∧∀ j,j < k→p (nth l j)=false:=by
 unfold idxOf;cases h:l.findIdx? p with
 | none =>
   rw [List.findIdx?_eq_none_iff] at h;exact .inl ⟨rfl,fun j hj=>h _ (bG hj)⟩
 | some i =>
   obtain ⟨hi,hp,hb⟩:=List.findIdx?_eq_some_iff_getElem.1 h;refine .inr ⟨i,hi,rfl,by rw [aO hi];exact hp,fun j hj=>?_⟩;have:=hb j hj;rw [aO (by omega)];simpa using this
theorem aaI {l:List Use} (hu:bF l=true) {k:Nat} (hk:k < l.length):mP l k=true:=by
 simp only [bF,Bool.and_eq_true,List.all_eq_true] at hu;exact hu.2 k (List.mem_range.mpr hk)
theorem aaJ {l:List Use} (hu:bF l=true) {k:Nat} (hk:k < l.length):uP (nth l k)=true:=by
 have:=aaI hu hk;simp only [mP,Bool.and_eq_true] at this;exact this.1.1
theorem Yr {s:ByteArray} (h:je s=true):s.size≤20:=by
 simp only [je,Bool.and_eq_true,decide_eq_true_eq] at h;omega
theorem aeu {l:List Use} {a:Label} {o:ByteArray} (hu:bF l=true) {k:Nat} (hk:k < l.length) (hp:uD a o (nth l k)=true):o.size≤8000:=by
 have h1:=aaJ hu hk;simp only [uP,Bool.and_eq_true] at h1;simp only [uD,Bool.and_eq_true,decide_eq_true_eq] at hp;have:=Yr h1.1.2;rw [hp.2] at this;omega
end Go.Proofs.YtbdicafambkhdaaGreat
namespace Go.Proofs.YtbdicafambkhdaaGreat
open Go.Proofs.Tryz
open Go.RowKit
structure FI {α:Type} (c:α→α→Int):Prop where
 anti:∀ x y,c y x = - c x y
 trans:∀ x y z,c x y≤0→c y z≤0→c x z≤0
theorem FI.UL {α β:Type} {c:α→α→Int} (h:FI c) (f:β→α):FI fun x y=>c (f x) (f y):=⟨fun _ _=>h.anti _ _,fun _ _ _=>h.trans _ _ _⟩
theorem FI.self {α:Type} {c:α→α→Int} (h:FI c) (x:α):c x x=0:=by have:=h.anti x x;omega
theorem FI.lex {α:Type} {c d:α→α→Int} (h:FI c) (k:FI d):FI fun x y=>if c x y=0 then d x y else c x y:=by
 refine ⟨fun x y=>?_,fun x y z=>?_⟩
 · have h1:=h.anti x y;have h2:=k.anti x y;split <;> split <;> omega
 · have a1:=h.anti x y;have a2:=h.anti y z;have a3:=h.anti x z;have t1:=h.trans x y z;have t2:=h.trans z x y;have t3:=h.trans y z x;have k1:=k.trans x y z;split <;> split <;> split <;> omega
theorem EH:FI mQ:=by
 refine ⟨fun x y=>?_,fun x y z=>?_⟩ <;> unfold mQ
 · (repeat' split) <;> omega
 · (repeat' split) <;> omega
theorem Wh (a b:Int):vW [a,b]=if a=0 then b else a:=by
 simp only [vW];split <;> (try split) <;> simp_all
theorem aaY {a b:Int} (h:mQ a b=0):a=b:=by
 unfold mQ at h;split at h
 · omega
 · split at h <;> omega
end Go.Proofs.YtbdicafambkhdaaGreat
