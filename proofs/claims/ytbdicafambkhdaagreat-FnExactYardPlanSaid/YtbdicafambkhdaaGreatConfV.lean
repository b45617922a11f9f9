/- The walk of the reference's Chain. Printed by wip/confs.py. The walk of the reference's l05Clear. Printed by wip/confs.py. The walk of the reference's l05Cleared. Printed by wip/confs.py. -/
import Derived.Test.YtbdicafambkhdaaGreatConf4
set_option maxHeartbeats 8000000
set_option maxRecDepth 100000
namespace Go.Proofs.YtbdicafambkhdaaGreat
open Go.Proofs.Tryz
open Go.RowKit
attribute [local irreducible] wpQuiet
theorem kV {S:Nat→Prop} (x:Label) (cs:List Value) (w:World) (h:aH.rel S w cs x) (r:Bool) (hr:aA x=r) :
 Calls prog 139 #[.agg cs.toArray] w fun e w'=>e=.returned (.bool r)∧Ext w w':=by
 subst hr;exact dB x cs w h
theorem zh {S S':Nat→Prop} (a b:Label) (cs ds:List Value) (w:World) (h:aH.rel S w cs a) (g:aH.rel S' w ds b) (r:Bool) (hr:mW a b=r) :
 Calls prog 246 #[.agg cs.toArray,.agg ds.toArray] w fun e w'=>e=.returned (.bool r)∧Ext w w':=by
 subst hr;exact xw a b cs ds w h g
theorem Pz {S:Nat→Prop} (l:List Label) (v:Value) (w:World) (h:Rd aH S w v l) :
 Calls prog 245 #[v] w fun e w'=>e=.returned (.bool (iJ l))∧Ext w w':=by
 obtain ⟨A,c,rfl,h1,h2,hk⟩:=h.open_;unfold maxLen at h2;have HK:=ah hk;clear hk h;by_cases h0:l.length < 1
 · have HN:=ah (IK h0);go_enter func245,ntmps245;go_wp2_with fail;go_ret;exact ⟨au HN.out.symm,Ext.refl _⟩
 by_cases h4:4 < l.length
 · have HN:=ah (KL h4);go_enter func245,ntmps245;go_wp2_with fail;go_ret;exact ⟨au HN.out.symm,Ext.refl _⟩
 have h0':1≤l.length:=by omega
 have h4':l.length≤4:=by omega
 clear h0 h4;go_enter func245,ntmps245;go_wp2_with fail;go_loopw [3] (fun i w'=>∃ k:Nat,k≤l.length∧i=.int .i64 k∧(∀ j,j < k→lD l j=true)∧Ext w w') (fun i _=>l.length - (intOf i).toNat);case atStart=>exact ⟨0,by omega,rfl,fun j hj=>by omega,Ext.refl _⟩
 case round =>
  obtain ⟨k,hk1,rfl,hall,hx⟩:=hrel;have HA:=ah hall;have HX:=ah hx;clear hall;by_cases hlt:k < l.length
  · obtain ⟨b,o,cs,rfl,_,⟨rfl,f1⟩,hc⟩:=HK.out k hlt;have c0:=Ext.some hx (hc 0 _ rfl);have c1:=Ext.some hx (hc 1 _ rfl);simp only [aH,Nat.add_zero] at c0 c1;have F1:=ah f1;obtain ⟨t1,ht1⟩:∃ t,aA (nth l k)=t:=⟨_,rfl⟩
    have T1:=ah ht1;clear hc f1 ht1;cases t1 with
    | false =>
      clear hx;have HF:=ah (pJ hlt (IJ T1.out));go_wp2_with fail;refine ak (by kernel_rfl) (by kernel_rfl) ?_;repeat (
       (refine wpQuiet_step (fun K hK=>?_)
        go_simp;first
         | (refine hK _ ?_;clear hK K)
         | (apply Exists.intro
            refine ⟨fun bH aj=>?_,hK _ ?_⟩
            · have kH:=Ext.some aj c0;have mX:=Ext.some aj c1;first | exact rfl | (go_simp;done) | (go_simp;exact rfl) | (go_at_call 139;exact aJ aj (kV (S:=S) (nth l k) _ _ (aC F1.out) _ T1.out))
            clear hK K)))
      refine wpQuiet_nil ?_;intro w1 hx1;have HE:=ah hx1;clear c0 c1 hx1;go_wp2_with fail;go_ret;exact ⟨au HF.out.symm,HX.out.trans HE.out⟩
    | true =>
      by_cases hk0:0 < k
      · obtain ⟨m,rfl⟩:∃ m,k=m+1:=⟨k - 1,by omega⟩
        obtain ⟨b',o',ds,hA',_,⟨rfl,f2⟩,hd⟩:=HK.out m (by omega);injection hA' with hA'
        injection hA' with e1 e2
        subst e1;subst e2;have d0:=Ext.some hx (hd 0 _ rfl);have d1:=Ext.some hx (hd 1 _ rfl);simp only [aH,Nat.add_zero] at d0 d1;have F2:=ah f2;have HC:=ah (Ef T1.out);clear hd hx f2;have i0:(0:Int)≤(m:Int)+1:=by omega
        have i1:(m:Int)+1 < (l.length:Int):=by omega
        have i2:((m:Int)+1).toNat=m+1:=by omega
        have i3:IntKind.i64.wrap (m:Int)=(m:Int):=IntWalk.i64_in _ (by omega);have i4:m < l.length:=by omega
        obtain ⟨t2,ht2⟩:∃ t,mW (nth l m) (nth l (m+1))=t:=⟨_,rfl⟩
        have T2:=ah ht2;clear ht2;cases t2 with
        | false =>
          have HF:=ah (pJ hlt (by rw [HC.out,T2.out];rfl));go_wp2_with fail;refine ak (by kernel_rfl) (by kernel_rfl) ?_;repeat (
           (refine wpQuiet_step (fun K hK=>?_)
            go_simp;first
             | (refine hK _ ?_;clear hK K)
             | (apply Exists.intro
                refine ⟨fun bH aj=>?_,hK _ ?_⟩
                · have kH:=Ext.some aj c0;have mX:=Ext.some aj c1;have jH:=Ext.some aj d0;have kJ:=Ext.some aj d1;first | exact rfl | (go_simp;done) | (go_simp;exact rfl) | (go_at_call 139;exact aJ aj (kV (S:=S) (nth l (m+1)) _ _ (aC F1.out) _ T1.out)) | (go_at_call 246;exact aJ aj (zh (S:=S) (S':=S) (nth l m) (nth l (m+1)) _ _ _ (aC F2.out) (aC F1.out) _ T2.out))
                clear hK K)))
          refine wpQuiet_nil ?_;intro w1 hx1;have HE:=ah hx1;clear c0 c1 d0 d1 hx1;go_wp2_with fail;go_ret;exact ⟨au HF.out.symm,HX.out.trans HE.out⟩
        | true =>
          by_cases he:nth l m=nth l (m+1)
          · have HEq:=ah he;have T3:Hid (mW (nth l (m+1)) (nth l (m+1))=true):=ah (by have:=T2.out;rwa [he] at this);have g0:(nth l m).level=(nth l (m+1)).level:=by rw [he]
            have g1:(nth l m).set=(nth l (m+1)).set:=by rw [he]
            clear he;have HF:=ah (pJ hlt (by rw [HC.out,decide_eq_true HEq.out];simp));go_wp2_with fail;refine ak (by kernel_rfl) (by kernel_rfl) ?_;repeat (
             (refine wpQuiet_step (fun K hK=>?_)
              go_simp;first
               | (refine hK _ ?_;clear hK K)
               | (apply Exists.intro
                  refine ⟨fun bH aj=>?_,hK _ ?_⟩
                  · have kH:=Ext.some aj c0;have mX:=Ext.some aj c1;have jH:=Ext.some aj d0;have kJ:=Ext.some aj d1;first | exact rfl | (go_simp;done) | (go_simp;exact rfl) | (go_at_call 139;exact aJ aj (kV (S:=S) (nth l (m+1)) _ _ (aC F1.out) _ T1.out)) | (go_at_call 246;exact aJ aj (zh (S:=S) (S':=S) (nth l (m+1)) (nth l (m+1)) _ _ _ (aC F1.out) (aC F1.out) _ T3.out))
                  clear hK K)))
            refine wpQuiet_nil ?_;intro w1 hx1;have HE:=ah hx1;clear c0 c1 d0 d1 hx1;go_wp2_with fail;go_ret;exact ⟨au HF.out.symm,HX.out.trans HE.out⟩
          · have HNe:=ah he;rcases nC he with g | g
            all_goals
             clear he;have jl:=@kL;have HG:=ah (all_succ (p:=fun j=>lD l j=true) HA.out (by rw [HC.out,T2.out,decide_eq_false HNe.out];rfl));go_wp2_with fail;refine ak (by kernel_rfl) (by kernel_rfl) ?_;repeat (
              (refine wpQuiet_step (fun K hK=>?_)
               go_simp;first
                | (refine hK _ ?_;clear hK K)
                | (apply Exists.intro
                   refine ⟨fun bH aj=>?_,hK _ ?_⟩
                   · have kH:=Ext.some aj c0;have mX:=Ext.some aj c1;have jH:=Ext.some aj d0;have kJ:=Ext.some aj d1;first | exact rfl | (go_simp;done) | (go_simp;exact rfl) | (go_at_call 139;exact aJ aj (kV (S:=S) (nth l (m+1)) _ _ (aC F1.out) _ T1.out)) | (go_at_call 246;exact aJ aj (zh (S:=S) (S':=S) (nth l m) (nth l (m+1)) _ _ _ (aC F2.out) (aC F1.out) _ T2.out))
                   clear hK K)))
             refine wpQuiet_nil ?_;intro w1 hx1;have HE:=ah hx1;clear c0 c1 d0 d1 hx1 jl;go_wp2_with fail;go_roundw;case rel=>exact ⟨m+1+1,by omega,by go_num,HG.out,HX.out.trans HE.out⟩
             case measure=>simp [intOf];omega
      · obtain rfl:k=0:=by omega
        clear hx;simp only [Nat.zero_mul,Nat.add_zero] at c0 c1;have HG:=ah (all_succ (p:=fun j=>lD l j=true) HA.out (Eh T1.out));go_wp2_with fail;refine ak (by kernel_rfl) (by kernel_rfl) ?_;repeat (
         (refine wpQuiet_step (fun K hK=>?_)
          go_simp;first
           | (refine hK _ ?_;clear hK K)
           | (apply Exists.intro
              refine ⟨fun bH aj=>?_,hK _ ?_⟩
              · have kH:=Ext.some aj c0;have mX:=Ext.some aj c1;first | exact rfl | (go_simp;done) | (go_simp;exact rfl) | (go_at_call 139;exact aJ aj (kV (S:=S) (nth l 0) _ _ (aC F1.out) _ T1.out))
              clear hK K)))
        refine wpQuiet_nil ?_;intro w1 hx1;have HE:=ah hx1;clear c0 c1 hx1;go_wp2_with fail;go_roundw;case rel=>exact ⟨1,by omega,by go_num,HG.out,HX.out.trans HE.out⟩
        case measure=>simp [intOf];omega
  · have HF:=ah (KJ (l:=l) fun j hj=>HA.out j (by omega));have HI:Hid (jG (l.length:Int) 1 4=true):=ah (J7.2 (by omega));go_wp2_with fail;go_ret;exact ⟨au (by rw [HF.out,HI.out]),HX.out⟩
theorem EZ {S:Nat→Prop} (l:List Label) (v:Value) (w:World) (h:Rd aH S w v l) (r:Bool) (hr:iJ l=r) :
 Calls prog 245 #[v] w fun e w'=>e=.returned (.bool r)∧Ext w w':=by
 subst hr;exact Pz l v w h
theorem UJ {ns:List (List Label)} {k:Nat} (hk:k < ns.length) (h:iJ (nth ns k)=false):fJ ns=false:=by
 unfold fJ;rw [zY hk h,Bool.and_false]
theorem XT {ns:List (List Label)} (h:∀ k,k < ns.length→iJ (nth ns k)=true):fJ ns=jG ns.length 1 6:=by
 unfold fJ;rw [Kv h,Bool.and_true]
theorem RN {ns:List (List Label)} (h:6 < ns.length):fJ ns=false:=by unfold fJ jG;rw [decide_eq_false (by omega)];rfl
theorem Sr {S:Nat→Prop} (ns:List (List Label)) (v:Value) (w:World) (h:Rd (gU aH) S w v ns) :
 Calls prog 168 #[v] w fun e w'=>e=.returned (.bool (fJ ns))∧Ext w w':=by
 obtain ⟨A,c,rfl,h1,h2,hk⟩:=h.open_;unfold maxLen at h2;have HK:=ah hk;clear hk h;go_enter func168,ntmps168;go_wp2_with fail;go_loopw [3] (fun i w'=>∃ k:Nat,k≤ns.length∧k≤7∧i=.int .i64 k∧(∀ j,j < k→iJ (nth ns j)=true)∧Ext w w') (fun i _=>ns.length - (intOf i).toNat);case atStart=>exact ⟨0,by omega,by omega,rfl,fun j hj=>by omega,Ext.refl _⟩
 case round =>
  obtain ⟨k,hk1,hk7,rfl,hall,hx⟩:=hrel;have HA:=ah hall;have HX:=ah hx;clear hall;by_cases hlt:k < ns.length
  · by_cases h6:k≤6
    · obtain ⟨b,o,cs,rfl,_,⟨v1,rfl,hr⟩,hc⟩:=HK.out k hlt;have c0:=Ext.some hx (hc 0 _ rfl);simp only [gU,Nat.mul_one,Nat.add_zero] at c0;obtain ⟨A1,c1,rfl,-⟩:=hr.form;have HR:=ah (hr.ext hx);obtain ⟨t,ht⟩:∃ t,iJ (nth ns k)=t:=⟨_,rfl⟩
      have T:=ah ht;clear hc hr hx ht;cases t with
      | false =>
        have HF:=ah (UJ hlt T.out);go_wp2_with (go_at_call 245;(with_reducible refine (EZ (S:=S) (nth ns k) _ _ HR.out _ T.out).mono ?_);rintro e w7 ⟨rfl,hx7⟩;have X7:=ah hx7;clear hx7);go_ret;exact ⟨au HF.out.symm,HX.out.trans X7.out⟩
      | true =>
        have HG:=ah (all_succ (p:=fun j=>iJ (nth ns j)=true) HA.out T.out);go_wp2_with (go_at_call 245;(with_reducible refine (EZ (S:=S) (nth ns k) _ _ HR.out _ T.out).mono ?_);rintro e w7 ⟨rfl,hx7⟩;have X7:=ah hx7;clear hx7);go_roundw;case rel=>exact ⟨k+1,by omega,by omega,by go_num,HG.out,HX.out.trans X7.out⟩
        case measure=>simp [intOf];omega
    · obtain rfl:k=7:=by omega
      have HF:=ah (RN (ns:=ns) (by omega));have h6':6 < ns.length:=by omega
      clear hx;go_wp2_with fail;go_ret;exact ⟨au (by rw [HF.out];simp;omega),HX.out⟩
  · obtain rfl:k=ns.length:=by omega
    have HF:=ah (XT HA.out);clear hx;go_wp2_with fail;all_goals (go_ret;exact ⟨au (by rw [HF.out];unfold jG;simp;try omega),HX.out⟩)
theorem Vu {S S':Nat→Prop} (a b:Label) (cs ds:List Value) (w:World) (h:aH.rel S w cs a) (g:aH.rel S' w ds b) (r:Bool) (hr:mW a b=r) :
 Calls prog 246 #[.agg cs.toArray,.agg ds.toArray] w fun e w'=>e=.returned (.bool r)∧Ext w w':=by
 subst hr;exact xw a b cs ds w h g
theorem lY (n a b:Int) (w:World) (r:Bool) (hr:jG n a b=r) :
 Calls prog 32 #[.int .i64 n,.int .i64 a,.int .i64 b] w fun e w'=>e=.returned (.bool r)∧w=w':=by
 subst hr;exact fG n a b w
theorem MF {S:Nat→Prop} (l:List Label) (a:Label) (v:Value) (w:World) (h:Rd aH S w v l) :
 Calls prog 87 #[v,.agg (Rl a)] w fun e w'=>e=.returned (.bool (cleared l a))∧Ext w w':=by
 obtain ⟨A,c,rfl,h1,h2,hk⟩:=h.open_;unfold maxLen at h2;have HK:=ah hk;clear hk h;go_enter func87,ntmps87;go_upto_region 1 with (fail)
 obtain ⟨W,B,aX,aT,jF,aG⟩:=fH w (Rl a) 47;rw [← aX,← aT];have b0:=aG 0 _ rfl;have b1:=aG 1 _ rfl;clear aX aT aG;have HB0:=ah b0;have HB1:=ah b1;have HW:=ah jF;clear b0 b1 jF;go_wp2_with fail;go_loopw [5] (fun i w'=>∃ k:Nat,k≤l.length∧i=.int .i64 k∧(∀ j,j < k→uY a (nth l j)=false)∧Ext W w') (fun i _=>l.length - (intOf i).toNat);case atStart=>exact ⟨0,by omega,rfl,fun j hj=>by omega,Ext.refl _⟩
 case round =>
  obtain ⟨k,hk1,rfl,hall,hx⟩:=hrel;have HA:=ah hall;have HX:=ah (HW.out.trans hx);have HY:=ah hx;clear hall;by_cases hlt:k < l.length
  · obtain ⟨b,q,cs,rfl,_,⟨rfl,hfit⟩,hc⟩:=HK.out k hlt;have c0:=Ext.some HX.out (hc 0 _ rfl);have c1:=Ext.some HX.out (hc 1 _ rfl);have d0:=Ext.some hx HB0.out;have d1:=Ext.some hx HB1.out;simp only [aH,Nat.add_zero] at c0 c1;clear hc hfit hx;by_cases he:nth l k=a
    · have HE:Hid (cleared l a=true):=ah (List.any_eq_true.2 ⟨nth l k,bG hlt,by simp [he]⟩);have g0:(nth l k).level=a.level:=by rw [he]
      have g1:(nth l k).set=a.set:=by rw [he]
      clear he;go_wp2_with fail;refine ak (by kernel_rfl) (by kernel_rfl) ?_;repeat (
       (refine wpQuiet_step (fun K hK=>?_)
        go_simp;first
         | (refine hK _ ?_;clear hK K)
         | (apply Exists.intro
            refine ⟨fun bH aj=>?_,hK _ ?_⟩
            · have kH:=Ext.some aj c0;have mX:=Ext.some aj c1;have jH:=Ext.some aj d0;have kJ:=Ext.some aj d1;first | exact rfl | (go_simp;done) | (go_simp;exact rfl)
            clear hK K)))
      refine wpQuiet_nil ?_;intro w1 hx1;have HZ:=ah hx1;clear c0 c1 d0 d1 hx1;go_wp2_with fail;go_ret;exact ⟨au HE.out.symm,HX.out.trans HZ.out⟩
    · have HE:=ah (all_succ (p:=fun j=>uY a (nth l j)=false) HA.out (by simp [uY,he]));rcases nC he with g | g
      all_goals
       clear he;have jl:=@kL;go_wp2_with fail;refine ak (by kernel_rfl) (by kernel_rfl) ?_;repeat (
        (refine wpQuiet_step (fun K hK=>?_)
         go_simp;first
          | (refine hK _ ?_;clear hK K)
          | (apply Exists.intro
             refine ⟨fun bH aj=>?_,hK _ ?_⟩
             · have kH:=Ext.some aj c0;have mX:=Ext.some aj c1;have jH:=Ext.some aj d0;have kJ:=Ext.some aj d1;first | exact rfl | (go_simp;done) | (go_simp;exact rfl)
             clear hK K)))
       refine wpQuiet_nil ?_;intro w1 hx1;have HZ:=ah hx1;clear c0 c1 d0 d1 hx1 jl;go_wp2_with fail;go_roundw;case rel=>exact ⟨k+1,by omega,by go_num,HE.out,HY.out.trans HZ.out⟩
       case measure=>simp [intOf];omega
  · have HE:Hid (cleared l a=false):=ah (by
     rw [IL,List.any_eq_false];intro x hxm;obtain ⟨i,hi,rfl⟩:=List.getElem_of_mem hxm;have:=HA.out i (by omega);rw [aO hi] at this;simp [this])
    go_wp2_with fail;go_ret;exact ⟨au HE.out.symm,HX.out⟩
theorem dU {S:Nat→Prop} (l:List Label) (a:Label) (v:Value) (w:World) (h:Rd aH S w v l) (r:Bool) (hr:cleared l a=r) :
 Calls prog 87 #[v,.agg (Rl a)] w fun e w'=>e=.returned (.bool r)∧Ext w w':=by
 subst hr;exact MF l a v w h
end Go.Proofs.YtbdicafambkhdaaGreat
/- The walk of the reference's l09Quotas. Printed by wip/conft.py. -/
namespace Go.Proofs.YtbdicafambkhdaaGreat
open Go.Proofs.Tryz
open Go.RowKit
attribute [local irreducible] wpQuiet
theorem OV {S S':Nat→Prop} (ls:List Label) (qs:List jk) (v u:Value) (w:World) (g:Rd aH S' w u ls) (h:Rd dJ S w v qs) (hr:∀ a∈ls,aA a=true) :
 Calls prog 170 #[u,v] w fun e w'=>e=.returned (.bool (gY ls qs))∧Ext w w':=by
 obtain ⟨A,c,rfl,h1,h2,hk⟩:=h.open_;unfold maxLen at h2;obtain ⟨AL,cL,rfl,-⟩:=g.form;have HK:=ah hk;have HL:=ah g;have HRt:=ah hr;clear hk h g hr;by_cases h8:8 < qs.length
 · have HN:Hid (gY ls qs=false):=ah (by unfold gY;rw [decide_eq_false (by omega)];rfl);go_enter func170,ntmps170;go_wp2_with fail;go_ret;exact ⟨au HN.out.symm,Ext.refl _⟩
 have h8':qs.length≤8:=by omega
 clear h8;go_enter func170,ntmps170;go_wp2_with fail;go_loopw [5] (fun i w'=>∃ k:Nat,k≤qs.length∧i=.int .i64 k∧(∀ j,j < k→fK ls qs j=true)∧Ext w w') (fun i _=>qs.length - (intOf i).toNat);case atStart=>exact ⟨0,by omega,rfl,fun j hj=>by omega,Ext.refl _⟩
 case round =>
  obtain ⟨k,hk1,rfl,hall,hx⟩:=hrel;have HA:=ah hall;have HX:=ah hx;clear hall;by_cases hlt:k < qs.length
  · obtain ⟨b,o,cs,rfl,_,⟨rfl,hfit⟩,hc⟩:=HK.out k hlt;have c0:=Ext.some hx (hc 0 _ rfl);have c1:=Ext.some hx (hc 1 _ rfl);have c2:=Ext.some hx (hc 2 _ rfl);simp only [dJ,Nat.add_zero] at c0 c1 c2;clear hc hfit;obtain ⟨t1,ht1⟩:∃ t,cleared ls (nth qs k).label=t:=⟨_,rfl⟩
    obtain ⟨t2,ht2⟩:∃ t,jG (nth qs k).most 1 9=t:=⟨_,rfl⟩
    have T1:=ah ht1;have T2:=ah ht2;clear ht1 ht2;cases t1 with
    | false =>
      clear hx;have HF:Hid (gY ls qs=false):=ah (nV hlt (by simp [fK,T1.out]));go_wp2_with fail;refine ak (by kernel_rfl) (by kernel_rfl) ?_;repeat (
       (refine wpQuiet_step (fun K hK=>?_)
        go_simp;first
         | (refine hK _ ?_;clear hK K)
         | (apply Exists.intro
            refine ⟨fun bH aj=>?_,hK _ ?_⟩
            · have kH:=Ext.some aj c0;have mX:=Ext.some aj c1;have yI:=Ext.some aj c2;first | exact rfl | (go_simp;done) | (go_simp;exact rfl) | (go_at_call 87;exact aJ aj (dU (S:=S') ls (nth qs k).label _ _ (HL.out.ext (HX.out.trans aj)) _ T1.out)) | (go_at_call 32;exact aN aj (lY _ _ _ _ _ T2.out))
            clear hK K)))
      refine wpQuiet_nil ?_;intro w1 hx1;have HE:=ah hx1;clear c0 c1 c2 hx1;go_wp2_with fail;go_ret;exact ⟨au HF.out.symm,HX.out.trans HE.out⟩
    | true =>
      cases t2 with
      | false =>
        clear hx;have HF:Hid (gY ls qs=false):=ah (nV hlt (by simp [fK,T2.out]));go_wp2_with fail;refine ak (by kernel_rfl) (by kernel_rfl) ?_;repeat (
         (refine wpQuiet_step (fun K hK=>?_)
          go_simp;first
           | (refine hK _ ?_;clear hK K)
           | (apply Exists.intro
              refine ⟨fun bH aj=>?_,hK _ ?_⟩
              · have kH:=Ext.some aj c0;have mX:=Ext.some aj c1;have yI:=Ext.some aj c2;first | exact rfl | (go_simp;done) | (go_simp;exact rfl) | (go_at_call 87;exact aJ aj (dU (S:=S') ls (nth qs k).label _ _ (HL.out.ext (HX.out.trans aj)) _ T1.out)) | (go_at_call 32;exact aN aj (lY _ _ _ _ _ T2.out))
              clear hK K)))
        refine wpQuiet_nil ?_;intro w1 hx1;have HE:=ah hx1;clear c0 c1 c2 hx1;go_wp2_with fail;go_ret;exact ⟨au HF.out.symm,HX.out.trans HE.out⟩
      | true =>
        by_cases hk0:0 < k
        · obtain ⟨m,rfl⟩:∃ m,k=m+1:=⟨k - 1,by omega⟩
          obtain ⟨b',o',ds,hA',_,⟨rfl,hfm⟩,hd⟩:=HK.out m (by omega);injection hA' with hA'
          injection hA' with g1 g2
          subst g1;subst g2;have d0:=Ext.some hx (hd 0 _ rfl);have d1:=Ext.some hx (hd 1 _ rfl);have d2:=Ext.some hx (hd 2 _ rfl);simp only [dJ,Nat.add_zero] at d0 d1 d2;clear hd hfm hx d2;have i0:(0:Int)≤(m:Int)+1:=by omega
          have i1:(m:Int)+1 < (qs.length:Int):=by omega
          have i2:((m:Int)+1).toNat=m+1:=by omega
          have i3:IntKind.i64.wrap (m:Int)=(m:Int):=IntWalk.i64_in _ (by omega);have i4:m < qs.length:=by omega
          have RA:Hid (jG (nth qs m).label.level 0 3=true∧jG (nth qs m).label.set 0 7=true):=ah (by have:=HRt.out _ (Je (HA.out m (by omega)));simpa [aA] using this);have RB:Hid (jG (nth qs (m+1)).label.level 0 3=true∧jG (nth qs (m+1)).label.set 0 7=true):=ah (by have:=HRt.out _ (jZ.1 T1.out);simpa [aA] using this);by_cases hz0:8 * (nth qs (m+1)).label.level+(nth qs (m+1)).label.set≤8 * (nth qs m).label.level+(nth qs m).label.set
          · have HF:Hid (gY ls qs=false):=ah (nV hlt (by have:¬ (keyOf (nth qs m).label < keyOf (nth qs (m+1)).label):=(by unfold keyOf;omega);simp [fK,T1.out,T2.out,this]));go_wp2_with fail;refine ak (by kernel_rfl) (by kernel_rfl) ?_;repeat (
             (refine wpQuiet_step (fun K hK=>?_)
              go_simp;first
               | (refine hK _ ?_;clear hK K)
               | (apply Exists.intro
                  refine ⟨fun bH aj=>?_,hK _ ?_⟩
                  · have kH:=Ext.some aj c0;have mX:=Ext.some aj c1;have yI:=Ext.some aj c2;have jH:=Ext.some aj d0;have kJ:=Ext.some aj d1;first | exact rfl | (go_simp;done) | (go_simp;exact rfl) | (go_at_call 87;exact aJ aj (dU (S:=S') ls (nth qs (m+1)).label _ _ (HL.out.ext (HX.out.trans aj)) _ T1.out)) | (go_at_call 32;exact aN aj (lY _ _ _ _ _ T2.out)) | (go_at_call 35;exact aJ aj (gu (nth qs m).label.level (nth qs m).label.set _ RA.out.1 RA.out.2)) | (go_at_call 35;exact aJ aj (gu (nth qs (m+1)).label.level (nth qs (m+1)).label.set _ RB.out.1 RB.out.2))
                  clear hK K)))
            refine wpQuiet_nil ?_;intro w1 hx1;have HE:=ah hx1;clear c0 c1 c2 d0 d1 hx1;go_wp2_with fail;go_ret;exact ⟨au HF.out.symm,HX.out.trans HE.out⟩
          · have HZ:=ah hz0;have HG:=ah (all_succ (p:=fun j=>fK ls qs j=true) HA.out (by have:keyOf (nth qs m).label < keyOf (nth qs (m+1)).label:=(by have h0:=HZ.out;unfold keyOf;omega);simp [fK,T1.out,T2.out,this]));go_wp2_with fail;refine ak (by kernel_rfl) (by kernel_rfl) ?_;repeat (
             (refine wpQuiet_step (fun K hK=>?_)
              go_simp;first
               | (refine hK _ ?_;clear hK K)
               | (apply Exists.intro
                  refine ⟨fun bH aj=>?_,hK _ ?_⟩
                  · have kH:=Ext.some aj c0;have mX:=Ext.some aj c1;have yI:=Ext.some aj c2;have jH:=Ext.some aj d0;have kJ:=Ext.some aj d1;first | exact rfl | (go_simp;done) | (go_simp;exact rfl) | (go_at_call 87;exact aJ aj (dU (S:=S') ls (nth qs (m+1)).label _ _ (HL.out.ext (HX.out.trans aj)) _ T1.out)) | (go_at_call 32;exact aN aj (lY _ _ _ _ _ T2.out)) | (go_at_call 35;exact aJ aj (gu (nth qs m).label.level (nth qs m).label.set _ RA.out.1 RA.out.2)) | (go_at_call 35;exact aJ aj (gu (nth qs (m+1)).label.level (nth qs (m+1)).label.set _ RB.out.1 RB.out.2))
                  clear hK K)))
            refine wpQuiet_nil ?_;intro w1 hx1;have HE:=ah hx1;clear c0 c1 c2 d0 d1 hx1;go_wp2_with fail;go_roundw;case rel=>exact ⟨m+1+1,by omega,by go_num,HG.out,HX.out.trans HE.out⟩
            case measure=>simp [intOf];omega
        · obtain rfl:k=0:=by omega
          clear hx;simp only [Nat.zero_mul,Nat.add_zero] at c0 c1 c2;have HG:=ah (all_succ (p:=fun j=>fK ls qs j=true) HA.out (by simp [fK,T1.out,T2.out]));go_wp2_with fail;refine ak (by kernel_rfl) (by kernel_rfl) ?_;repeat (
           (refine wpQuiet_step (fun K hK=>?_)
            go_simp;first
             | (refine hK _ ?_;clear hK K)
             | (apply Exists.intro
                refine ⟨fun bH aj=>?_,hK _ ?_⟩
                · have kH:=Ext.some aj c0;have mX:=Ext.some aj c1;have yI:=Ext.some aj c2;first | exact rfl | (go_simp;done) | (go_simp;exact rfl) | (go_at_call 87;exact aJ aj (dU (S:=S') ls (nth qs 0).label _ _ (HL.out.ext (HX.out.trans aj)) _ T1.out)) | (go_at_call 32;exact aN aj (lY _ _ _ _ _ T2.out))
                clear hK K)))
          refine wpQuiet_nil ?_;intro w1 hx1;have HE:=ah hx1;clear c0 c1 c2 hx1;go_wp2_with fail;go_roundw;case rel=>exact ⟨1,by omega,by go_num,HG.out,HX.out.trans HE.out⟩
          case measure=>simp [intOf];omega
  · have HF:Hid (gY ls qs=true):=ah (by
     unfold gY;rw [decide_eq_true h8',Bool.true_and,List.all_eq_true];exact fun j hj=>HA.out j (by have:=List.mem_range.1 hj;omega))
    clear hx;go_wp2_with fail;go_ret;exact ⟨au HF.out.symm,HX.out⟩
end Go.Proofs.YtbdicafambkhdaaGreat
