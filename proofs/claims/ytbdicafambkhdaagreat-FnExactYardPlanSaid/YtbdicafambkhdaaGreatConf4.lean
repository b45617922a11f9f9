/- The walks of clearRight, slices.Contains at labels and the labels of a configuration. The walks of pairsOf, quotasOf, ConfigRight, clearFor and ClearFor, the program's. Printed by wip/conf3.py. The walks of ConfigRight, clearFor and ClearFor, the program's. Printed by wip/conf4.py. -/
import Derived.Test.YtbdicafambkhdaaGreatConf1
import Derived.Test.YtbdicafambkhdaaGreatOrdY
set_option maxHeartbeats 8000000
set_option maxRecDepth 100000
namespace Go.Proofs.YtbdicafambkhdaaGreat
open Go.Proofs.Tryz
open Go.RowKit
attribute [local irreducible] wpQuiet
def yJ (l:List Label):Bool:=!iJ l
theorem UA:∀ (args:Array Value) (W:World),(callFunc 256 args).run prog W=.ok (.enter 256 args) W:=by
 intro args W;go_simp
theorem XQ {S:Nat→Prop} (l:List Label) (cs:List Value) (w:World) (h:(gU aH).rel S w cs l) :
 Calls prog 256 #[cs.headD undef] w fun e w'=>e=.returned (.bool (yJ l))∧Ext w w':=by
 obtain ⟨v,rfl,hr⟩:=h;have HR:=ah hr;clear hr;simp only [List.headD_cons];go_enter func256,ntmps256;go_wp2_with (go_at_call 257;(with_reducible refine (aby (S:=S) l v _ HR.out).mono ?_);rintro e w1 ⟨rfl,hx1⟩;have jf:=ah hx1;clear hx1);go_ret;exact ⟨rfl,jf.out⟩
theorem Rz (ns:List (List Label)):(!ns.any yJ)=ns.all iJ:=by
 rw [List.not_any_eq_all_not];simp [yJ]
theorem KN {S:Nat→Prop} (ns:List (List Label)) (v:Value) (w:World) (h:Rd (gU aH) S w v ns) :
 Calls prog 188 #[v] w fun e w'=>e=.returned (.bool (fJ ns))∧Ext w w':=by
 have HR:=ah h;obtain ⟨A,c,rfl,h1,h2⟩:=h.form;unfold maxLen at h2;clear h;by_cases hn:jG (ns.length:Int) 1 6=true
 · have HN:Hid (fJ ns = !ns.any yJ):=ah (by rw [Rz];simp [fJ,hn]);go_enter func188,ntmps188;go_wp2_with (first | (go_at_call 42;refine (bI _ _ _ _).mono ?_;rintro e w' ⟨rfl,rfl⟩) | (go_at_call 255;refine (vU ns yJ _ _ _ HR.out UA (fun cs x w1 _ hr=>XQ x cs w1 hr)).mono ?_;rintro e w1 ⟨rfl,hx1⟩));go_ret;exact ⟨au HN.out.symm,hx1⟩
 · simp only [Bool.not_eq_true] at hn;have HN:Hid (fJ ns=false):=ah (by simp [fJ,hn]);go_enter func188,ntmps188;go_wp2_with (first | (go_at_call 42;refine (bI _ _ _ _).mono ?_;rintro e w' ⟨rfl,rfl⟩));go_ret;exact ⟨au HN.out.symm,Ext.refl _⟩
def uY (a x:Label):Bool:=decide (x=a)
theorem abT {a x:Label}:uY a x=(decide (a.level=x.level) && decide (a.set=x.set)):=by
 obtain ⟨m,t⟩:=a;obtain ⟨l,s⟩:=x;simp only [uY,Label.mk.injEq,Bool.decide_and];congr 1 <;> (rw [decide_eq_decide];exact ⟨Eq.symm,Eq.symm⟩)
theorem Md {S:Nat→Prop} (l:List Label) (a:Label) (v:Value) (w:World) (h:Rd aH S w v l) :
 Calls prog 206 #[v,.agg (Rl a)] w fun e w'=>e=.returned (.int .i64 (idxOf (uY a) l))∧Ext w w':=by
 obtain ⟨A,c,rfl,h1,h2,hk⟩:=h.open_;unfold maxLen at h2;have HK:=ah hk;clear hk h;go_enter func206,ntmps206;go_upto_region 1 with (fail)
 obtain ⟨W,B,aX,aT,jF,aG⟩:=fH w (Rl a) 47;rw [← aX,← aT];have b0:=aG 0 _ rfl;have b1:=aG 1 _ rfl;clear aX aT aG;have HB0:=ah b0;have HB1:=ah b1;have HW:=ah jF;clear b0 b1 jF;go_wp2_with fail;go_loopw [8] (fun i w'=>∃ k:Nat,k≤l.length∧i=.int .i64 k∧(∀ j,j < k→uY a (nth l j)=false)∧Ext W w') (fun i _=>l.length - (intOf i).toNat);case atStart=>exact ⟨0,by omega,rfl,fun j hj=>by omega,Ext.refl _⟩
 case round =>
  obtain ⟨k,hk1,rfl,hall,hx⟩:=hrel;have HA:=ah hall;have HX:=ah (HW.out.trans hx);have HY:=ah hx;clear hall;by_cases hlt:k < l.length
  · obtain ⟨b,q,cs,rfl,_,⟨rfl,hfit⟩,hc⟩:=HK.out k hlt;have c0:=Ext.some HX.out (hc 0 _ rfl);have c1:=Ext.some HX.out (hc 1 _ rfl);have d0:=Ext.some hx HB0.out;have d1:=Ext.some hx HB1.out;simp only [aH,Nat.add_zero] at c0 c1;clear hc hfit hx;by_cases he:nth l k=a
    · have HE:=ah (iP (p:=uY a) hlt HA.out (by simp [uY,he]));have g0:a.level=(nth l k).level:=by rw [he]
      have g1:a.set=(nth l k).set:=by rw [he]
      clear he;go_wp2_with fail;refine ak (by kernel_rfl) (by kernel_rfl) ?_;repeat (
       (refine wpQuiet_step (fun K hK=>?_)
        go_simp;first
         | (refine hK _ ?_;clear hK K)
         | (apply Exists.intro
            refine ⟨fun bH aj=>?_,hK _ ?_⟩
            · have kH:=Ext.some aj c0;have mX:=Ext.some aj c1;have jH:=Ext.some aj d0;have kJ:=Ext.some aj d1;first | exact rfl | (go_simp;done) | (go_simp;exact rfl)
            clear hK K)))
      refine wpQuiet_nil ?_;intro w1 hx1;have HZ:=ah hx1;clear c0 c1 d0 d1 hx1;go_wp2_with fail;go_ret;exact ⟨aI HE.out.symm,HX.out.trans HZ.out⟩
    · have HE:=ah (all_succ (p:=fun j=>uY a (nth l j)=false) HA.out (by simp [uY,he]));rcases nC (fun e=>he e.symm) with g | g
      all_goals
       clear he;have jl:=@kL;go_wp2_with fail;refine ak (by kernel_rfl) (by kernel_rfl) ?_;repeat (
        (refine wpQuiet_step (fun K hK=>?_)
         go_simp;first
          | (refine hK _ ?_;clear hK K)
          | (apply Exists.intro
             refine ⟨fun bH aj=>?_,hK _ ?_⟩
             · have kH:=Ext.some aj c0;have mX:=Ext.some aj c1;have jH:=Ext.some aj d0;have kJ:=Ext.some aj d1;first | exact rfl | (go_simp;done) | (go_simp;exact rfl)
             clear hK K)))
       refine wpQuiet_nil ?_;intro w1 hx1;have HZ:=ah hx1;clear c0 c1 d0 d1 hx1 jl;go_wp2_with fail;go_roundw;case rel=>exact ⟨k+1,by omega,by go_num,HE.out,HY.out.trans HZ.out⟩
       case measure=>simp [intOf];omega
  · have HE:=ah (iO (p:=uY a) (l:=l) fun j hj=>HA.out j (by omega));go_wp2_with fail;go_ret;exact ⟨aI HE.out.symm,HX.out⟩
theorem IL (l:List Label) (a:Label):cleared l a=l.any (uY a):=rfl
theorem uV {S:Nat→Prop} (l:List Label) (a:Label) (v:Value) (w:World) (h:Rd aH S w v l) :
 Calls prog 112 #[v,.agg (Rl a)] w fun e w'=>e=.returned (.bool (cleared l a))∧Ext w w':=by
 have HE:=ah (jr (p:=uY a) (l:=l));have HR:=ah h;obtain ⟨A,c,rfl,-⟩:=h.form;clear h;go_enter func112,ntmps112;go_wp2_with (go_at_call 206;(with_reducible refine (Md (S:=S) l a _ _ (HR.out.ext ((Ext.refl _).alloc _))).mono ?_);rintro e w1 ⟨rfl,hx1⟩;have jf:=ah hx1;clear hx1);go_ret;exact ⟨au (by rw [IL,← HE.out]),((Ext.refl _).alloc _).trans jf.out⟩
theorem qM {S:Nat→Prop} (x:Config) (cs:List Value) (w:World) (h:gV.rel S w cs x) (hc:fJ x.nodes=true) :
 Calls prog 105 #[.agg cs.toArray] w (kX eX 47 (labelsIn x.nodes) w):=by
 obtain ⟨v1,v2,v3,rfl,hf,h1,h2,h3⟩:=h;obtain ⟨A1,c1,rfl,-⟩:=h1.form;have HR:=ah h1;have HC:=ah hc;have H0:=ah (XU hc);have HN:=ah (abz hc);clear hf h1 h2 h3 hc;simp only [dN];go_enter func105,ntmps105;go_upto_region 2 with (go_at_call 200;(with_reducible refine (Jz (S:=S) x.nodes _ _ (HR.out.ext ((Ext.refl _).alloc _)) H0.out (Nat.le_trans HN.out (by decide))).mono ?_);rintro e w1 ⟨u1,F1,rfl,o1,f1,x1⟩;have O1:=ah o1;have F1h:Hid (∀ b∈F1,w.heap.size≤b):=ah (fun b hb=>Nat.le_trans ((Ext.refl w).alloc _).size (f1 b hb));have X1:Hid (Ext w w1):=ah (((Ext.refl w).alloc _).trans x1);clear o1 f1 x1)
 go_upto_region 3 with (go_at_call 201;(with_reducible refine (NM x.nodes.flatten _ F1 _ O1.out H0.out (Nat.le_trans HN.out (by decide))).mono ?_);rintro e w2 ⟨rfl,m,o2,p2,s2,k2⟩;have O2:=ah o2;have P2:=ah p2;have S2:=ah s2;have K2:=ah k2;clear o2 p2 s2 k2)
 go_wp2_with (go_at_call 202;(with_reducible refine (Gn m _ F1 _ O2.out (P2.out.length_eq ▸ H0.out) (P2.out.length_eq ▸ Nat.le_trans HN.out (by decide))).mono ?_);rintro e w3 ⟨v3',F3,rfl,o3,f3,k3⟩;have O3:=ah o3;have F3h:=ah f3;have K3:=ah k3;clear o3 f3 k3);go_ret;exact ⟨_,F3,rfl,by rw [← KO HC.out P2.out S2.out];exact O3.out,fun b hb=>F1h.out b (F3h.out b hb),(K2.out.trans K3.out).ext X1.out F1h.out⟩
theorem LZ {S:Nat→Prop} (l:List Pair) (p:Pair→Bool) (v:Value) (f:Nat) (caps:Array Value) (w:World) (h:Rd fA S w v l) (hcall:∀ (args:Array Value) (W:World),(callFunc f args).run prog W=.ok (.enter f args) W)
 (hf:∀ (cs:List Value) (x:Pair) (w1:World),Ext w w1→fA.rel S w1 cs x→Calls prog f (#[.agg cs.toArray] ++ caps) w1 fun e w'=>e=.returned (.bool (p x))∧Ext w1 w') :
 Calls prog 296 #[v,.func (.func f) #[] caps] w fun e w'=>e=.returned (.int .i64 (idxOf p l))∧Ext w w':=by
 obtain ⟨A,c,rfl,h1,h2,hk⟩:=h.open_;unfold maxLen at h2;have HK:=ah hk;have HF:=ah hf;clear hk h hf;go_enter func296,ntmps296;go_wp2_with fail;go_loopw [8] (fun i w'=>∃ k:Nat,k≤l.length∧i=.int .i64 k∧(∀ j,j < k→p (nth l j)=false)∧Ext w w') (fun i _=>l.length - (intOf i).toNat);case atStart=>exact ⟨0,by omega,rfl,fun j hj=>by omega,Ext.refl _⟩
 case round =>
  obtain ⟨k,hk1,rfl,hall,hx⟩:=hrel;have HA:=ah hall;have HX:=ah hx;clear hall;by_cases hlt:k < l.length
  · obtain ⟨b,o,cs,rfl,hb,hr,hc⟩:=HK.out k hlt;have HR:=ah (fA.keep (hx.same S) hr);have HC:=ah (hx.range hc);have HI:Hid ((prog.info? 214).map (·.size)=some cs.length):=ah (by rw [fA.len hr];kernel_rfl);clear hr hc hx;by_cases hp:p (nth l k)=true
    · have HE:Hid (idxOf p l=k):=ah (iP hlt HA.out hp);go_wp2_with (first | (refine wpList_load_mid rfl 214 _ rfl b (o+k * 5) rfl cs _ HC.out underlying214 rfl HI.out ?_) | ((with_reducible refine (HF.out cs (nth l k) _ HX.out HR.out).mono ?_);rintro e w1 ⟨rfl,hx1⟩;have jf:=ah hx1;clear hx1));go_ret;exact ⟨aI HE.out.symm,HX.out.trans jf.out⟩
    · simp only [Bool.not_eq_true] at hp;have HE:=ah (all_succ HA.out hp);go_wp2_with (first | (refine wpList_load_mid rfl 214 _ rfl b (o+k * 5) rfl cs _ HC.out underlying214 rfl HI.out ?_) | ((with_reducible refine (HF.out cs (nth l k) _ HX.out HR.out).mono ?_);rintro e w1 ⟨rfl,hx1⟩;have jf:=ah hx1;clear hx1));go_roundw;case rel=>exact ⟨k+1,by omega,by go_num,HE.out,HX.out.trans jf.out⟩
      case measure=>simp [intOf];omega
  · have HE:Hid (idxOf p l = -1):=ah (iO fun j hj=>HA.out j (by omega));go_wp2_with fail;go_ret;exact ⟨aI HE.out.symm,HX.out⟩
theorem Es {S:Nat→Prop} (l:List Pair) (p:Pair→Bool) (v:Value) (f:Nat) (caps:Array Value) (w:World) (h:Rd fA S w v l) (hcall:∀ (args:Array Value) (W:World),(callFunc f args).run prog W=.ok (.enter f args) W)
 (hf:∀ (cs:List Value) (x:Pair) (w1:World),Ext w w1→fA.rel S w1 cs x→Calls prog f (#[.agg cs.toArray] ++ caps) w1 fun e w'=>e=.returned (.bool (p x))∧Ext w1 w') :
 Calls prog 258 #[v,.func (.func f) #[] caps] w fun e w'=>e=.returned (.bool (l.any p))∧Ext w w':=by
 have HE:=ah (jr (p:=p) (l:=l));have H:=ah (LZ l p v f caps w h hcall hf);clear h hcall hf;go_enter func258,ntmps258;go_wp2_with (refine H.out.mono ?_;rintro e w1 ⟨rfl,hx1⟩;have jf:=ah hx1;clear hx1);go_ret;exact ⟨au HE.out,jf.out⟩
theorem AA {S:Nat→Prop} (l:List Pair) (p:Pair→Bool) (v:Value) (f:Nat) (c1:Value) (w:World) (h:Rd fA S w v l) (hcall:∀ (args:Array Value) (W:World),(callFunc f args).run prog W=.ok (.enter f args) W)
 (hf:∀ (cs:List Value) (x:Pair) (w1:World),Ext w w1→fA.rel S w1 cs x→Calls prog f #[.agg cs.toArray,c1] w1 fun e w'=>e=.returned (.bool (p x))∧Ext w1 w') :
 Calls prog 258 #[v,.func (.func f) #[] #[c1]] w fun e w'=>e=.returned (.bool (l.any p))∧Ext w w' :=
 Es l p v f #[c1] w h hcall fun cs x w1 hx hr=>by rw [show (#[.agg cs.toArray] ++ #[c1]:Array Value) = #[.agg cs.toArray,c1] from rfl];exact hf cs x w1 hx hr
theorem TA {x y:Pair}:samePair x y=(decide (x.from_.level=y.from_.level) && decide (x.from_.set=y.from_.set) && (decide (x.jA.level=y.jA.level) && decide (x.jA.set=y.jA.set))):=by
 have h:∀ a b:Label,decide (b=a)=(decide (a.level=b.level) && decide (a.set=b.set)):=fun a b=>abT;rw [samePair,h,h]
theorem UD:∀ (args:Array Value) (W:World),(callFunc 259 args).run prog W=.ok (.enter 259 args) W:=by
 intro args W;go_simp
theorem YD {S:Nat→Prop} (x y:Pair) (cs:List Value) (B:Nat) (w:World) (h:fA.rel S w cs y) (hb:aF w B 214 (fM x).toArray) :
 Calls prog 259 #[.agg cs.toArray,.pointer (some ⟨B,0,none⟩)] w fun e w'=>e=.returned (.bool (samePair x y))∧Ext w w':=by
 obtain ⟨rfl,hi⟩:=h;clear hi;have d0':=fun ob:Obj=>Ext.some ((Ext.refl w).alloc ob) (hb.cell 0);have d1':=fun ob:Obj=>Ext.some ((Ext.refl w).alloc ob) (hb.cell 1);have RP:=fun ob:Obj=>Ext.some ((Ext.refl w).alloc ob) (hb.cell 2);have UO:=fun ob:Obj=>Ext.some ((Ext.refl w).alloc ob) (hb.cell 3);clear hb;have jl:=@kL;simp only [fM] at d0' d1' RP UO ⊢;go_enter func259,ntmps259;go_wp2_with fail;all_goals (go_ret;exact ⟨au (by rw [TA];simp [*] <;> (rw [Bool.eq_iff_iff];simp)),(Ext.refl _).alloc _⟩)
theorem kQ {S:Nat→Prop} (l:List Label) (a:Label) (v:Value) (w:World) (h:Rd aH S w v l) (r:Bool) (hr:cleared l a=r) :
 Calls prog 112 #[v,.agg (Rl a)] w fun e w'=>e=.returned (.bool r)∧Ext w w':=by
 subst hr;exact uV l a v w h
theorem iV (n a b:Int) (w:World) (r:Bool) (hr:jG n a b=r) :
 Calls prog 42 #[.int .i64 n,.int .i64 a,.int .i64 b] w fun e w'=>e=.returned (.bool r)∧w=w':=by
 subst hr;exact bI n a b w
theorem U5 {x:Pair} (h:nN x):aP x.from_:=⟨h.1,h.2.1⟩
theorem adG {x:Pair} (h:nN x):aP x.jA:=⟨h.2.2.1,h.2.2.2.1⟩
theorem Wj {S S':Nat→Prop} (x:Config) (cs:List Value) (ls:List Label) (v:Value) (w:World) (h:gV.rel S w cs x) (g:Rd aH S' w v ls) :
 Calls prog 189 #[.agg cs.toArray,v] w fun e w'=>e=.returned (.bool (iL ls x.pairs))∧Ext w w':=by
 obtain ⟨v1,v2,v3,rfl,hf,h1,h2,h3⟩:=h;have HP:=ah h2;obtain ⟨A,c,rfl,l1,l2,hk⟩:=h2.open_;unfold maxLen at l2;obtain ⟨A1,c1,rfl,-⟩:=h1.form;obtain ⟨A3,c3,rfl,-⟩:=h3.form;have HK:=ah hk;have HL:=ah g;clear hf h1 h2 h3 g hk;simp only [dN];go_enter func189,ntmps189;go_upto_region 1 with (fail)
 obtain ⟨W,B,hW,hB,hx0,b0⟩:∃ W B,W=w.alloc (.cells #[.slice A1 x.nodes.length c1,.slice A x.pairs.length c,.slice A3 x.ay.length c3,x.half] 40)∧B=w.heap.size∧Ext w W∧aF W B 40 #[.slice A1 x.nodes.length c1,.slice A x.pairs.length c,.slice A3 x.ay.length c3,x.half]:=⟨_,_,rfl,rfl,(Ext.refl w).alloc _,aF.new _ _ _⟩
 rw [← hW,← hB];have HBk:=ah b0;have HW:=ah hx0;clear hW hB hx0 b0;have e0:=HBk.out.cell 1;go_wp2_with fail;clear e0;go_loopw [11] (fun i w'=>∃ k:Nat,k≤x.pairs.length∧i=.int .i64 k∧(∀ j,j < k→jW ls x.pairs j=true)∧Ext W w') (fun i _=>x.pairs.length - (intOf i).toNat);case atStart=>exact ⟨0,by omega,rfl,fun j hj=>by omega,Ext.refl _⟩
 case round =>
  obtain ⟨k,hk1,rfl,hall,hx⟩:=hrel;have HA:=ah hall;have HX:=ah hx;clear hall;by_cases hlt:k < x.pairs.length
  · obtain ⟨b,o,cs,rfl,_,⟨rfl,hfit⟩,hc⟩:=HK.out k hlt;have lM:=ah hfit;have hxw:=HW.out.trans hx;have c0:=Ext.some hxw (hc 0 _ rfl);have c1:=Ext.some hxw (hc 1 _ rfl);have c2:=Ext.some hxw (hc 2 _ rfl);have c3:=Ext.some hxw (hc 3 _ rfl);have c4:=Ext.some hxw (hc 4 _ rfl);simp only [fA,Nat.add_zero] at c0 c1 c2 c3 c4;have e0:=Ext.some hx (HBk.out.cell 1);have hkc:k≤c:=by omega
    clear hc hfit hx hxw;go_upto_region 4 with (fail)
    obtain ⟨W5,B5,IZ,Hz,hx5,b5⟩:∃ W5 B5,W5=wr.alloc (.cells (Rp (nth x.pairs k)) 214)∧B5=wr.heap.size∧Ext wr W5∧aF W5 B5 214 (fM (nth x.pairs k)).toArray:=⟨_,_,rfl,rfl,(Ext.refl _).alloc _,aF.new _ _ _⟩
    rw [← IZ,← Hz];have X5:=ah hx5;have X05:Hid (Ext W W5):=ah (HX.out.trans hx5);have Q5:=ah b5;have e1:=Ext.some hx5 e0;clear IZ Hz hx5 b5 e0 c0 c1 c2 c3 c4;obtain ⟨s,hs⟩:∃ s,(x.pairs.take k).any (samePair (nth x.pairs k))=s:=⟨_,rfl⟩
    have HS:=ah hs;clear hs;go_upto_region 5 with (go_at_call 258;(with_reducible refine (AA (S:=S) (x.pairs.take k) (samePair (nth x.pairs k)) _ _ _ _ (by have hh:=Rd.take (k:=k) (HP.out.ext (HW.out.trans X05.out)) (by omega);exact hh) UD (fun cs y V hx hr=>YD (S:=S) (nth x.pairs k) y cs B5 V hr (Q5.out.ext hx))).mono ?_);rintro e w6 ⟨rfl,hx6⟩;rw [HS.out];have X6:=ah (X05.out.trans hx6);have Q6:=ah (Q5.out.ext hx6);clear hx6)
    have q0:=Q6.out.cell 0;have q1:=Q6.out.cell 1;have q2:=Q6.out.cell 2;have q3:=Q6.out.cell 3;have q4:=Q6.out.cell 4;simp only [fM,List.getElem?_toArray,List.getElem?_cons_succ,List.getElem?_cons_zero] at q0 q1 q2 q3 q4;clear e1;obtain ⟨t1,ht1⟩:∃ t,cleared ls (nth x.pairs k).from_=t:=⟨_,rfl⟩
    obtain ⟨t2,ht2⟩:∃ t,cleared ls (nth x.pairs k).jA=t:=⟨_,rfl⟩
    obtain ⟨t3,ht3⟩:∃ t,mW (nth x.pairs k).from_ (nth x.pairs k).jA=t:=⟨_,rfl⟩
    obtain ⟨t4,Vg⟩:∃ t,jG (nth x.pairs k).rate 1 3=t:=⟨_,rfl⟩
    have T1:=ah ht1;have T2:=ah ht2;have T3:=ah ht3;have T4:=ah Vg;clear ht1 ht2 ht3 Vg;cases s
    case' true =>
     have HF:Hid (iL ls x.pairs=false):=ah (kC hlt (by simp [jW,sF,HS.out]))
    case' false =>
     cases t1
     case' false =>
      have HF:Hid (iL ls x.pairs=false):=ah (kC hlt (by simp [jW,sF,T1.out]))
     case' true =>
      cases t2
      case' false =>
       have HF:Hid (iL ls x.pairs=false):=ah (kC hlt (by simp [jW,sF,T2.out]))
      case' true =>
       cases t3
       case' true =>
        have HF:Hid (iL ls x.pairs=false):=ah (kC hlt (by simp [jW,sF,T3.out]))
       case' false =>
        cases t4
        case' false =>
         have HF:Hid (iL ls x.pairs=false):=ah (kC hlt (by simp [jW,sF,T4.out]))
        case' true =>
         have HG:=ah (all_succ (p:=fun j=>jW ls x.pairs j=true) HA.out (by simp [jW,sF,HS.out,T1.out,T2.out,T3.out,T4.out]))
    all_goals go_wp2_with (first | (go_at_call 112;(with_reducible refine (kQ (S:=S') ls (nth x.pairs k).from_ _ _ (HL.out.ext (HW.out.trans X6.out)) _ T1.out).mono ?_);rintro e w7 ⟨rfl,hx7⟩;replace X6:=ah (X6.out.trans hx7);replace Q6:=ah (Q6.out.ext hx7);clear hx7 q0 q1 q2 q3 q4;have q0:=Q6.out.cell 0;have q1:=Q6.out.cell 1;have q2:=Q6.out.cell 2;have q3:=Q6.out.cell 3;have q4:=Q6.out.cell 4;simp only [fM,List.getElem?_toArray,List.getElem?_cons_succ,List.getElem?_cons_zero] at q0 q1 q2 q3 q4) | (go_at_call 112;(with_reducible refine (kQ (S:=S') ls (nth x.pairs k).jA _ _ (HL.out.ext (HW.out.trans X6.out)) _ T2.out).mono ?_);rintro e w7 ⟨rfl,hx7⟩;replace X6:=ah (X6.out.trans hx7);replace Q6:=ah (Q6.out.ext hx7);clear hx7 q0 q1 q2 q3 q4;have q0:=Q6.out.cell 0;have q1:=Q6.out.cell 1;have q2:=Q6.out.cell 2;have q3:=Q6.out.cell 3;have q4:=Q6.out.cell 4;simp only [fM,List.getElem?_toArray,List.getElem?_cons_succ,List.getElem?_cons_zero] at q0 q1 q2 q3 q4) | (go_at_call 260;(with_reducible refine (Kz (S:=S) (S':=S) (nth x.pairs k).from_ (nth x.pairs k).jA _ _ _ (aC (U5 lM.out)) (aC (adG lM.out)) _ T3.out).mono ?_);rintro e w7 ⟨rfl,hx7⟩;replace X6:=ah (X6.out.trans hx7);replace Q6:=ah (Q6.out.ext hx7);clear hx7 q0 q1 q2 q3 q4;have q0:=Q6.out.cell 0;have q1:=Q6.out.cell 1;have q2:=Q6.out.cell 2;have q3:=Q6.out.cell 3;have q4:=Q6.out.cell 4;simp only [fM,List.getElem?_toArray,List.getElem?_cons_succ,List.getElem?_cons_zero] at q0 q1 q2 q3 q4) | (go_at_call 42;(with_reducible refine (iV _ _ _ _ _ T4.out).mono ?_);rintro e w8 ⟨rfl,rfl⟩))
    all_goals (try (go_ret;exact ⟨au HF.out.symm,HW.out.trans X6.out⟩))
    go_roundw;case rel=>exact ⟨k+1,by omega,by go_num,HG.out,X6.out⟩
    case measure=>simp [intOf];omega
  · have HF:Hid (iL ls x.pairs=decide (x.pairs.length≤4)):=ah (Nj fun j hj=>HA.out j (by omega));have e0:=Ext.some hx (HBk.out.cell 1);clear hx;go_wp2_with fail;go_ret;exact ⟨au (by rw [HF.out];simp;try omega),HW.out.trans HX.out⟩
theorem CY {S S':Nat→Prop} (a b:Label) (cs ds:List Value) (w:World) (h:aH.rel S w cs a) (g:aH.rel S' w ds b) (r:Int) (hr:bW a b=r) :
 Calls prog 117 #[.agg cs.toArray,.agg ds.toArray] w fun e w'=>e=.returned (.int .i64 r)∧Ext w w':=by
 subst hr;exact qg a b cs ds w h g
theorem Ad {x:jk} (h:rE x):aP x.label:=⟨h.1,h.2.1⟩
theorem Je {ls:List Label} {qs:List jk} {k:Nat} (h:fK ls qs k=true):(nth qs k).label∈ls:=by
 simp only [fK,Bool.and_eq_true] at h;exact jZ.1 h.1.1
theorem Tq {S S':Nat→Prop} (x:Config) (cs:List Value) (ls:List Label) (v:Value) (w:World) (h:gV.rel S w cs x) (g:Rd aH S' w v ls) (hu:Up ls) (hr:∀ a∈ls,aA a=true) (h8:ls.length≤8) :
 Calls prog 190 #[.agg cs.toArray,v] w fun e w'=>e=.returned (.bool (gY ls x.ay))∧Ext w w':=by
 obtain ⟨v1,v2,v3,rfl,hf,h1,h2,h3⟩:=h;obtain ⟨A,c,rfl,l1,l2,hk⟩:=h3.open_;unfold maxLen at l2;obtain ⟨A1,c1,rfl,-⟩:=h1.form;obtain ⟨A3,c3,rfl,-⟩:=h2.form;obtain ⟨AL,cL,rfl,-⟩:=g.form;have HK:=ah hk;have HL:=ah g;have HU:=ah hu;have HRt:=ah hr;have H8:=ah h8;clear hf h1 h2 h3 g hk hu hr h8;simp only [dN];go_enter func190,ntmps190;go_upto_region 1 with (fail)
 obtain ⟨W,B,hW,hB,hx0,b0⟩:∃ W B,W=w.alloc (.cells #[.slice A1 x.nodes.length c1,.slice A3 x.pairs.length c3,.slice A x.ay.length c,x.half] 40)∧B=w.heap.size∧Ext w W∧aF W B 40 #[.slice A1 x.nodes.length c1,.slice A3 x.pairs.length c3,.slice A x.ay.length c,x.half]:=⟨_,_,rfl,rfl,(Ext.refl w).alloc _,aF.new _ _ _⟩
 rw [← hW,← hB];have HBk:=ah b0;have HW:=ah hx0;clear hW hB hx0 b0;have e0:=HBk.out.cell 2;go_wp2_with fail;clear e0;go_loopw [10] (fun i w'=>∃ k:Nat,k≤x.ay.length∧i=.int .i64 k∧(∀ j,j < k→fK ls x.ay j=true)∧Ext W w') (fun i _=>x.ay.length - (intOf i).toNat);case atStart=>exact ⟨0,by omega,rfl,fun j hj=>by omega,Ext.refl _⟩
 case round =>
  obtain ⟨k,hk1,rfl,hall,hx⟩:=hrel;have HA:=ah hall;have HX:=ah hx;clear hall;by_cases hlt:k < x.ay.length
  · obtain ⟨b,o,cs,rfl,_,⟨rfl,hfit⟩,hc⟩:=HK.out k hlt;have lM:=ah hfit;have hxw:=HW.out.trans hx;have c0:=Ext.some hxw (hc 0 _ rfl);have c1:=Ext.some hxw (hc 1 _ rfl);have c2:=Ext.some hxw (hc 2 _ rfl);simp only [dJ,Nat.add_zero] at c0 c1 c2;have e0:=Ext.some hx (HBk.out.cell 2);clear hc hfit hx hxw;go_upto_region 4 with (fail)
    obtain ⟨W5,B5,IZ,Hz,hx5,b5⟩:∃ W5 B5,W5=wr.alloc (.cells (Rq (nth x.ay k)) 205)∧B5=wr.heap.size∧Ext wr W5∧aF W5 B5 205 (Rq (nth x.ay k)):=⟨_,_,rfl,rfl,(Ext.refl _).alloc _,aF.new _ _ _⟩
    rw [← IZ,← Hz];have X05:Hid (Ext W W5):=ah (HX.out.trans hx5);have XK:Hid (Ext wr W5):=ah hx5;have q0:=b5.cell 0;have q1:=b5.cell 1;have q2:=b5.cell 2;have e1:=Ext.some hx5 e0;clear IZ Hz hx5 b5 e0 c0 c1 c2;obtain ⟨t1,ht1⟩:∃ t,cleared ls (nth x.ay k).label=t:=⟨_,rfl⟩
    obtain ⟨t2,ht2⟩:∃ t,jG (nth x.ay k).most 1 9=t:=⟨_,rfl⟩
    have T1:=ah ht1;have T2:=ah ht2;clear ht1 ht2;cases t1 with
    | false =>
      have HF:Hid (gY ls x.ay=false):=ah (nV hlt (by simp [fK,T1.out]));refine ak (by kernel_rfl) (by kernel_rfl) ?_;repeat (
       (refine wpQuiet_step (fun K hK=>?_)
        go_simp;first
         | (refine hK _ ?_;clear hK K)
         | (apply Exists.intro
            refine ⟨fun bH aj=>?_,hK _ ?_⟩
            · have Wx:=Ext.some aj q0;have Wy:=Ext.some aj q1;have YE:=Ext.some aj q2;have lX:=Ext.some aj e1;first | exact rfl | (go_simp;done) | (go_simp;exact rfl) | (go_at_call 112;exact aJ aj (kQ (S:=S') ls (nth x.ay k).label _ _ (HL.out.ext (HW.out.trans (X05.out.trans aj))) _ T1.out)) | (go_at_call 42;exact aN aj (iV _ _ _ _ _ T2.out))
            clear hK K)))
      refine wpQuiet_nil ?_;intro w1 hx1;have HE:=ah hx1;clear q0 q1 q2 e1 hx1;go_wp2_with fail;go_ret;exact ⟨au HF.out.symm,HW.out.trans (X05.out.trans HE.out)⟩
    | true =>
      cases t2 with
      | false =>
        have HF:Hid (gY ls x.ay=false):=ah (nV hlt (by simp [fK,T2.out]));refine ak (by kernel_rfl) (by kernel_rfl) ?_;repeat (
         (refine wpQuiet_step (fun K hK=>?_)
          go_simp;first
           | (refine hK _ ?_;clear hK K)
           | (apply Exists.intro
              refine ⟨fun bH aj=>?_,hK _ ?_⟩
              · have Wx:=Ext.some aj q0;have Wy:=Ext.some aj q1;have YE:=Ext.some aj q2;have lX:=Ext.some aj e1;first | exact rfl | (go_simp;done) | (go_simp;exact rfl) | (go_at_call 112;exact aJ aj (kQ (S:=S') ls (nth x.ay k).label _ _ (HL.out.ext (HW.out.trans (X05.out.trans aj))) _ T1.out)) | (go_at_call 42;exact aN aj (iV _ _ _ _ _ T2.out))
              clear hK K)))
        refine wpQuiet_nil ?_;intro w1 hx1;have HE:=ah hx1;clear q0 q1 q2 e1 hx1;go_wp2_with fail;go_ret;exact ⟨au HF.out.symm,HW.out.trans (X05.out.trans HE.out)⟩
      | true =>
        by_cases hk0:0 < k
        · obtain ⟨m,rfl⟩:∃ m,k=m+1:=⟨k - 1,by omega⟩
          obtain ⟨b',o',ds,hA',_,⟨rfl,hfm⟩,hd⟩:=HK.out m (by omega);injection hA' with hA'
          injection hA' with g1 g2
          subst g1;subst g2;have HFm:=ah hfm;have hxw:=HW.out.trans X05.out;have d0:=Ext.some hxw (hd 0 _ rfl);have d1:=Ext.some hxw (hd 1 _ rfl);have d2:=Ext.some hxw (hd 2 _ rfl);simp only [dJ,Nat.add_zero] at d0 d1 d2;clear hd hfm hxw d2;have i0:(0:Int)≤(m:Int)+1:=by omega
          have i1:(m:Int)+1 < (x.ay.length:Int):=by omega
          have i2:((m:Int)+1).toNat=m+1:=by omega
          have i3:IntKind.i64.wrap (m:Int)=(m:Int):=IntWalk.i64_in _ (by omega);have i4:m < x.ay.length:=by omega
          have KY:=ah (Cb (HRt.out _ (Je (HA.out m (by omega)))) (HRt.out _ (jZ.1 T1.out)));obtain ⟨z,hz⟩:∃ z,bW (nth x.ay m).label (nth x.ay (m+1)).label=z:=⟨_,rfl⟩
          have TZ:=ah hz;clear hz;by_cases hz0:(0:Int)≤z
          · have HF:Hid (gY ls x.ay=false):=ah (nV hlt (by have:=KY.out.1;rw [TZ.out] at this;simp [fK,T1.out,T2.out];omega));refine ak (by kernel_rfl) (by kernel_rfl) ?_;repeat (
             (refine wpQuiet_step (fun K hK=>?_)
              go_simp;first
               | (refine hK _ ?_;clear hK K)
               | (apply Exists.intro
                  refine ⟨fun bH aj=>?_,hK _ ?_⟩
                  · have Wx:=Ext.some aj q0;have Wy:=Ext.some aj q1;have YE:=Ext.some aj q2;have lX:=Ext.some aj e1;have jH:=Ext.some aj d0;have kJ:=Ext.some aj d1;first | exact rfl | (go_simp;done) | (go_simp;exact rfl) | (go_at_call 112;exact aJ aj (kQ (S:=S') ls (nth x.ay (m+1)).label _ _ (HL.out.ext (HW.out.trans (X05.out.trans aj))) _ T1.out)) | (go_at_call 42;exact aN aj (iV _ _ _ _ _ T2.out)) | (go_at_call 117;exact aJ aj (CY (S:=S) (S':=S) (nth x.ay m).label (nth x.ay (m+1)).label _ _ _ (aC (Ad HFm.out)) (aC (Ad lM.out)) _ TZ.out))
                  clear hK K)))
            refine wpQuiet_nil ?_;intro w1 hx1;have HE:=ah hx1;clear q0 q1 q2 e1 d0 d1 hx1;go_wp2_with fail;go_ret;exact ⟨au HF.out.symm,HW.out.trans (X05.out.trans HE.out)⟩
          · have HZ:=ah hz0;have HG:=ah (all_succ (p:=fun j=>fK ls x.ay j=true) HA.out (by have:=KY.out.1;have h0:=HZ.out;rw [TZ.out] at this;simp [fK,T1.out,T2.out];omega));refine ak (by kernel_rfl) (by kernel_rfl) ?_;repeat (
             (refine wpQuiet_step (fun K hK=>?_)
              go_simp;first
               | (refine hK _ ?_;clear hK K)
               | (apply Exists.intro
                  refine ⟨fun bH aj=>?_,hK _ ?_⟩
                  · have Wx:=Ext.some aj q0;have Wy:=Ext.some aj q1;have YE:=Ext.some aj q2;have lX:=Ext.some aj e1;have jH:=Ext.some aj d0;have kJ:=Ext.some aj d1;first | exact rfl | (go_simp;done) | (go_simp;exact rfl) | (go_at_call 112;exact aJ aj (kQ (S:=S') ls (nth x.ay (m+1)).label _ _ (HL.out.ext (HW.out.trans (X05.out.trans aj))) _ T1.out)) | (go_at_call 42;exact aN aj (iV _ _ _ _ _ T2.out)) | (go_at_call 117;exact aJ aj (CY (S:=S) (S':=S) (nth x.ay m).label (nth x.ay (m+1)).label _ _ _ (aC (Ad HFm.out)) (aC (Ad lM.out)) _ TZ.out))
                  clear hK K)))
            refine wpQuiet_nil ?_;intro w1 hx1;have HE:=ah hx1;clear q0 q1 q2 e1 d0 d1 hx1;go_wp2_with fail;go_roundw;case rel=>exact ⟨m+1+1,by omega,by go_num,HG.out,X05.out.trans HE.out⟩
            case measure=>simp [intOf];omega
        · obtain rfl:k=0:=by omega
          have HG:=ah (all_succ (p:=fun j=>fK ls x.ay j=true) HA.out (by simp [fK,T1.out,T2.out]));refine ak (by kernel_rfl) (by kernel_rfl) ?_;repeat (
           (refine wpQuiet_step (fun K hK=>?_)
            go_simp;first
             | (refine hK _ ?_;clear hK K)
             | (apply Exists.intro
                refine ⟨fun bH aj=>?_,hK _ ?_⟩
                · have Wx:=Ext.some aj q0;have Wy:=Ext.some aj q1;have YE:=Ext.some aj q2;have lX:=Ext.some aj e1;first | exact rfl | (go_simp;done) | (go_simp;exact rfl) | (go_at_call 112;exact aJ aj (kQ (S:=S') ls (nth x.ay 0).label _ _ (HL.out.ext (HW.out.trans (X05.out.trans aj))) _ T1.out)) | (go_at_call 42;exact aN aj (iV _ _ _ _ _ T2.out))
                clear hK K)))
          refine wpQuiet_nil ?_;intro w1 hx1;have HE:=ah hx1;clear q0 q1 q2 e1 hx1;go_wp2_with fail;go_roundw;case rel=>exact ⟨1,by omega,by go_num,HG.out,X05.out.trans HE.out⟩
          case measure=>simp [intOf];omega
  · have HF:Hid (gY ls x.ay=true):=ah (WB HU.out H8.out fun j hj=>HA.out j (by omega));clear hx;go_wp2_with fail;go_ret;exact ⟨au HF.out.symm,HW.out.trans HX.out⟩
theorem l7 {S:Nat→Prop} (ns:List (List Label)) (v:Value) (w:World) (h:Rd (gU aH) S w v ns) (r:Bool) (hr:fJ ns=r) :
 Calls prog 188 #[v] w fun e w'=>e=.returned (.bool r)∧Ext w w':=by
 subst hr;exact KN ns v w h
theorem Dx {S S':Nat→Prop} (x:Config) (cs:List Value) (ls:List Label) (v:Value) (w:World) (h:gV.rel S w cs x) (g:Rd aH S' w v ls) (r:Bool) (hr:iL ls x.pairs=r) :
 Calls prog 189 #[.agg cs.toArray,v] w fun e w'=>e=.returned (.bool r)∧Ext w w':=by
 subst hr;exact Wj x cs ls v w h g
theorem zG {S S':Nat→Prop} (x:Config) (cs:List Value) (ls:List Label) (v:Value) (w:World) (h:gV.rel S w cs x) (g:Rd aH S' w v ls) (hu:Up ls) (hr:∀ a∈ls,aA a=true) (h8:ls.length≤8) (r:Bool) (hq:gY ls x.ay=r) :
 Calls prog 190 #[.agg cs.toArray,v] w fun e w'=>e=.returned (.bool r)∧Ext w w':=by
 subst hq;exact Tq x cs ls v w h g hu hr h8
theorem JA {S:Nat→Prop} (x:Config) (cs:List Value) (w:World) (h:gV.rel S w cs x) :
 Calls prog 99 #[.agg cs.toArray] w fun e w'=>e=.returned (.bool (aU x))∧Ext w w':=by
 obtain ⟨v1,v2,v3,rfl,hf,h1,h2,h3⟩:=h;obtain ⟨A1,c1,rfl,-⟩:=h1.form;obtain ⟨A2,c2,rfl,-⟩:=h2.form;obtain ⟨A3,c3,rfl,-⟩:=h3.form;have HF:=ah hf;have H1:=ah h1;have H2:=ah h2;have H3:=ah h3;clear hf h1 h2 h3;simp only [dN];go_enter func99,ntmps99;go_upto_region 1 with (fail)
 obtain ⟨W,B,hW,hB,hx0,b0⟩:∃ W B,W=w.alloc (.cells #[.slice A1 x.nodes.length c1,.slice A2 x.pairs.length c2,.slice A3 x.ay.length c3,x.half] 40)∧B=w.heap.size∧Ext w W∧aF W B 40 #[.slice A1 x.nodes.length c1,.slice A2 x.pairs.length c2,.slice A3 x.ay.length c3,x.half]:=⟨_,_,rfl,rfl,(Ext.refl _).alloc _,aF.new _ _ _⟩
 rw [← hW,← hB];have Q:=ah b0;have X:=ah hx0;clear hW hB hx0 b0;have q0:=Q.out.cell 0;have q1:=Q.out.cell 1;have q2:=Q.out.cell 2;have q3:=Q.out.cell 3;simp only [List.getElem?_toArray,List.getElem?_cons_succ,List.getElem?_cons_zero] at q0 q1 q2 q3;obtain ⟨t1,ht1⟩:∃ t,fJ x.nodes=t:=⟨_,rfl⟩
 obtain ⟨t2,ht2⟩:∃ t,jG x.half 1 9=t:=⟨_,rfl⟩
 obtain ⟨t3,ht3⟩:∃ t,iL (labelsIn x.nodes) x.pairs=t:=⟨_,rfl⟩
 obtain ⟨t4,Vg⟩:∃ t,gY (labelsIn x.nodes) x.ay=t:=⟨_,rfl⟩
 have T1:=ah ht1;have T2:=ah ht2;have T3:=ah ht3;have T4:=ah Vg;have LR:Hid (∀ a∈labelsIn x.nodes,aA a=true):=ah fun a=>kS;have LU:Hid (Up (labelsIn x.nodes)):=ah (Ue _ _);clear ht1 ht2 ht3 Vg;cases t1 with
 | false =>
   have HN:Hid (aU x=false):=ah (by simp [aU,T1.out]);go_wp2_with (first | (go_at_call 188;(with_reducible refine (l7 (S:=S) x.nodes _ _ (H1.out.ext X.out) _ T1.out).mono ?_);rintro e w7 ⟨rfl,hx7⟩;replace X:=ah (X.out.trans hx7);replace Q:=ah (Q.out.ext hx7);clear hx7 q0 q1 q2 q3;have q0:=Q.out.cell 0;have q1:=Q.out.cell 1;have q2:=Q.out.cell 2;have q3:=Q.out.cell 3;simp only [List.getElem?_toArray,List.getElem?_cons_succ,List.getElem?_cons_zero] at q0 q1 q2 q3) | (go_at_call 42;(with_reducible refine (iV _ _ _ _ _ T2.out).mono ?_);rintro e w8 ⟨rfl,rfl⟩));go_ret;exact ⟨au HN.out.symm,X.out⟩
 | true =>
   cases t2 with
   | false =>
     have HN:Hid (aU x=false):=ah (by simp [aU,T1.out,T2.out]);go_wp2_with (first | (go_at_call 188;(with_reducible refine (l7 (S:=S) x.nodes _ _ (H1.out.ext X.out) _ T1.out).mono ?_);rintro e w7 ⟨rfl,hx7⟩;replace X:=ah (X.out.trans hx7);replace Q:=ah (Q.out.ext hx7);clear hx7 q0 q1 q2 q3;have q0:=Q.out.cell 0;have q1:=Q.out.cell 1;have q2:=Q.out.cell 2;have q3:=Q.out.cell 3;simp only [List.getElem?_toArray,List.getElem?_cons_succ,List.getElem?_cons_zero] at q0 q1 q2 q3) | (go_at_call 42;(with_reducible refine (iV _ _ _ _ _ T2.out).mono ?_);rintro e w8 ⟨rfl,rfl⟩));go_ret;exact ⟨au HN.out.symm,X.out⟩
   | true =>
     by_cases h8:(labelsIn x.nodes).length≤8
     · have H8:=ah h8;cases t3 with
       | false =>
         have HN:Hid (aU x=false):=ah (by simp [aU,T1.out,T2.out,T3.out]);go_wp2_with (first | (first | (go_at_call 188;(with_reducible refine (l7 (S:=S) x.nodes _ _ (H1.out.ext X.out) _ T1.out).mono ?_);rintro e w7 ⟨rfl,hx7⟩;replace X:=ah (X.out.trans hx7);replace Q:=ah (Q.out.ext hx7);clear hx7 q0 q1 q2 q3;have q0:=Q.out.cell 0;have q1:=Q.out.cell 1;have q2:=Q.out.cell 2;have q3:=Q.out.cell 3;simp only [List.getElem?_toArray,List.getElem?_cons_succ,List.getElem?_cons_zero] at q0 q1 q2 q3) | (go_at_call 42;(with_reducible refine (iV _ _ _ _ _ T2.out).mono ?_);rintro e w8 ⟨rfl,rfl⟩)) | (go_at_call 105;(with_reducible refine (qM (S:=S) x [.slice A1 x.nodes.length c1,.slice A2 x.pairs.length c2,.slice A3 x.ay.length c3,x.half] _ (aY HF.out (H1.out.ext X.out) (H2.out.ext X.out) (H3.out.ext X.out)) T1.out).mono ?_);rintro e w7 ⟨vL,FL,rfl,oL,-,hx7⟩;obtain ⟨AL,cL,rfl,-⟩:=oL.form;have OL:=ah oL;clear oL;replace X:=ah (X.out.trans hx7);replace Q:=ah (Q.out.ext hx7);clear hx7 q0 q1 q2 q3;have q0:=Q.out.cell 0;have q1:=Q.out.cell 1;have q2:=Q.out.cell 2;have q3:=Q.out.cell 3;simp only [List.getElem?_toArray,List.getElem?_cons_succ,List.getElem?_cons_zero] at q0 q1 q2 q3) | (go_at_call 189;(with_reducible refine (Dx (S:=S) (S':=fun b=>b∈FL) x [.slice A1 x.nodes.length c1,.slice A2 x.pairs.length c2,.slice A3 x.ay.length c3,x.half] (labelsIn x.nodes) _ _ (aY HF.out (H1.out.ext X.out) (H2.out.ext X.out) (H3.out.ext X.out)) OL.out.rd _ T3.out).mono ?_);rintro e w7 ⟨rfl,hx7⟩;replace OL:=ah (OL.out.ext hx7);replace X:=ah (X.out.trans hx7);replace Q:=ah (Q.out.ext hx7);clear hx7 q0 q1 q2 q3;have q0:=Q.out.cell 0;have q1:=Q.out.cell 1;have q2:=Q.out.cell 2;have q3:=Q.out.cell 3;simp only [List.getElem?_toArray,List.getElem?_cons_succ,List.getElem?_cons_zero] at q0 q1 q2 q3) | (go_at_call 190;(with_reducible refine (zG (S:=S) (S':=fun b=>b∈FL) x [.slice A1 x.nodes.length c1,.slice A2 x.pairs.length c2,.slice A3 x.ay.length c3,x.half] (labelsIn x.nodes) _ _ (aY HF.out (H1.out.ext X.out) (H2.out.ext X.out) (H3.out.ext X.out)) OL.out.rd LU.out LR.out H8.out _ T4.out).mono ?_);rintro e w7 ⟨rfl,hx7⟩;replace OL:=ah (OL.out.ext hx7);replace X:=ah (X.out.trans hx7);replace Q:=ah (Q.out.ext hx7);clear hx7 q0 q1 q2 q3;have q0:=Q.out.cell 0;have q1:=Q.out.cell 1;have q2:=Q.out.cell 2;have q3:=Q.out.cell 3;simp only [List.getElem?_toArray,List.getElem?_cons_succ,List.getElem?_cons_zero] at q0 q1 q2 q3));go_ret;exact ⟨au HN.out.symm,X.out⟩
       | true =>
         cases t4 with
         | false =>
           have HN:Hid (aU x=false):=ah (by simp [aU,T1.out,T2.out,T3.out,T4.out]);go_wp2_with (first | (first | (go_at_call 188;(with_reducible refine (l7 (S:=S) x.nodes _ _ (H1.out.ext X.out) _ T1.out).mono ?_);rintro e w7 ⟨rfl,hx7⟩;replace X:=ah (X.out.trans hx7);replace Q:=ah (Q.out.ext hx7);clear hx7 q0 q1 q2 q3;have q0:=Q.out.cell 0;have q1:=Q.out.cell 1;have q2:=Q.out.cell 2;have q3:=Q.out.cell 3;simp only [List.getElem?_toArray,List.getElem?_cons_succ,List.getElem?_cons_zero] at q0 q1 q2 q3) | (go_at_call 42;(with_reducible refine (iV _ _ _ _ _ T2.out).mono ?_);rintro e w8 ⟨rfl,rfl⟩)) | (go_at_call 105;(with_reducible refine (qM (S:=S) x [.slice A1 x.nodes.length c1,.slice A2 x.pairs.length c2,.slice A3 x.ay.length c3,x.half] _ (aY HF.out (H1.out.ext X.out) (H2.out.ext X.out) (H3.out.ext X.out)) T1.out).mono ?_);rintro e w7 ⟨vL,FL,rfl,oL,-,hx7⟩;obtain ⟨AL,cL,rfl,-⟩:=oL.form;have OL:=ah oL;clear oL;replace X:=ah (X.out.trans hx7);replace Q:=ah (Q.out.ext hx7);clear hx7 q0 q1 q2 q3;have q0:=Q.out.cell 0;have q1:=Q.out.cell 1;have q2:=Q.out.cell 2;have q3:=Q.out.cell 3;simp only [List.getElem?_toArray,List.getElem?_cons_succ,List.getElem?_cons_zero] at q0 q1 q2 q3) | (go_at_call 189;(with_reducible refine (Dx (S:=S) (S':=fun b=>b∈FL) x [.slice A1 x.nodes.length c1,.slice A2 x.pairs.length c2,.slice A3 x.ay.length c3,x.half] (labelsIn x.nodes) _ _ (aY HF.out (H1.out.ext X.out) (H2.out.ext X.out) (H3.out.ext X.out)) OL.out.rd _ T3.out).mono ?_);rintro e w7 ⟨rfl,hx7⟩;replace OL:=ah (OL.out.ext hx7);replace X:=ah (X.out.trans hx7);replace Q:=ah (Q.out.ext hx7);clear hx7 q0 q1 q2 q3;have q0:=Q.out.cell 0;have q1:=Q.out.cell 1;have q2:=Q.out.cell 2;have q3:=Q.out.cell 3;simp only [List.getElem?_toArray,List.getElem?_cons_succ,List.getElem?_cons_zero] at q0 q1 q2 q3) | (go_at_call 190;(with_reducible refine (zG (S:=S) (S':=fun b=>b∈FL) x [.slice A1 x.nodes.length c1,.slice A2 x.pairs.length c2,.slice A3 x.ay.length c3,x.half] (labelsIn x.nodes) _ _ (aY HF.out (H1.out.ext X.out) (H2.out.ext X.out) (H3.out.ext X.out)) OL.out.rd LU.out LR.out H8.out _ T4.out).mono ?_);rintro e w7 ⟨rfl,hx7⟩;replace OL:=ah (OL.out.ext hx7);replace X:=ah (X.out.trans hx7);replace Q:=ah (Q.out.ext hx7);clear hx7 q0 q1 q2 q3;have q0:=Q.out.cell 0;have q1:=Q.out.cell 1;have q2:=Q.out.cell 2;have q3:=Q.out.cell 3;simp only [List.getElem?_toArray,List.getElem?_cons_succ,List.getElem?_cons_zero] at q0 q1 q2 q3));go_ret;exact ⟨au HN.out.symm,X.out⟩
         | true =>
           have HN:Hid (aU x=true):=ah (by simp [aU,T1.out,T2.out,T3.out,T4.out,H8.out]);go_wp2_with (first | (first | (go_at_call 188;(with_reducible refine (l7 (S:=S) x.nodes _ _ (H1.out.ext X.out) _ T1.out).mono ?_);rintro e w7 ⟨rfl,hx7⟩;replace X:=ah (X.out.trans hx7);replace Q:=ah (Q.out.ext hx7);clear hx7 q0 q1 q2 q3;have q0:=Q.out.cell 0;have q1:=Q.out.cell 1;have q2:=Q.out.cell 2;have q3:=Q.out.cell 3;simp only [List.getElem?_toArray,List.getElem?_cons_succ,List.getElem?_cons_zero] at q0 q1 q2 q3) | (go_at_call 42;(with_reducible refine (iV _ _ _ _ _ T2.out).mono ?_);rintro e w8 ⟨rfl,rfl⟩)) | (go_at_call 105;(with_reducible refine (qM (S:=S) x [.slice A1 x.nodes.length c1,.slice A2 x.pairs.length c2,.slice A3 x.ay.length c3,x.half] _ (aY HF.out (H1.out.ext X.out) (H2.out.ext X.out) (H3.out.ext X.out)) T1.out).mono ?_);rintro e w7 ⟨vL,FL,rfl,oL,-,hx7⟩;obtain ⟨AL,cL,rfl,-⟩:=oL.form;have OL:=ah oL;clear oL;replace X:=ah (X.out.trans hx7);replace Q:=ah (Q.out.ext hx7);clear hx7 q0 q1 q2 q3;have q0:=Q.out.cell 0;have q1:=Q.out.cell 1;have q2:=Q.out.cell 2;have q3:=Q.out.cell 3;simp only [List.getElem?_toArray,List.getElem?_cons_succ,List.getElem?_cons_zero] at q0 q1 q2 q3) | (go_at_call 189;(with_reducible refine (Dx (S:=S) (S':=fun b=>b∈FL) x [.slice A1 x.nodes.length c1,.slice A2 x.pairs.length c2,.slice A3 x.ay.length c3,x.half] (labelsIn x.nodes) _ _ (aY HF.out (H1.out.ext X.out) (H2.out.ext X.out) (H3.out.ext X.out)) OL.out.rd _ T3.out).mono ?_);rintro e w7 ⟨rfl,hx7⟩;replace OL:=ah (OL.out.ext hx7);replace X:=ah (X.out.trans hx7);replace Q:=ah (Q.out.ext hx7);clear hx7 q0 q1 q2 q3;have q0:=Q.out.cell 0;have q1:=Q.out.cell 1;have q2:=Q.out.cell 2;have q3:=Q.out.cell 3;simp only [List.getElem?_toArray,List.getElem?_cons_succ,List.getElem?_cons_zero] at q0 q1 q2 q3) | (go_at_call 190;(with_reducible refine (zG (S:=S) (S':=fun b=>b∈FL) x [.slice A1 x.nodes.length c1,.slice A2 x.pairs.length c2,.slice A3 x.ay.length c3,x.half] (labelsIn x.nodes) _ _ (aY HF.out (H1.out.ext X.out) (H2.out.ext X.out) (H3.out.ext X.out)) OL.out.rd LU.out LR.out H8.out _ T4.out).mono ?_);rintro e w7 ⟨rfl,hx7⟩;replace OL:=ah (OL.out.ext hx7);replace X:=ah (X.out.trans hx7);replace Q:=ah (Q.out.ext hx7);clear hx7 q0 q1 q2 q3;have q0:=Q.out.cell 0;have q1:=Q.out.cell 1;have q2:=Q.out.cell 2;have q3:=Q.out.cell 3;simp only [List.getElem?_toArray,List.getElem?_cons_succ,List.getElem?_cons_zero] at q0 q1 q2 q3));go_ret;exact ⟨au HN.out.symm,X.out⟩
     · have H8:=ah h8;have HN:Hid (aU x=false):=ah (by simp [aU,T1.out,T2.out,H8.out]);go_wp2_with (first | (first | (go_at_call 188;(with_reducible refine (l7 (S:=S) x.nodes _ _ (H1.out.ext X.out) _ T1.out).mono ?_);rintro e w7 ⟨rfl,hx7⟩;replace X:=ah (X.out.trans hx7);replace Q:=ah (Q.out.ext hx7);clear hx7 q0 q1 q2 q3;have q0:=Q.out.cell 0;have q1:=Q.out.cell 1;have q2:=Q.out.cell 2;have q3:=Q.out.cell 3;simp only [List.getElem?_toArray,List.getElem?_cons_succ,List.getElem?_cons_zero] at q0 q1 q2 q3) | (go_at_call 42;(with_reducible refine (iV _ _ _ _ _ T2.out).mono ?_);rintro e w8 ⟨rfl,rfl⟩)) | (go_at_call 105;(with_reducible refine (qM (S:=S) x [.slice A1 x.nodes.length c1,.slice A2 x.pairs.length c2,.slice A3 x.ay.length c3,x.half] _ (aY HF.out (H1.out.ext X.out) (H2.out.ext X.out) (H3.out.ext X.out)) T1.out).mono ?_);rintro e w7 ⟨vL,FL,rfl,oL,-,hx7⟩;obtain ⟨AL,cL,rfl,-⟩:=oL.form;have OL:=ah oL;clear oL;replace X:=ah (X.out.trans hx7);replace Q:=ah (Q.out.ext hx7);clear hx7 q0 q1 q2 q3;have q0:=Q.out.cell 0;have q1:=Q.out.cell 1;have q2:=Q.out.cell 2;have q3:=Q.out.cell 3;simp only [List.getElem?_toArray,List.getElem?_cons_succ,List.getElem?_cons_zero] at q0 q1 q2 q3));go_ret;exact ⟨au HN.out.symm,X.out⟩
theorem iE {S:Nat→Prop} (x:Config) (cs:List Value) (w:World) (h:gV.rel S w cs x) (r:Bool) (hr:aU x=r) :
 Calls prog 99 #[.agg cs.toArray] w fun e w'=>e=.returned (.bool r)∧Ext w w':=by
 subst hr;exact JA x cs w h
theorem Eo {x:Config} (h:aU x=true):fJ x.nodes=true:=by
 simp only [aU,Bool.and_eq_true] at h;exact h.1.1
theorem SY {α:Type} [Inhabited α] {E:Elem α} {O:Own E} {T:TypeId} {w:World} {B:Nat} (hb:aF w B T #[]):aW O T w (.slice (some ⟨B,0,none⟩) 0 0) [] [B] :=
 .inr ⟨B,0,#[],[],rfl,hb,Nat.le_refl _,Nat.zero_le _,by simp,rfl,rfl,by simp,fun k hk=>absurd hk (Nat.not_lt_zero _)⟩
theorem oK {S:Nat→Prop} (x:Config) (cs:List Value) (a:Label) (w:World) (h:gV.rel S w cs x) (hn:x.nodes.length≤6) :
 Calls prog 113 #[.agg cs.toArray,.agg (Rl a)] w (kX jD 2 (eP x.nodes a x.nodes.length) w):=by
 obtain ⟨v1,v2,v3,rfl,hf,h1,h2,h3⟩:=h;obtain ⟨A1,c1,rfl,l1,l2,hk⟩:=h1.open_;unfold maxLen at l2;obtain ⟨A2,c2,rfl,-⟩:=h2.form;obtain ⟨A3,c3,rfl,-⟩:=h3.form;have HK:=ah hk;have HN:=ah hn;clear hf h1 h2 h3 hk hn;simp only [dN];go_enter func113,ntmps113;go_upto_region 2 with (fail)
 obtain ⟨W,B,hW,hB,hx0,a0,b0,d0⟩:∃ W B,W=((w.alloc (.cells #[.slice A1 x.nodes.length c1,.slice A2 x.pairs.length c2,.slice A3 x.ay.length c3,x.half] 40)).alloc (.cells (Rl a) 47)).alloc (.cells #[] 2)∧B=w.heap.size∧Ext w W∧aF W B 40 #[.slice A1 x.nodes.length c1,.slice A2 x.pairs.length c2,.slice A3 x.ay.length c3,x.half]∧aF W (B+1) 47 (Rl a)∧aF W (B+1+1) 2 #[]:=lQ w _ _ _ _ _ _;rw [← hW,← hB];have HBw:Hid (w.heap.size≤B):=ah (by omega);have QA:=ah a0;have QB:=ah b0;have QD:=ah d0;have X:=ah hx0;clear hW hB hx0 a0 b0 d0;have q0:=QA.out.cell 0;go_wp2_with fail;clear q0;go_loopw [5,12] (fun u i w'=>∃ (k:Nat) (F:List Nat),k≤x.nodes.length∧i=.int .i64 k∧aW jD 2 w' u (eP x.nodes a k) F∧(∀ b∈F,W.heap.size≤b∨b=B+1+1)∧Ext w w'∧Kept [B+1+1] W w') (fun _ i _=>x.nodes.length - (intOf i).toNat);case atStart=>exact ⟨0,[B+1+1],by omega,rfl,SY QD.out,fun b hb=>.inr (List.mem_singleton.1 hb),X.out,Kept.refl _ _⟩
 case round =>
  obtain ⟨k,F,hk1,rfl,ho,hF,hxw,hkp⟩:=hrel;obtain ⟨AO,cO,rfl,-⟩:=ho.form;have HO:=ah ho;have uT:=ah hF;have HX:=ah hxw;have HKp:=ah hkp;have hB1:(B+1)∉[B+1+1]:=by simp
  have QB1:Hid (aF wr (B+1) 47 (Rl a)):=ah ((hkp.block (B+1) QB.out.lt hB1).trans QB.out);clear ho hF hkp hB1;by_cases hlt:k < x.nodes.length
  · obtain ⟨b,o,cs,rfl,_,⟨vr,rfl,hr⟩,hc⟩:=HK.out k hlt;have c0:=Ext.some hxw (hc 0 _ rfl);simp only [gU,Nat.mul_one,Nat.add_zero] at c0;obtain ⟨A9,c9,rfl,-⟩:=hr.form;have HR:=ah (hr.ext hxw);have p0:=QB1.out.cell 0;have p1:=QB1.out.cell 1;have HE:=ah (nP x.nodes a k);have HLe:=ah (um x.nodes a k);obtain ⟨t,ht⟩:∃ t,cleared (nth x.nodes k) a=t:=⟨_,rfl⟩
    have T:=ah ht;clear hc hr hxw ht;have hwf:∀ b∈F,w.heap.size≤b:=fun b hb=>by
     rcases uT.out b hb with h | h
     · exact Nat.le_trans X.out.size h
     · have:=HBw.out;omega
    have HWF:=ah hwf;clear hwf;cases t with
    | false =>
      go_wp2_with (go_at_call 112;(with_reducible refine (kQ (S:=S) (nth x.nodes k) a _ _ HR.out _ T.out).mono ?_);rintro e w7 ⟨rfl,hx7⟩;have X7:=ah hx7;clear hx7);refine ⟨⟨k+1,F,by omega,by go_num,by rw [HE.out,T.out];simpa using HO.out.ext X7.out,uT.out,HX.out.trans X7.out,HKp.out.trans (Kept.dw X7.out)⟩,by simp [intOf];omega⟩
    | true =>
      go_wp2_with (first
       | (go_at_call 112;(with_reducible refine (kQ (S:=S) (nth x.nodes k) a _ _ HR.out _ T.out).mono ?_);rintro e w7 ⟨rfl,hx7⟩;have X7:=ah hx7;clear hx7)
       | (at_builtin;refine bM (O:=jD) (T:=2) (l:=eP x.nodes a k) (F:=F) (G:=[]) (y:=(k:Int)) (cs:=[.int .i64 (k:Int)]) rfl _ _ 74 rfl (.int .i64 0) 1 8 underlying74 (by kernel_rfl) rfl rfl rfl (HO.out.ext (X7.out.alloc _)) _ 0 1 rfl ⟨⟨rfl,by unfold I64;omega⟩,rfl⟩ (aF.new _ _ _).range (by simpa using HO.out.nodup) (by have:=HLe.out;have:=HN.out;omega) (by decide) ?_;intro v9 w9 F9 o9 k9 f9;have O9:=ah o9;have K9:=ah k9;have G9:=ah f9;clear o9 k9 f9))
      refine ⟨⟨k+1,F9,by omega,by go_num,by rw [HE.out,T.out];simpa using O9.out,fun b hb=>?_,K9.out.ext ((HX.out.trans X7.out).alloc _) HWF.out,?_⟩,by simp [intOf];omega⟩
      · rcases G9.out b hb with h | h | h
        · exact uT.out b h
        · cases h
        · exact .inl (Nat.le_trans HKp.out.size (Nat.le_trans X7.out.size (Nat.le_trans ((Ext.refl _).alloc _).size h)))
      · refine Kept.sub (F:=[B+1+1] ++ F) (((HKp.out.trans (Kept.dw (X7.out.alloc _))).sub (G:=[B+1+1] ++ F) (fun b _ hm=>List.mem_append_left _ hm)).trans (K9.out.sub (G:=[B+1+1] ++ F) (fun b _ hm=>List.mem_append_right _ hm))) (fun b hb hm=>?_);rcases List.mem_append.1 hm with h | h
        · exact h
        · rcases uT.out b h with h2 | h2
          · omega
          · exact List.mem_singleton.2 h2
  · obtain rfl:k=x.nodes.length:=by omega
    have hwf:∀ b∈F,w.heap.size≤b:=fun b hb=>by
     rcases uT.out b hb with h | h
     · exact Nat.le_trans X.out.size h
     · have:=HBw.out;omega
    have HWF:=ah hwf;clear hwf hxw;go_wp2_with fail;go_ret;exact ⟨_,F,rfl,HO.out,HWF.out,HX.out⟩
end Go.Proofs.YtbdicafambkhdaaGreat
