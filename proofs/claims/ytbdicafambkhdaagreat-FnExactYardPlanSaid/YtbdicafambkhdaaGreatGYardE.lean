/- Whether two data are equal: eq... Printed by wip/gen.py. How the laws count the size of their data. What the sizes count. Printed by wip/gen.py. How large data are: sz... Printed by wip/gen.py. What turns a walk of a law into the row that says it: the arguments' readings opened, and the row's last step. No program in sight. The laws' arguments, opened to plain data. Printed by wip/gen.py. The generated words of types that are new with this seat. Printed by wip/genx.py. -/
import Derived.Test.YtbdicafambkhdaaGreatRows
import Derived.Test.YtbdicafambkhdaaGreatLabels
import Derived.Test.YtbdicafambkhdaaGreatGSmall
import Derived.Test.YtbdicafambkhdaaGreatLib
import Derived.ProofKit
import Derived.Deep.Slices
set_option maxHeartbeats 4000000
set_option maxRecDepth 50000
namespace Go.Proofs.YtbdicafambkhdaaGreat
open Go.Proofs.Tryz
open Go.RowKit
attribute [local irreducible] wpQuiet
theorem kR {S S':Nat→Prop} (x y:Label) (cs ds:List Value) (w:World) (h:aH.rel S w cs x) (g:aH.rel S' w ds y) :
 Calls prog 129 #[.agg cs.toArray,.agg ds.toArray] w fun e w'=>e=.returned (.bool (decide (x=y)))∧Ext w w':=by
 obtain ⟨rfl,hi⟩:=h;obtain ⟨rfl,gi⟩:=g;have HI:=ah hi;have GI:=ah gi;clear hi gi;simp only [aQ];go_enter func129,ntmps129;go_upto_region 1 with (fail)
 obtain ⟨W,B,hW,hB,hx0,a0,b0⟩:=eY w (Rl x) (Rl y) 47 47;rw [← hW,← hB];clear hW hB;have X0:=ah hx0;have A0:=ah a0;have B0:=ah b0;clear hx0 a0 b0;have ac:=A0.out.cell;have bc:=B0.out.cell;go_wp2_with fail;all_goals (go_ret;exact ⟨au (by go_light;clear ac bc;simp_all [Label.ext_iff]),by first | exact X0.out⟩)
theorem Ew {S S':Nat→Prop} (l m:List Int) (v u:Value) (w:World) (h:Rd fC S w v l) (g:Rd fC S' w u m) :
 Calls prog 130 #[v,u] w fun e w'=>e=.returned (.bool (decide (l=m)))∧Ext w w':=by
 obtain ⟨A,c,rfl,h1,h2,hk⟩:=h.open_;obtain ⟨A',c',rfl,g1,g2,gk⟩:=g.open_;unfold maxLen at h2 g2;have HK:=ah hk;have GK:=ah gk;clear hk gk h g;by_cases hl:l.length=m.length
 · generalize hn:m.length=n at *;have HN:=ah hn;subst hl;clear hn;go_enter func130,ntmps130;go_wp2_with fail;go_loopw [5] (fun i w'=>∃ k:Nat,k≤l.length∧i=.int .i64 k∧(∀ j,j < k→nth l j=nth m j)∧Ext w w') (fun i _=>l.length - (intOf i).toNat);case atStart=>exact ⟨0,by omega,rfl,fun j hj=>by omega,Ext.refl _⟩
   case round =>
    obtain ⟨k,hk1,rfl,hall,hx⟩:=hrel;have HA:=ah hall;have HX:=ah hx;clear hall;by_cases hlt:k < l.length
    · obtain ⟨b,o,cs,rfl,hb,hr,hc⟩:=HK.out k hlt;obtain ⟨b',o',ds,rfl,gb,gr,gc⟩:=GK.out k hlt;obtain ⟨rfl,_⟩:=hr;obtain ⟨rfl,_⟩:=gr;have c0:=Ext.some hx (hc 0 _ rfl);have d0:=Ext.some hx (gc 0 _ rfl);simp only [fC,Nat.mul_one,Nat.add_zero] at c0 d0;clear hc gc hx;by_cases he:nth l k=nth m k
      · have HE:=ah he;have e1:(nth l k != nth m k)=false:=by simp [he]
        clear he;go_wp2_with fail;refine ak (by kernel_rfl) (by kernel_rfl) ?_;repeat (
         (refine wpQuiet_step (fun K hK=>?_)
          go_simp;first
           | (refine hK _ ?_;clear hK K)
           | (apply Exists.intro
              refine ⟨fun bH aj=>?_,hK _ ?_⟩
              · have kH:=Ext.some aj c0;have jH:=Ext.some aj d0;first | exact rfl | (go_simp;done) | (go_simp;exact rfl)
              clear hK K)))
        refine wpQuiet_nil ?_;intro w1 hx1;go_wp2_with fail;go_roundw;case rel=>exact ⟨k+1,by omega,by go_num,all_succ HA.out HE.out,HX.out.trans hx1⟩
        case measure=>simp [intOf];omega
      · have HE:=ah he;have e1:(nth l k != nth m k)=true:=by simp [he]
        clear he;go_wp2_with fail;refine ak (by kernel_rfl) (by kernel_rfl) ?_;repeat (
         (refine wpQuiet_step (fun K hK=>?_)
          go_simp;first
           | (refine hK _ ?_;clear hK K)
           | (apply Exists.intro
              refine ⟨fun bH aj=>?_,hK _ ?_⟩
              · have kH:=Ext.some aj c0;have jH:=Ext.some aj d0;first | exact rfl | (go_simp;done) | (go_simp;exact rfl)
              clear hK K)))
        refine wpQuiet_nil ?_;intro w1 hx1;go_wp2_with fail;go_ret;exact ⟨au (decide_eq_false fun e=>HE.out (by rw [e])).symm,HX.out.trans hx1⟩
    · have HF:Hid (decide (l=m)=true):=ah (decide_eq_true (mg HN.out.symm fun j hj=>HA.out j (by omega)));go_wp2_with fail;go_ret;exact ⟨au HF.out.symm,HX.out⟩
 · have HL:=ah hl;have e1:((l.length:Int) != (m.length:Int))=true:=by simp;omega
   have e2:(l.length != m.length)=true:=by simp;omega
   go_enter func130,ntmps130;go_wp2_with fail;go_ret;exact ⟨au (decide_eq_false fun e=>HL.out (by rw [e])).symm,Ext.refl _⟩
theorem KX {S S':Nat→Prop} (x y:Pair) (cs ds:List Value) (w:World) (h:fA.rel S w cs x) (g:fA.rel S' w ds y) :
 Calls prog 227 #[.agg cs.toArray,.agg ds.toArray] w fun e w'=>e=.returned (.bool (decide (x=y)))∧Ext w w':=by
 obtain ⟨rfl,hi⟩:=h;obtain ⟨rfl,gi⟩:=g;have HI:=ah hi;have GI:=ah gi;clear hi gi;simp only [fM];go_enter func227,ntmps227;go_upto_region 1 with (fail)
 obtain ⟨W,B,hW,hB,hx0,a0,b0⟩:=eY w (Rp x) (Rp y) 214 214;rw [← hW,← hB];clear hW hB;have X0:=ah hx0;have A0:=ah a0;have B0:=ah b0;clear hx0 a0 b0;have ac:=A0.out.cell;have bc:=B0.out.cell;go_wp2_with (first
  | (go_at_call 129;(with_reducible refine (kR (S:=S) (S':=S') x.from_ y.from_ [x.from_.level,x.from_.set] [y.from_.level,y.from_.set] _ (aC (by have hf:=HI.out;simp only [nN] at hf;simp only [aP,hf,and_self])) (aC (by have hf:=GI.out;simp only [nN] at hf;simp only [aP,hf,and_self]))).mono ?_);rintro e w1 ⟨rfl,hx⟩;have X1:=ah (X0.out.trans hx);have A1:=ah (A0.out.ext hx);have B1:=ah (B0.out.ext hx);clear hx X0 A0 B0 ac bc;have ac:=A1.out.cell;have bc:=B1.out.cell)
  | (go_at_call 129;(with_reducible refine (kR (S:=S) (S':=S') x.jA y.jA [x.jA.level,x.jA.set] [y.jA.level,y.jA.set] _ (aC (by have hf:=HI.out;simp only [nN] at hf;simp only [aP,hf,and_self])) (aC (by have hf:=GI.out;simp only [nN] at hf;simp only [aP,hf,and_self]))).mono ?_);rintro e w2 ⟨rfl,hx⟩;have X2:=ah (X1.out.trans hx);have A2:=ah (A1.out.ext hx);have B2:=ah (B1.out.ext hx);clear hx X1 A1 B1 ac bc;have ac:=A2.out.cell;have bc:=B2.out.cell))
 all_goals (go_ret;exact ⟨au (by go_light;clear ac bc;simp_all [Pair.ext_iff]),by first | exact X2.out | exact X1.out | exact X0.out⟩)
theorem IW {S S':Nat→Prop} (x y:jk) (cs ds:List Value) (w:World) (h:dJ.rel S w cs x) (g:dJ.rel S' w ds y) :
 Calls prog 228 #[.agg cs.toArray,.agg ds.toArray] w fun e w'=>e=.returned (.bool (decide (x=y)))∧Ext w w':=by
 obtain ⟨rfl,hi⟩:=h;obtain ⟨rfl,gi⟩:=g;have HI:=ah hi;have GI:=ah gi;clear hi gi;simp only [mY];go_enter func228,ntmps228;go_upto_region 1 with (fail)
 obtain ⟨W,B,hW,hB,hx0,a0,b0⟩:=eY w (Rq x) (Rq y) 205 205;rw [← hW,← hB];clear hW hB;have X0:=ah hx0;have A0:=ah a0;have B0:=ah b0;clear hx0 a0 b0;have ac:=A0.out.cell;have bc:=B0.out.cell;go_wp2_with (first
  | (go_at_call 129;(with_reducible refine (kR (S:=S) (S':=S') x.label y.label [x.label.level,x.label.set] [y.label.level,y.label.set] _ (aC (by have hf:=HI.out;simp only [rE] at hf;simp only [aP,hf,and_self])) (aC (by have hf:=GI.out;simp only [rE] at hf;simp only [aP,hf,and_self]))).mono ?_);rintro e w1 ⟨rfl,hx⟩;have X1:=ah (X0.out.trans hx);have A1:=ah (A0.out.ext hx);have B1:=ah (B0.out.ext hx);clear hx X0 A0 B0 ac bc;have ac:=A1.out.cell;have bc:=B1.out.cell))
 all_goals (go_ret;exact ⟨au (by go_light;clear ac bc;simp_all [jk.ext_iff]),by first | exact X1.out | exact X0.out⟩)
theorem Ey {S S':Nat→Prop} (l m:List Label) (v u:Value) (w:World) (h:Rd aH S w v l) (g:Rd aH S' w u m) :
 Calls prog 226 #[v,u] w fun e w'=>e=.returned (.bool (decide (l=m)))∧Ext w w':=by
 obtain ⟨A,c,rfl,h1,h2,hk⟩:=h.open_;obtain ⟨A',c',rfl,g1,g2,gk⟩:=g.open_;unfold maxLen at h2 g2;have HK:=ah hk;have GK:=ah gk;clear hk gk h g;by_cases hl:l.length=m.length
 · generalize hn:m.length=n at *;have HN:=ah hn;subst hl;clear hn;go_enter func226,ntmps226;go_wp2_with fail;go_loopw [5] (fun i w'=>∃ k:Nat,k≤l.length∧i=.int .i64 k∧(∀ j,j < k→nth l j=nth m j)∧Ext w w') (fun i _=>l.length - (intOf i).toNat);case atStart=>exact ⟨0,by omega,rfl,fun j hj=>by omega,Ext.refl _⟩
   case round =>
    obtain ⟨k,hk1,rfl,hall,hx⟩:=hrel;have HA:=ah hall;have HX:=ah hx;clear hall;by_cases hlt:k < l.length
    · obtain ⟨b,o,cs,rfl,hb,hr,hc⟩:=HK.out k hlt;obtain ⟨b',o',ds,rfl,gb,gr,gc⟩:=GK.out k hlt;have HR:=ah (aH.keep (hx.same S) hr);have GR:=ah (aH.keep (hx.same S') gr);have HC:=ah (hx.range hc);have GC:=ah (hx.range gc);have HI:Hid ((prog.info? 47).map (·.size)=some cs.length):=ah (by rw [aH.len hr];kernel_rfl);have GI:Hid ((prog.info? 47).map (·.size)=some ds.length):=ah (by rw [aH.len gr];kernel_rfl);clear hr gr hc gc hx;by_cases he:nth l k=nth m k
      · have HE:=ah he;have e1:decide (nth l k=nth m k)=true:=by simp [he]
        clear he;go_wp2_with fail;refine ak (by kernel_rfl) (by kernel_rfl) ?_;repeat (
         first
         | (refine aS (by rfl) 47 _ rfl b (o+k * 2) rfl cs _ (fun bH aj=>aj.range HC.out) underlying47 rfl HI.out ?_;simp only [Act.put,List.setIfInBounds_toArray,List.set_cons_zero,List.set_cons_succ])
         | (refine aS (by rfl) 47 _ rfl b' (o'+k * 2) rfl ds _ (fun bH aj=>aj.range GC.out) underlying47 rfl GI.out ?_;simp only [Act.put,List.setIfInBounds_toArray,List.set_cons_zero,List.set_cons_succ])
         | (refine wpQuiet_step (fun K hK=>?_)
            go_simp;first
             | (refine hK _ ?_;clear hK K)
             | (apply Exists.intro
                refine ⟨fun bH aj=>?_,hK _ ?_⟩
                · first | exact rfl | (go_simp;done) | (go_simp;exact rfl) | (go_at_call 129;exact aJ aj (kR (nth l k) (nth m k) cs ds _ (aH.keep (aj.same S) HR.out) (aH.keep (aj.same S') GR.out)))
                clear hK K)))
        refine wpQuiet_nil ?_;intro w1 hx1;go_wp2_with fail;go_roundw;case rel=>exact ⟨k+1,by omega,by go_num,all_succ HA.out HE.out,HX.out.trans hx1⟩
        case measure=>simp [intOf];omega
      · have HE:=ah he;have e1:decide (nth l k=nth m k)=false:=by simp [he]
        clear he;go_wp2_with fail;refine ak (by kernel_rfl) (by kernel_rfl) ?_;repeat (
         first
         | (refine aS (by rfl) 47 _ rfl b (o+k * 2) rfl cs _ (fun bH aj=>aj.range HC.out) underlying47 rfl HI.out ?_;simp only [Act.put,List.setIfInBounds_toArray,List.set_cons_zero,List.set_cons_succ])
         | (refine aS (by rfl) 47 _ rfl b' (o'+k * 2) rfl ds _ (fun bH aj=>aj.range GC.out) underlying47 rfl GI.out ?_;simp only [Act.put,List.setIfInBounds_toArray,List.set_cons_zero,List.set_cons_succ])
         | (refine wpQuiet_step (fun K hK=>?_)
            go_simp;first
             | (refine hK _ ?_;clear hK K)
             | (apply Exists.intro
                refine ⟨fun bH aj=>?_,hK _ ?_⟩
                · first | exact rfl | (go_simp;done) | (go_simp;exact rfl) | (go_at_call 129;exact aJ aj (kR (nth l k) (nth m k) cs ds _ (aH.keep (aj.same S) HR.out) (aH.keep (aj.same S') GR.out)))
                clear hK K)))
        refine wpQuiet_nil ?_;intro w1 hx1;go_wp2_with fail;go_ret;exact ⟨au (decide_eq_false fun e=>HE.out (by rw [e])).symm,HX.out.trans hx1⟩
    · have HF:Hid (decide (l=m)=true):=ah (decide_eq_true (mg HN.out.symm fun j hj=>HA.out j (by omega)));go_wp2_with fail;go_ret;exact ⟨au HF.out.symm,HX.out⟩
 · have HL:=ah hl;have e1:((l.length:Int) != (m.length:Int))=true:=by simp;omega
   have e2:(l.length != m.length)=true:=by simp;omega
   go_enter func226,ntmps226;go_wp2_with fail;go_ret;exact ⟨au (decide_eq_false fun e=>HL.out (by rw [e])).symm,Ext.refl _⟩
theorem OE {S S':Nat→Prop} (l m:List (List Label)) (v u:Value) (w:World) (h:Rd (gU aH) S w v l) (g:Rd (gU aH) S' w u m) :
 Calls prog 123 #[v,u] w fun e w'=>e=.returned (.bool (decide (l=m)))∧Ext w w':=by
 obtain ⟨A,c,rfl,h1,h2,hk⟩:=h.open_;obtain ⟨A',c',rfl,g1,g2,gk⟩:=g.open_;unfold maxLen at h2 g2;have HK:=ah hk;have GK:=ah gk;clear hk gk h g;by_cases hl:l.length=m.length
 · generalize hn:m.length=n at *;have HN:=ah hn;subst hl;clear hn;go_enter func123,ntmps123;go_wp2_with fail;go_loopw [5] (fun i w'=>∃ k:Nat,k≤l.length∧i=.int .i64 k∧(∀ j,j < k→nth l j=nth m j)∧Ext w w') (fun i _=>l.length - (intOf i).toNat);case atStart=>exact ⟨0,by omega,rfl,fun j hj=>by omega,Ext.refl _⟩
   case round =>
    obtain ⟨k,hk1,rfl,hall,hx⟩:=hrel;have HA:=ah hall;have HX:=ah hx;clear hall;by_cases hlt:k < l.length
    · obtain ⟨b,o,cs,rfl,hb,hr,hc⟩:=HK.out k hlt;obtain ⟨b',o',ds,rfl,gb,gr,gc⟩:=GK.out k hlt;obtain ⟨v,rfl,hr⟩:=hr;obtain ⟨u,rfl,gr⟩:=gr;have c0:=Ext.some hx (hc 0 _ rfl);have d0:=Ext.some hx (gc 0 _ rfl);have HR:=ah (hr.ext hx);have GR:=ah (gr.ext hx);simp only [gU,Nat.mul_one,Nat.add_zero] at c0 d0;clear hc gc hr gr hx;by_cases he:nth l k=nth m k
      · have HE:=ah he;have e1:decide (nth l k=nth m k)=true:=by simp [he]
        clear he;go_wp2_with fail;refine ak (by kernel_rfl) (by kernel_rfl) ?_;repeat (
         (refine wpQuiet_step (fun K hK=>?_)
          go_simp;first
           | (refine hK _ ?_;clear hK K)
           | (apply Exists.intro
              refine ⟨fun bH aj=>?_,hK _ ?_⟩
              · have kH:=Ext.some aj c0;have jH:=Ext.some aj d0;first | exact rfl | (go_simp;done) | (go_simp;exact rfl) | (go_at_call 226;exact aJ aj (Ey (nth l k) (nth m k) v u _ (HR.out.ext aj) (GR.out.ext aj)))
              clear hK K)))
        refine wpQuiet_nil ?_;intro w1 hx1;go_wp2_with fail;go_roundw;case rel=>exact ⟨k+1,by omega,by go_num,all_succ HA.out HE.out,HX.out.trans hx1⟩
        case measure=>simp [intOf];omega
      · have HE:=ah he;have e1:decide (nth l k=nth m k)=false:=by simp [he]
        clear he;go_wp2_with fail;refine ak (by kernel_rfl) (by kernel_rfl) ?_;repeat (
         (refine wpQuiet_step (fun K hK=>?_)
          go_simp;first
           | (refine hK _ ?_;clear hK K)
           | (apply Exists.intro
              refine ⟨fun bH aj=>?_,hK _ ?_⟩
              · have kH:=Ext.some aj c0;have jH:=Ext.some aj d0;first | exact rfl | (go_simp;done) | (go_simp;exact rfl) | (go_at_call 226;exact aJ aj (Ey (nth l k) (nth m k) v u _ (HR.out.ext aj) (GR.out.ext aj)))
              clear hK K)))
        refine wpQuiet_nil ?_;intro w1 hx1;go_wp2_with fail;go_ret;exact ⟨au (decide_eq_false fun e=>HE.out (by rw [e])).symm,HX.out.trans hx1⟩
    · have HF:Hid (decide (l=m)=true):=ah (decide_eq_true (mg HN.out.symm fun j hj=>HA.out j (by omega)));go_wp2_with fail;go_ret;exact ⟨au HF.out.symm,HX.out⟩
 · have HL:=ah hl;have e1:((l.length:Int) != (m.length:Int))=true:=by simp;omega
   have e2:(l.length != m.length)=true:=by simp;omega
   go_enter func123,ntmps123;go_wp2_with fail;go_ret;exact ⟨au (decide_eq_false fun e=>HL.out (by rw [e])).symm,Ext.refl _⟩
theorem U0 {S S':Nat→Prop} (l m:List Pair) (v u:Value) (w:World) (h:Rd fA S w v l) (g:Rd fA S' w u m) :
 Calls prog 124 #[v,u] w fun e w'=>e=.returned (.bool (decide (l=m)))∧Ext w w':=by
 obtain ⟨A,c,rfl,h1,h2,hk⟩:=h.open_;obtain ⟨A',c',rfl,g1,g2,gk⟩:=g.open_;unfold maxLen at h2 g2;have HK:=ah hk;have GK:=ah gk;clear hk gk h g;by_cases hl:l.length=m.length
 · generalize hn:m.length=n at *;have HN:=ah hn;subst hl;clear hn;go_enter func124,ntmps124;go_wp2_with fail;go_loopw [5] (fun i w'=>∃ k:Nat,k≤l.length∧i=.int .i64 k∧(∀ j,j < k→nth l j=nth m j)∧Ext w w') (fun i _=>l.length - (intOf i).toNat);case atStart=>exact ⟨0,by omega,rfl,fun j hj=>by omega,Ext.refl _⟩
   case round =>
    obtain ⟨k,hk1,rfl,hall,hx⟩:=hrel;have HA:=ah hall;have HX:=ah hx;clear hall;by_cases hlt:k < l.length
    · obtain ⟨b,o,cs,rfl,hb,hr,hc⟩:=HK.out k hlt;obtain ⟨b',o',ds,rfl,gb,gr,gc⟩:=GK.out k hlt;have HR:=ah (fA.keep (hx.same S) hr);have GR:=ah (fA.keep (hx.same S') gr);have HC:=ah (hx.range hc);have GC:=ah (hx.range gc);have HI:Hid ((prog.info? 214).map (·.size)=some cs.length):=ah (by rw [fA.len hr];kernel_rfl);have GI:Hid ((prog.info? 214).map (·.size)=some ds.length):=ah (by rw [fA.len gr];kernel_rfl);clear hr gr hc gc hx;by_cases he:nth l k=nth m k
      · have HE:=ah he;have e1:decide (nth l k=nth m k)=true:=by simp [he]
        clear he;go_wp2_with fail;refine ak (by kernel_rfl) (by kernel_rfl) ?_;repeat (
         first
         | (refine aS (by rfl) 214 _ rfl b (o+k * 5) rfl cs _ (fun bH aj=>aj.range HC.out) underlying214 rfl HI.out ?_;simp only [Act.put,List.setIfInBounds_toArray,List.set_cons_zero,List.set_cons_succ])
         | (refine aS (by rfl) 214 _ rfl b' (o'+k * 5) rfl ds _ (fun bH aj=>aj.range GC.out) underlying214 rfl GI.out ?_;simp only [Act.put,List.setIfInBounds_toArray,List.set_cons_zero,List.set_cons_succ])
         | (refine wpQuiet_step (fun K hK=>?_)
            go_simp;first
             | (refine hK _ ?_;clear hK K)
             | (apply Exists.intro
                refine ⟨fun bH aj=>?_,hK _ ?_⟩
                · first | exact rfl | (go_simp;done) | (go_simp;exact rfl) | (go_at_call 227;exact aJ aj (KX (nth l k) (nth m k) cs ds _ (fA.keep (aj.same S) HR.out) (fA.keep (aj.same S') GR.out)))
                clear hK K)))
        refine wpQuiet_nil ?_;intro w1 hx1;go_wp2_with fail;go_roundw;case rel=>exact ⟨k+1,by omega,by go_num,all_succ HA.out HE.out,HX.out.trans hx1⟩
        case measure=>simp [intOf];omega
      · have HE:=ah he;have e1:decide (nth l k=nth m k)=false:=by simp [he]
        clear he;go_wp2_with fail;refine ak (by kernel_rfl) (by kernel_rfl) ?_;repeat (
         first
         | (refine aS (by rfl) 214 _ rfl b (o+k * 5) rfl cs _ (fun bH aj=>aj.range HC.out) underlying214 rfl HI.out ?_;simp only [Act.put,List.setIfInBounds_toArray,List.set_cons_zero,List.set_cons_succ])
         | (refine aS (by rfl) 214 _ rfl b' (o'+k * 5) rfl ds _ (fun bH aj=>aj.range GC.out) underlying214 rfl GI.out ?_;simp only [Act.put,List.setIfInBounds_toArray,List.set_cons_zero,List.set_cons_succ])
         | (refine wpQuiet_step (fun K hK=>?_)
            go_simp;first
             | (refine hK _ ?_;clear hK K)
             | (apply Exists.intro
                refine ⟨fun bH aj=>?_,hK _ ?_⟩
                · first | exact rfl | (go_simp;done) | (go_simp;exact rfl) | (go_at_call 227;exact aJ aj (KX (nth l k) (nth m k) cs ds _ (fA.keep (aj.same S) HR.out) (fA.keep (aj.same S') GR.out)))
                clear hK K)))
        refine wpQuiet_nil ?_;intro w1 hx1;go_wp2_with fail;go_ret;exact ⟨au (decide_eq_false fun e=>HE.out (by rw [e])).symm,HX.out.trans hx1⟩
    · have HF:Hid (decide (l=m)=true):=ah (decide_eq_true (mg HN.out.symm fun j hj=>HA.out j (by omega)));go_wp2_with fail;go_ret;exact ⟨au HF.out.symm,HX.out⟩
 · have HL:=ah hl;have e1:((l.length:Int) != (m.length:Int))=true:=by simp;omega
   have e2:(l.length != m.length)=true:=by simp;omega
   go_enter func124,ntmps124;go_wp2_with fail;go_ret;exact ⟨au (decide_eq_false fun e=>HL.out (by rw [e])).symm,Ext.refl _⟩
theorem RX {S S':Nat→Prop} (l m:List jk) (v u:Value) (w:World) (h:Rd dJ S w v l) (g:Rd dJ S' w u m) :
 Calls prog 125 #[v,u] w fun e w'=>e=.returned (.bool (decide (l=m)))∧Ext w w':=by
 obtain ⟨A,c,rfl,h1,h2,hk⟩:=h.open_;obtain ⟨A',c',rfl,g1,g2,gk⟩:=g.open_;unfold maxLen at h2 g2;have HK:=ah hk;have GK:=ah gk;clear hk gk h g;by_cases hl:l.length=m.length
 · generalize hn:m.length=n at *;have HN:=ah hn;subst hl;clear hn;go_enter func125,ntmps125;go_wp2_with fail;go_loopw [5] (fun i w'=>∃ k:Nat,k≤l.length∧i=.int .i64 k∧(∀ j,j < k→nth l j=nth m j)∧Ext w w') (fun i _=>l.length - (intOf i).toNat);case atStart=>exact ⟨0,by omega,rfl,fun j hj=>by omega,Ext.refl _⟩
   case round =>
    obtain ⟨k,hk1,rfl,hall,hx⟩:=hrel;have HA:=ah hall;have HX:=ah hx;clear hall;by_cases hlt:k < l.length
    · obtain ⟨b,o,cs,rfl,hb,hr,hc⟩:=HK.out k hlt;obtain ⟨b',o',ds,rfl,gb,gr,gc⟩:=GK.out k hlt;have HR:=ah (dJ.keep (hx.same S) hr);have GR:=ah (dJ.keep (hx.same S') gr);have HC:=ah (hx.range hc);have GC:=ah (hx.range gc);have HI:Hid ((prog.info? 205).map (·.size)=some cs.length):=ah (by rw [dJ.len hr];kernel_rfl);have GI:Hid ((prog.info? 205).map (·.size)=some ds.length):=ah (by rw [dJ.len gr];kernel_rfl);clear hr gr hc gc hx;by_cases he:nth l k=nth m k
      · have HE:=ah he;have e1:decide (nth l k=nth m k)=true:=by simp [he]
        clear he;go_wp2_with fail;refine ak (by kernel_rfl) (by kernel_rfl) ?_;repeat (
         first
         | (refine aS (by rfl) 205 _ rfl b (o+k * 3) rfl cs _ (fun bH aj=>aj.range HC.out) underlying205 rfl HI.out ?_;simp only [Act.put,List.setIfInBounds_toArray,List.set_cons_zero,List.set_cons_succ])
         | (refine aS (by rfl) 205 _ rfl b' (o'+k * 3) rfl ds _ (fun bH aj=>aj.range GC.out) underlying205 rfl GI.out ?_;simp only [Act.put,List.setIfInBounds_toArray,List.set_cons_zero,List.set_cons_succ])
         | (refine wpQuiet_step (fun K hK=>?_)
            go_simp;first
             | (refine hK _ ?_;clear hK K)
             | (apply Exists.intro
                refine ⟨fun bH aj=>?_,hK _ ?_⟩
                · first | exact rfl | (go_simp;done) | (go_simp;exact rfl) | (go_at_call 228;exact aJ aj (IW (nth l k) (nth m k) cs ds _ (dJ.keep (aj.same S) HR.out) (dJ.keep (aj.same S') GR.out)))
                clear hK K)))
        refine wpQuiet_nil ?_;intro w1 hx1;go_wp2_with fail;go_roundw;case rel=>exact ⟨k+1,by omega,by go_num,all_succ HA.out HE.out,HX.out.trans hx1⟩
        case measure=>simp [intOf];omega
      · have HE:=ah he;have e1:decide (nth l k=nth m k)=false:=by simp [he]
        clear he;go_wp2_with fail;refine ak (by kernel_rfl) (by kernel_rfl) ?_;repeat (
         first
         | (refine aS (by rfl) 205 _ rfl b (o+k * 3) rfl cs _ (fun bH aj=>aj.range HC.out) underlying205 rfl HI.out ?_;simp only [Act.put,List.setIfInBounds_toArray,List.set_cons_zero,List.set_cons_succ])
         | (refine aS (by rfl) 205 _ rfl b' (o'+k * 3) rfl ds _ (fun bH aj=>aj.range GC.out) underlying205 rfl GI.out ?_;simp only [Act.put,List.setIfInBounds_toArray,List.set_cons_zero,List.set_cons_succ])
         | (refine wpQuiet_step (fun K hK=>?_)
            go_simp;first
             | (refine hK _ ?_;clear hK K)
             | (apply Exists.intro
                refine ⟨fun bH aj=>?_,hK _ ?_⟩
                · first | exact rfl | (go_simp;done) | (go_simp;exact rfl) | (go_at_call 228;exact aJ aj (IW (nth l k) (nth m k) cs ds _ (dJ.keep (aj.same S) HR.out) (dJ.keep (aj.same S') GR.out)))
                clear hK K)))
        refine wpQuiet_nil ?_;intro w1 hx1;go_wp2_with fail;go_ret;exact ⟨au (decide_eq_false fun e=>HE.out (by rw [e])).symm,HX.out.trans hx1⟩
    · have HF:Hid (decide (l=m)=true):=ah (decide_eq_true (mg HN.out.symm fun j hj=>HA.out j (by omega)));go_wp2_with fail;go_ret;exact ⟨au HF.out.symm,HX.out⟩
 · have HL:=ah hl;have e1:((l.length:Int) != (m.length:Int))=true:=by simp;omega
   have e2:(l.length != m.length)=true:=by simp;omega
   go_enter func125,ntmps125;go_wp2_with fail;go_ret;exact ⟨au (decide_eq_false fun e=>HL.out (by rw [e])).symm,Ext.refl _⟩
theorem RV {S S':Nat→Prop} (x y:Config) (cs ds:List Value) (w:World) (h:gV.rel S w cs x) (g:gV.rel S' w ds y) :
 Calls prog 45 #[.agg cs.toArray,.agg ds.toArray] w fun e w'=>e=.returned (.bool (decide (x=y)))∧Ext w w':=by
 obtain ⟨v1,v2,v3,rfl,hi,h1,h2,h3⟩:=h;obtain ⟨u1,u2,u3,rfl,gi,g1,g2,g3⟩:=g;have H1:=ah h1;have G1:=ah g1;have H2:=ah h2;have G2:=ah g2;have H3:=ah h3;have G3:=ah g3;clear h1 g1 h2 g2 h3 g3;have HI:=ah hi;have GI:=ah gi;clear hi gi;simp only [dN];go_enter func45,ntmps45;go_upto_region 1 with (fail)
 obtain ⟨W,B,hW,hB,hx0,a0,b0⟩:=eY w #[v1,v2,v3,x.half] #[u1,u2,u3,y.half] 40 40;rw [← hW,← hB];clear hW hB;have X0:=ah hx0;have A0:=ah a0;have B0:=ah b0;clear hx0 a0 b0;have ac:=A0.out.cell;have bc:=B0.out.cell;go_wp2_with (first
  | (go_at_call 123;(with_reducible refine (OE x.nodes y.nodes v1 u1 _ (H1.out.ext X0.out) (G1.out.ext X0.out)).mono ?_);rintro e w1 ⟨rfl,hx⟩;have X1:=ah (X0.out.trans hx);have A1:=ah (A0.out.ext hx);have B1:=ah (B0.out.ext hx);clear hx X0 A0 B0 ac bc;have ac:=A1.out.cell;have bc:=B1.out.cell)
  | (go_at_call 124;(with_reducible refine (U0 x.pairs y.pairs v2 u2 _ (H2.out.ext X1.out) (G2.out.ext X1.out)).mono ?_);rintro e w2 ⟨rfl,hx⟩;have X2:=ah (X1.out.trans hx);have A2:=ah (A1.out.ext hx);have B2:=ah (B1.out.ext hx);clear hx X1 A1 B1 ac bc;have ac:=A2.out.cell;have bc:=B2.out.cell)
  | (go_at_call 125;(with_reducible refine (RX x.ay y.ay v3 u3 _ (H3.out.ext X2.out) (G3.out.ext X2.out)).mono ?_);rintro e w3 ⟨rfl,hx⟩;have X3:=ah (X2.out.trans hx);have A3:=ah (A2.out.ext hx);have B3:=ah (B2.out.ext hx);clear hx X2 A2 B2 ac bc;have ac:=A3.out.cell;have bc:=B3.out.cell))
 all_goals (go_ret;exact ⟨au (by go_light;clear ac bc;simp_all [Config.ext_iff]),by first | exact X3.out | exact X2.out | exact X1.out | exact X0.out⟩)
end Go.Proofs.YtbdicafambkhdaaGreat
namespace Go.Proofs.YtbdicafambkhdaaGreat
open Go.Proofs.Tryz
def pay (n:Nat) (left:Int):Int:=if left - n < 0 then -1 else left - n
def dZ (f:Int→Int) (left:Int):Int:=if left < 0 then -1 else f left
def bZ {α:Type} (f:α→Int→Int):List α→Int→Int
 | [],left=>left
 | x :: l,left=>if f x left < 0 then -1 else bZ f l (f x left)
def vN (f:Int→Int):Prop:=∀ left,0≤left→f left = -1∨(0≤f left∧f left≤left)
theorem lZ (n:Nat):vN (pay n):=fun left h=>by unfold pay;split <;> omega
theorem jM {f g:Int→Int} (hf:vN f) (hg:vN g):vN (fun left=>dZ g (f left)):=fun left h=>by
 show dZ g (f left) = -1∨0≤dZ g (f left)∧dZ g (f left)≤left;unfold dZ;rcases hf left h with h1 | ⟨h1,h2⟩
 · simp [h1]
 · rw [if_neg (by omega)];rcases hg _ h1 with h3 | ⟨h3,h4⟩
   · exact .inl h3
   · exact .inr ⟨h3,by omega⟩
theorem wK {α:Type} {f:α→Int→Int}:∀ (l:List α),(∀ x∈l,vN (f x))→vN (bZ f l)
 | [],_=>fun left h=>.inr ⟨h,Int.le_refl _⟩
 | x :: l,hf=>fun left h=>by
   unfold bZ;rcases hf x (List.mem_cons_self ..) left h with h1 | ⟨h1,h2⟩
   · simp [h1]
   · rw [if_neg (by omega)];rcases wK l (fun y hy=>hf y (List.mem_cons_of_mem _ hy)) _ h1 with h3 | ⟨h3,h4⟩
     · exact .inl h3
     · exact .inr ⟨h3,by omega⟩
theorem J9 {n:Nat} {left:Int} (h:left - n < 0):pay n left = -1:=by unfold pay;rw [if_pos h]
theorem Ko {n:Nat} {left:Int} (h:0≤left - n):pay n left=left - n:=by unfold pay;rw [if_neg (by omega)]
theorem Fq {f:Int→Int}:dZ f (-1) = -1:=rfl
theorem Fv {f:Int→Int} {left:Int} (h:0≤left):dZ f left=f left:=by unfold dZ;rw [if_neg (by omega)]
def yE {α:Type} (f:α→Int→Int) (l:List α) (top q:Int) (k:Nat):Prop:=bZ f (l.drop k) q=bZ f l top
theorem xM {n:Nat} {left:Int} (h:0≤pay n left):(n:Int)≤left∧pay n left=left - n:=by
 unfold pay at h ⊢;split at h <;> rename_i h' <;> simp [h'] at h ⊢;omega
theorem then_ok {f:Int→Int} {left:Int} (h:0≤dZ f left):0≤left∧0≤f left:=by
 unfold dZ at h;split at h
 · omega
 · exact ⟨by omega,h⟩
theorem EI {α:Type} {f:α→Int→Int} {P:α→Prop} {top:Int}:∀ (l:List α),(∀ x∈l,vN (f x))→(∀ x left,left≤top→0≤left→0≤f x left→P x)→∀ left,0≤left→left≤top→0≤bZ f l left→∀ x∈l,P x
 | [],_,_=>fun _ _ _ _ x hx=>by cases hx
 | x :: l,hf,hP=>fun left h0 h1 h2 y hy=>by
   unfold bZ at h2;split at h2
   · omega
   · rename_i h3
     rcases hf x (List.mem_cons_self ..) left h0 with h4 | ⟨h4,h5⟩
     · omega
     · rcases List.mem_cons.1 hy with rfl | hy
       · exact hP _ left h1 h0 h4
       · exact EI l (fun y hy=>hf y (List.mem_cons_of_mem _ hy)) hP _ h4 (by omega) h2 y hy
def Fp (l:List Span) (left:Int):Int:=pay l.length left
theorem EP (l:List Span):vN (Fp l):=lZ _
theorem Pq {l:List Span} {left:Int} (_h0:0≤left) (h1:left≤1048576) (h:0≤Fp l left):J3 l:=⟨by have:=(xM h).1;omega,fun _ _=>trivial⟩
def nJ (x:Node) (left:Int):Int:=Fp x.books left
theorem zC (x:Node):vN (nJ x):=EP _
theorem TB {x:Node} {left:Int} (h0:0≤left) (h1:left≤1048576) (h:0≤nJ x left):FV x:=by
 unfold nJ at h;have e0:=h;have s0:=Pq h0 h1 e0;exact s0
def sN (x:Use) (left:Int):Int:=pay x.owner.size left
theorem Dy (x:Use):vN (sN x):=lZ _
theorem WZ {x:Use} {left:Int} (_h0:0≤left) (_h1:left≤1048576) (_h:0≤sN x left):aaU x:=trivial
def zN (l:List Int) (left:Int):Int:=pay l.length left
theorem Cj (l:List Int):vN (zN l):=lZ _
theorem NG {l:List Int} {left:Int} (_h0:0≤left) (h1:left≤1048576) (h:0≤zN l left):D6 l:=⟨by have:=(xM h).1;omega,fun _ _=>trivial⟩
def nK (x:Task) (left:Int):Int:=dZ (zN x.nodes) (pay x.owner.size left)
theorem zD (x:Task):vN (nK x):=jM (lZ _) (Cj _)
theorem TD {x:Task} {left:Int} (h0:0≤left) (h1:left≤1048576) (h:0≤nK x left):FW x:=by
 unfold nK at h;have e1:=h;obtain ⟨e0,g1⟩:=then_ok e1;have p0:pay x.owner.size left = -1∨(0≤pay x.owner.size left∧pay x.owner.size left≤left):=(lZ x.owner.size) left h0;have s1:=NG e0 (by omega) g1;exact ⟨trivial,trivial,s1⟩
def jR (l:List Label) (left:Int):Int:=pay l.length left
theorem vX (l:List Label):vN (jR l):=lZ _
theorem NI {l:List Label} {left:Int} (_h0:0≤left) (h1:left≤1048576) (h:0≤jR l left):D7 l:=⟨by have:=(xM h).1;omega,fun _ _=>trivial⟩
def iU (l:List (List Label)) (left:Int):Int:=dZ (bZ jR l) (pay l.length left)
theorem qx (l:List (List Label)):vN (iU l):=jM (lZ _) (wK l fun x _=>vX x)
theorem JR {l:List (List Label)} {left:Int} (h0:0≤left) (h1:left≤1048576) (h:0≤iU l left):zX l:=by
 obtain ⟨h2,h3⟩:=then_ok h;obtain ⟨h4,h5⟩:=xM h2;rw [h5] at h2 h3;exact ⟨by omega,EI l (fun x _=>vX x) (fun x left h6 h7 h8=>NI h7 h6 h8) _ h2 (by omega) h3⟩
def rD (l:List Pair) (left:Int):Int:=pay l.length left
theorem xO (l:List Pair):vN (rD l):=lZ _
theorem Po {l:List Pair} {left:Int} (_h0:0≤left) (h1:left≤1048576) (h:0≤rD l left):JZ l:=⟨by have:=(xM h).1;omega,fun _ _=>⟨trivial,trivial⟩⟩
def zO (l:List jk) (left:Int):Int:=pay l.length left
theorem Cm (l:List jk):vN (zO l):=lZ _
theorem NJ {l:List jk} {left:Int} (_h0:0≤left) (h1:left≤1048576) (h:0≤zO l left):D8 l:=⟨by have:=(xM h).1;omega,fun _ _=>trivial⟩
def iH (x:Config) (left:Int):Int:=dZ (zO x.ay) (dZ (rD x.pairs) (iU x.nodes left))
theorem oQ (x:Config):vN (iH x):=jM (jM (qx _) (xO _)) (Cm _)
theorem NC {x:Config} {left:Int} (h0:0≤left) (h1:left≤1048576) (h:0≤iH x left):oI x:=by
 unfold iH at h;have e2:=h;obtain ⟨e1,g2⟩:=then_ok e2;obtain ⟨e0,g1⟩:=then_ok e1;have p0:iU x.nodes left = -1∨(0≤iU x.nodes left∧iU x.nodes left≤left):=(qx x.nodes) left h0;have p1:dZ (rD x.pairs) (iU x.nodes left) = -1∨(0≤dZ (rD x.pairs) (iU x.nodes left)∧dZ (rD x.pairs) (iU x.nodes left)≤left):=(jM (qx x.nodes) (xO x.pairs)) left h0;have s0:=JR h0 h1 e0;have s1:=Po e0 (by omega) g1;have s2:=NJ e1 (by omega) g2;exact ⟨s0,s1,s2⟩
def kW (l:List Node) (left:Int):Int:=dZ (bZ nJ l) (pay l.length left)
theorem tC (l:List Node):vN (kW l):=jM (lZ _) (wK l fun x _=>zC x)
theorem Pn {l:List Node} {left:Int} (h0:0≤left) (h1:left≤1048576) (h:0≤kW l left):JY l:=by
 obtain ⟨h2,h3⟩:=then_ok h;obtain ⟨h4,h5⟩:=xM h2;rw [h5] at h2 h3;exact ⟨by omega,EI l (fun x _=>zC x) (fun x left h6 h7 h8=>TB h7 h6 h8) _ h2 (by omega) h3⟩
def pz (l:List Task) (left:Int):Int:=dZ (bZ nK l) (pay l.length left)
theorem xP (l:List Task):vN (pz l):=jM (lZ _) (wK l fun x _=>zD x)
theorem Pv {l:List Task} {left:Int} (h0:0≤left) (h1:left≤1048576) (h:0≤pz l left):J4 l:=by
 obtain ⟨h2,h3⟩:=then_ok h;obtain ⟨h4,h5⟩:=xM h2;rw [h5] at h2 h3;exact ⟨by omega,EI l (fun x _=>zD x) (fun x left h6 h7 h8=>TD h7 h6 h8) _ h2 (by omega) h3⟩
def DR (l:List Use) (left:Int):Int:=dZ (bZ sN l) (pay l.length left)
theorem Jc (l:List Use):vN (DR l):=jM (lZ _) (wK l fun x _=>Dy x)
theorem TF {l:List Use} {left:Int} (h0:0≤left) (h1:left≤1048576) (h:0≤DR l left):Ro l:=by
 obtain ⟨h2,h3⟩:=then_ok h;obtain ⟨h4,h5⟩:=xM h2;rw [h5] at h2 h3;exact ⟨by omega,EI l (fun x _=>Dy x) (fun x left h6 h7 h8=>WZ h7 h6 h8) _ h2 (by omega) h3⟩
def sH (x:aK) (left:Int):Int:=dZ (DR x.uses) (dZ (pz x.tasks) (dZ (kW x.nodes) (iH x.config left)))
theorem EX {x:aK} {left:Int} (h0:0≤left) (h1:left≤1048576) (h:0≤sH x left):rQ x:=by
 unfold sH at h;have e3:=h;obtain ⟨e2,g3⟩:=then_ok e3;obtain ⟨e1,g2⟩:=then_ok e2;obtain ⟨e0,g1⟩:=then_ok e1;have p0:iH x.config left = -1∨(0≤iH x.config left∧iH x.config left≤left):=(oQ x.config) left h0;have p1:dZ (kW x.nodes) (iH x.config left) = -1∨(0≤dZ (kW x.nodes) (iH x.config left)∧dZ (kW x.nodes) (iH x.config left)≤left):=(jM (oQ x.config) (tC x.nodes)) left h0;have p2:dZ (pz x.tasks) (dZ (kW x.nodes) (iH x.config left)) = -1∨(0≤dZ (pz x.tasks) (dZ (kW x.nodes) (iH x.config left))∧dZ (pz x.tasks) (dZ (kW x.nodes) (iH x.config left))≤left):=(jM (jM (oQ x.config) (tC x.nodes)) (xP x.tasks)) left h0;have s0:=NC h0 h1 e0;have s1:=Pn e0 (by omega) g1;have s2:=Pv e1 (by omega) g2;have s3:=TF e2 (by omega) g3;exact ⟨s0,s1,s2,s3⟩
open Go.RowKit
attribute [local irreducible] wpQuiet
theorem TN {S:Nat→Prop} (l:List Int) (v:Value) (left:Int) (w:World) (h:Rd fC S w v l) (h0:0≤left) (h1:left≤1048576) :
 Calls prog 167 #[v,.int .i64 left] w fun e w'=>e=.returned (.int .i64 (zN l left))∧Ext w w':=by
 obtain ⟨A,c,rfl,h2,h3,hk⟩:=h.open_;unfold maxLen at h3;have HK:=ah hk;clear hk h;go_enter func167,ntmps167;go_wp2;all_goals (go_ret;refine ⟨aI ?_,Ext.refl _⟩;simp only [zN,pay];split <;> omega)
theorem Fj {S:Nat→Prop} (l:List Label) (v:Value) (left:Int) (w:World) (h:Rd aH S w v l) (h0:0≤left) (h1:left≤1048576) :
 Calls prog 165 #[v,.int .i64 left] w fun e w'=>e=.returned (.int .i64 (jR l left))∧Ext w w':=by
 obtain ⟨A,c,rfl,h2,h3,hk⟩:=h.open_;unfold maxLen at h3;have HK:=ah hk;clear hk h;go_enter func165,ntmps165;go_wp2;all_goals (go_ret;refine ⟨aI ?_,Ext.refl _⟩;simp only [jR,pay];split <;> omega)
theorem PI {S:Nat→Prop} (l:List (List Label)) (v:Value) (left:Int) (w:World) (h:Rd (gU aH) S w v l) (h0:0≤left) (h1:left≤1048576) :
 Calls prog 74 #[v,.int .i64 left] w fun e w'=>e=.returned (.int .i64 (iU l left))∧Ext w w':=by
 obtain ⟨A,c,rfl,h2,h3,hk⟩:=h.open_;unfold maxLen at h3;have HK:=ah hk;clear hk h;by_cases hp:left - (l.length:Int) < 0
 · go_enter func74,ntmps74;go_wp2_with fail;go_ret;exact ⟨aI (by rw [iU,J9 hp,Fq]),Ext.refl _⟩
 · have hq:0≤left - (l.length:Int):=by omega
   clear hp;have HF:Hid (iU l left=bZ jR l (left - l.length)):=ah (by rw [iU,Ko hq,Fv hq]);go_enter func74,ntmps74;go_wp2_with fail;go_loopw [1,5] (fun r i w'=>∃ (k:Nat) (q:Int),k≤l.length∧i=.int .i64 k∧r=.int .i64 q∧0≤q∧q≤1048576∧yE jR l (left - l.length) q k∧Ext w w') (fun _ i _=>l.length - (intOf i).toNat);case atStart=>exact ⟨0,left - l.length,by omega,rfl,rfl,hq,by omega,by rw [yE,List.drop_zero],Ext.refl _⟩
   case round =>
    obtain ⟨k,q,hk1,rfl,rfl,q0,q1,hd,hx⟩:=hrel;have HD:Hid (bZ jR (l.drop k) q=bZ jR l (left - l.length)):=ah hd;have HX:=ah hx;clear hd;by_cases hlt:k < l.length
    · obtain ⟨b,o,cs,rfl,hb,hr,hc⟩:=HK.out k hlt;obtain ⟨v,rfl,hr⟩:=hr;have c0:=Ext.some hx (hc 0 _ rfl);have HR:=ah (hr.ext hx);simp only [gU,Nat.mul_one,Nat.add_zero] at c0;clear hc hr hx;have HP:=ah (vX (nth l k) q q0);by_cases hneg:jR (nth l k) q < 0
      · have HN:Hid (bZ jR l (left - l.length) = -1):=ah (by rw [← HD.out,ni hlt];simp only [bZ];rw [if_pos hneg]);go_wp2_with (first | (go_at_call 165;refine (Fj (nth l k) v q _ HR.out q0 q1).mono ?_;rintro e w1 ⟨rfl,hx1⟩;have jf:=ah hx1;clear hx1));go_ret;exact ⟨aI (by rw [HF.out,HN.out]),HX.out.trans jf.out⟩
      · have hpos:0≤jR (nth l k) q:=by omega
        clear hneg;have HN:Hid (bZ jR (l.drop (k+1)) (jR (nth l k) q)=bZ jR l (left - l.length)):=ah (by rw [← HD.out,ni hlt];simp only [bZ];rw [if_neg (by omega)]);go_wp2_with (first | (go_at_call 165;refine (Fj (nth l k) v q _ HR.out q0 q1).mono ?_;rintro e w1 ⟨rfl,hx1⟩;have jf:=ah hx1;clear hx1));go_roundw;case rel=>exact ⟨k+1,_,by omega,by go_num,rfl,hpos,by have:=HP.out;omega,HN.out,HX.out.trans jf.out⟩
        case measure=>simp [intOf];omega
    · obtain rfl:k=l.length:=by omega
      have HE:Hid (bZ jR l (left - l.length)=q):=ah (by rw [← HD.out,List.drop_length];rfl);go_wp2_with fail;go_ret;exact ⟨aI (by rw [HF.out,HE.out]),HX.out⟩
theorem Xb {S:Nat→Prop} (l:List Pair) (v:Value) (left:Int) (w:World) (h:Rd fA S w v l) (h0:0≤left) (h1:left≤1048576) :
 Calls prog 75 #[v,.int .i64 left] w fun e w'=>e=.returned (.int .i64 (rD l left))∧Ext w w':=by
 obtain ⟨A,c,rfl,h2,h3,hk⟩:=h.open_;unfold maxLen at h3;have HK:=ah hk;clear hk h;go_enter func75,ntmps75;go_wp2;all_goals (go_ret;refine ⟨aI ?_,Ext.refl _⟩;simp only [rD,pay];split <;> omega)
theorem TP {S:Nat→Prop} (l:List jk) (v:Value) (left:Int) (w:World) (h:Rd dJ S w v l) (h0:0≤left) (h1:left≤1048576) :
 Calls prog 76 #[v,.int .i64 left] w fun e w'=>e=.returned (.int .i64 (zO l left))∧Ext w w':=by
 obtain ⟨A,c,rfl,h2,h3,hk⟩:=h.open_;unfold maxLen at h3;have HK:=ah hk;clear hk h;go_enter func76,ntmps76;go_wp2;all_goals (go_ret;refine ⟨aI ?_,Ext.refl _⟩;simp only [zO,pay];split <;> omega)
theorem TM {S:Nat→Prop} (x:Config) (cs:List Value) (left:Int) (w:World) (h:gV.rel S w cs x) (h0:0≤left) (h1:left≤1048576) :
 Calls prog 26 #[.agg cs.toArray,.int .i64 left] w fun e w'=>e=.returned (.int .i64 (iH x left))∧Ext w w':=by
 obtain ⟨v1,v2,v3,rfl,hi,h_1,h_2,h_3⟩:=h;have H1:=ah h_1;have H2:=ah h_2;have H3:=ah h_3;clear h_1 h_2 h_3;have HI:=ah hi;clear hi;simp only [dN];go_enter func26,ntmps26;go_upto_region 1 with (fail)
 obtain ⟨W,B,hW,hB,hx0,hbox⟩:=fH w #[v1,v2,v3,x.half] 26;rw [← hW,← hB];have A0:Hid (aF W B 26 #[v1,v2,v3,x.half]):=ah (by rw [hW,hB];exact aF.new w _ _);have X0:=ah hx0;clear hW hB hbox hx0;have ac:=A0.out.cell;go_wp2_with (first
  | (go_at_call 74;(with_reducible refine (PI x.nodes v1 left _ (H1.out.ext X0.out) (by omega) (by omega)).mono ?_);rintro e w1 ⟨rfl,hx⟩;have P1:=ah (qx x.nodes left (by omega));have X1:=ah (X0.out.trans hx);have A1:=ah (A0.out.ext hx);clear hx X0 A0 ac;have ac:=A1.out.cell)
  | (go_at_call 75;(with_reducible refine (Xb x.pairs v2 (iU x.nodes left) _ (H2.out.ext X1.out) (by have q1:=P1.out;omega) (by have q1:=P1.out;omega)).mono ?_);rintro e w2 ⟨rfl,hx⟩;have P2:=ah (xO x.pairs (iU x.nodes left) (by have q1:=P1.out;omega));have X2:=ah (X1.out.trans hx);have A2:=ah (A1.out.ext hx);clear hx X1 A1 ac;have ac:=A2.out.cell)
  | (go_at_call 76;(with_reducible refine (TP x.ay v3 (rD x.pairs (iU x.nodes left)) _ (H3.out.ext X2.out) (by have q1:=P1.out;have q2:=P2.out;omega) (by have q1:=P1.out;have q2:=P2.out;omega)).mono ?_);rintro e w3 ⟨rfl,hx⟩;have P3:=ah (Cm x.ay (rD x.pairs (iU x.nodes left)) (by have q1:=P1.out;have q2:=P2.out;omega));have X3:=ah (X2.out.trans hx);have A3:=ah (A2.out.ext hx);clear hx X2 A2 ac;have ac:=A3.out.cell))
 all_goals (go_ret;refine ⟨aI ?_,by first | exact X3.out | exact X2.out | exact X1.out | exact X0.out⟩;(try have q1:=P1.out);(try have q2:=P2.out);(try have q3:=P3.out);simp only [iH,dZ];all_goals (repeat' split);all_goals omega)
end Go.Proofs.YtbdicafambkhdaaGreat
namespace Go.Proofs.YtbdicafambkhdaaGreat
open Go.Proofs.Tryz
open Go.RowKit Go.ChangeShapes Go.WideShapes Go.Deep
def Opens {α:Type} (P:Program) (t:TypeId) (E:Elem α):Prop :=
 ∀ {H:Type} {enc:TypeId × Value→H} {w:World} {base:Nat} {spare:Nat→Bool} {held:Bool} {fuel:Nat} {cs:List Value} {x:DataW H × List MemPlace},
   DataW.trod enc P w base spare held fuel t cs=.some x→∃ y,E.rel (fun _=>True) w cs y
def aky:Elem ByteArray where
 size:=1
 rel:=fun _ _ cs x=>cs = [.string x]∧Str x
 len:=by rintro _ _ _ _ ⟨rfl,_⟩;rfl
 keep:=fun _ h=>h
 sub:=fun _ h=>h
 one:=by rintro _ _ _ _ ⟨rfl,_⟩;simp [Value.oneCell']
theorem bK {cs:List Value} {n:Nat} (h:cs.length=n+1):∃ c r,cs=c :: r∧r.length=n:=by
 cases cs with
 | nil=>cases h
 | cons c r=>exact ⟨c,r,rfl,by simpa using h⟩
theorem Ic {n:Int} (h:(Lit.int .i64 n).wf=true):I64 n:=by
 simp [Lit.wf,IntKind.min,IntKind.max,IntKind.signed,IntKind.bits] at h;exact ⟨by omega,by omega⟩
theorem V8 {P:Program} {t:TypeId} (ht:P.underlying t=.some (.int .i64)):Opens P t fC:=by
 intro H enc w base spare held fuel cs x h;obtain ⟨n,rfl,_,hw⟩:=DataW.trod_int ht h;exact ⟨n,rfl,Ic hw⟩
theorem ab8 {P:Program} {t:TypeId} (ht:P.underlying t=.some .string):Opens P t aky:=by
 intro H enc w base spare held fuel cs x h;obtain ⟨s,rfl,_,hw⟩:=DataW.trod_string ht h;exact ⟨s,rfl,hw⟩
theorem UF {w:World} {base:Nat} {a:Addr} {n:Nat} {cs:List Value} (h:w.cells? base a n=.some cs):cs.length=n∧∀ j,j < n→w.cell? (a.add j)=cs[j]?:=by
 obtain ⟨_,h1,h2⟩:=World.cells?_some h;exact ⟨h1,h2⟩
theorem nU {α:Type} {P:Program} {t e:TypeId} {E:Elem α} (ht:P.underlying t=.some (.slice e)) (hC:P.cellsOf e=E.size) (hz:0 < E.size) (ho:Opens P e E):Opens P t (gU E):=by
 intro H enc w base spare held fuel cs x h;rcases open_slice ht h with ⟨rfl,_⟩ | ⟨a,len,cap,m,n,D,Pl,rfl,_,hl,hm,hmm,hxx,hi⟩
 · exact ⟨[],_,rfl,none,0,rfl,Nat.le_refl _,Nat.zero_le _,fun k x hk=>by simp at hk⟩
 · have hlm:len≤m:=by subst hmm;split <;> omega
   have hel:∀ i,i < len→∃ y:α,∃ cs',E.rel (fun _=>True) w cs' y∧cs'.length=E.size∧∀ j,j < E.size→w.cell? ((a.add (i * E.size)).add j)=cs'[j]?:=fun i hlt=>by
    obtain ⟨cs',hc,hd⟩:=hi i (by omega);obtain ⟨y,hy⟩:=ho hd;rw [hC] at hc;obtain ⟨h1,h2⟩:=UF hc;exact ⟨y,cs',hy,h1,h2⟩
   have hex:∃ l:List α,l.length=len∧∀ i y,l[i]? = .some y→∃ cs',E.rel (fun _=>True) w cs' y∧cs'.length=E.size∧∀ j,j < E.size→w.cell? ((a.add (i * E.size)).add j)=cs'[j]?:=by
    clear hi hl hm hmm hlm h hxx;induction len with
    | zero=>exact ⟨[],rfl,fun i y hy=>by simp at hy⟩
    | succ len ih =>
      obtain ⟨l,h1,h2⟩:=ih (fun i hlt=>hel i (by omega));obtain ⟨y,hy⟩:=hel len (by omega);refine ⟨l ++ [y],by simp [h1],fun i z hz=>?_⟩;by_cases hi:i < l.length
      · rw [List.getElem?_append_left hi] at hz;exact h2 i z hz
      · rw [List.getElem?_append_right (by omega)] at hz;obtain ⟨hlt,rfl⟩:i - l.length=0∧y=z:=by
         rcases Nat.eq_zero_or_pos (i - l.length) with h0 | h0
         · rw [h0] at hz;exact ⟨h0,by simpa using hz⟩
         · rw [List.getElem?_eq_none (by simp;omega)] at hz;cases hz
        obtain rfl:i=len:=by omega
        exact hy
   obtain ⟨l,h1,h2⟩:=hex;subst h1;refine ⟨l,_,rfl,some a,cap,rfl,hl,hm,fun k y hk=>?_⟩;obtain ⟨cs',hy,hcl,hc⟩:=h2 k y hk;have hs:a.spot=none:=by
    have hkl:k < l.length:=(List.getElem?_eq_some_iff.1 hk).1;obtain ⟨cs0,_,hcl0,hc0⟩:=h2 0 (l[0]'(by omega)) (List.getElem?_eq_getElem (by omega));have h0:=hc0 0 hz;rw [List.getElem?_eq_getElem (by omega),Nat.zero_mul] at h0;have:=World.cell?_spot h0;simpa [Addr.add] using this
   obtain ⟨b,o,s⟩:=a;obtain rfl:s=none:=hs;refine ⟨b,o,cs',rfl,trivial,hy,fun j v hj=>?_⟩;have hjl:j < cs'.length:=(List.getElem?_eq_some_iff.1 hj).1;have:=hc j (by omega);rw [hj] at this;rw [← this,Addr.add_mid,Addr.add_mid]
section
variable {H:Type} {enc:TypeId × Value→H} {P:Program}
theorem CU (hl:laidOutB P=true) {W W':World} (hb:Ext W W') {sp:Nat→Bool}:∀ {ts:List TypeId} {vs:List Value} {ds:List (DataW H)} {ps:List MemPlace},(∀ t∈ts,P.readableRec t=true∧t < P.types.size) →
 DataW.TrodAll enc P W 0 (fun _=>true) true ts vs ds ps→(∀ p∈ps,p.block < W.heap.size)→(∀ p∈ps,sp p.block=true)→DataW.TrodAll enc P W' 0 sp true ts vs ds ps
 | [],[],[],_,_,h,_,_=>h
 | _ :: _,_ :: _,_ :: _,_,hT,⟨p,q,h1,h2,e⟩,hlt,hs=>by
   subst e;refine ⟨p,q,?_,CU hl hb (fun t ht=>hT t (List.mem_cons_of_mem _ ht)) h2 (fun x hx=>hlt x (List.mem_append_right _ hx)) (fun x hx=>hs x (List.mem_append_right _ hx)),rfl⟩;exact WideElems.Trod_stays hl (hT _ (List.mem_cons_self ..)).1 (hT _ (List.mem_cons_self ..)).2 h1 (fun x hx=>Below.same hb (hlt x (List.mem_append_left _ hx))) (fun x hx=>hs x (List.mem_append_left _ hx))
theorem VE {f:Func} {s:ChangeSpec} {apart fresh handsOn again:Bool} {W W':World} {args:Array Value} {ds:List (DataW H)} {before:List MemPlace} {tb:TypeId}
 (hl:laidOutB P=true) (hr:f.resultTypes = #[tb]) (hb:P.underlying tb=.some .bool) (hT:∀ t∈f.params.toList,P.readableRec t=true∧t < P.types.size)
 (hsv:s.vars = []) (hfn:s.fn H (ds ++ []) = { results:=[.lit (.bool true)],args:=ds })
 (hW:DataW.Whole enc P f.params.toList s.vars apart W args.toList ds [] before) (hx:Ext W W') :
 s.post enc P f apart fresh handsOn again W args (.bool true) W':=by
 have hlt:∀ p∈before,p.block < W.heap.size:=fun p hp=>hW.lt p hp;have hold:∀ p∈before,(fun b=>decide (b < W.heap.size)) p.block=true:=fun p hp=>by simpa using hlt p hp
 have hW':=hW;obtain ⟨pa,pv,hA,hV,rfl,hz,hn⟩:=hW;rw [hsv] at hV;obtain rfl:pv = []:=hV;rw [List.append_nil] at hlt hold hz hn hW';have hargs:∀ sp:Nat→Bool,(∀ p∈pa,sp p.block=true)→DataW.TrodAll enc P W' 0 sp true f.params.toList args.toList (s.fn H (ds ++ [])).args pa:=fun sp hs=>by
  rw [hfn];exact CU hl hx hT hA hlt hs
 have hres:∀ (b:Nat) (sp:Nat→Bool) (hd:Bool),DataW.TrodAll enc P W' b sp hd f.resultTypes.toList ((Value.bool true).resultList f.resultTypes.size) (s.fn H (ds ++ [])).results []:=fun b sp hd=>by
  rw [hfn,hr];exact trodAll_mk1 (shut_bool hb true)
 have hvars:∀ sp:Nat→Bool,DataW.TrodVars enc P W' sp s.vars (s.fn H (ds ++ [])).vars []:=fun sp=>by
  rw [hfn,hsv];exact rfl
 refine ⟨ds,[],pa,[],pa,[],hW',hres _ _ _,hargs _ hold,hvars _,World.keptBut_mono (fun p hp=>⟨hp,Or.inr (Or.inl hp)⟩) (Below.frame hx (·∈pa)),fun _=>?_⟩;refine ⟨ok_one hr rfl (okWide_bool_mk hb true),_,_,([] ++ pa) ++ [],⟨[] ++ pa,[],trodAll_append (hargs _ (fun _ _=>rfl)) (hres _ _ _),hvars _,rfl,?_,?_⟩,?_⟩
 · intro b off hp;have hin:MemPlace.cell b off∈pa:=by simpa using hp
   rw [Below.frozen hx (hlt _ hin)];exact hz b off hin
 · intro ha;simpa using hn ha
 · intro p hp _;simpa using hp
end
theorem gW:Opens prog 2 fC:=V8 underlying2
theorem lK:Opens prog 33 aH:=by
 intro H enc w base spare held fuel cs x h;obtain ⟨xs,n,_,_,hlen,hxl,hf⟩:=DataW.trod_struct underlying33 h;have hlen2:cs.length=2:=hlen.trans (by kernel_rfl);clear hlen;obtain ⟨c0,r0,rfl,k0⟩:=bK hlen2;obtain ⟨c1,r1,rfl,k1⟩:=bK k0;obtain rfl:=List.eq_nil_of_length_eq_zero k1;clear hlen2 k0 k1;have f0:DataW.trod enc prog w base spare held n 2 (([c0,c1].drop 0).take (prog.cellsOf 2))=xs[0]?:=hf 0 _ rfl;have z0:prog.cellsOf 2=1:=by kernel_rfl
 rw [z0,List.getElem?_eq_getElem (show 0 < xs.length from by rw [hxl];decide)] at f0;have f1:DataW.trod enc prog w base spare held n 2 (([c0,c1].drop 1).take (prog.cellsOf 2))=xs[1]?:=hf 1 _ rfl;have z1:prog.cellsOf 2=1:=by kernel_rfl
 rw [z1,List.getElem?_eq_getElem (show 1 < xs.length from by rw [hxl];decide)] at f1;obtain ⟨y0,g0⟩:=gW f0;clear f0;obtain ⟨e0,i0⟩:=g0;obtain rfl:c0=.int .i64 y0:=by simpa using e0
 obtain ⟨y1,g1⟩:=gW f1;clear f1;obtain ⟨e1,i1⟩:=g1;obtain rfl:c1=.int .i64 y1:=by simpa using e1
 refine ⟨⟨y0,y1⟩,rfl,?_⟩;simp only [aP] at *;simp only [i0,i1,and_self]
theorem EO:Opens prog 9 aky:=ab8 underlying9
theorem SS:Opens prog 74 (gU fC):=nU underlying74 (by kernel_rfl) (by decide) gW
theorem Yw:Opens prog 217 fA:=by
 intro H enc w base spare held fuel cs x h;obtain ⟨xs,n,_,_,hlen,hxl,hf⟩:=DataW.trod_struct underlying217 h;have hlen2:cs.length=5:=hlen.trans (by kernel_rfl);clear hlen;obtain ⟨c0,r0,rfl,k0⟩:=bK hlen2;obtain ⟨c1,r1,rfl,k1⟩:=bK k0;obtain ⟨c2,r2,rfl,k2⟩:=bK k1;obtain ⟨c3,r3,rfl,k3⟩:=bK k2;obtain ⟨c4,r4,rfl,k4⟩:=bK k3;obtain rfl:=List.eq_nil_of_length_eq_zero k4;clear hlen2 k0 k1 k2 k3 k4;have f0:DataW.trod enc prog w base spare held n 33 (([c0,c1,c2,c3,c4].drop 0).take (prog.cellsOf 33))=xs[0]?:=hf 0 _ rfl;have z0:prog.cellsOf 33=2:=by kernel_rfl
 rw [z0,List.getElem?_eq_getElem (show 0 < xs.length from by rw [hxl];decide)] at f0;have f1:DataW.trod enc prog w base spare held n 33 (([c0,c1,c2,c3,c4].drop 2).take (prog.cellsOf 33))=xs[1]?:=hf 1 _ rfl;have z1:prog.cellsOf 33=2:=by kernel_rfl
 rw [z1,List.getElem?_eq_getElem (show 1 < xs.length from by rw [hxl];decide)] at f1;have f2:DataW.trod enc prog w base spare held n 2 (([c0,c1,c2,c3,c4].drop 4).take (prog.cellsOf 2))=xs[2]?:=hf 2 _ rfl;have z2:prog.cellsOf 2=1:=by kernel_rfl
 rw [z2,List.getElem?_eq_getElem (show 2 < xs.length from by rw [hxl];decide)] at f2;obtain ⟨y0,g0⟩:=lK f0;clear f0;obtain ⟨e0,i0⟩:=g0;simp only [aQ,List.drop_zero,List.take_succ_cons,List.take_zero,List.cons.injEq,and_true] at e0;obtain ⟨rfl,rfl⟩:=e0;obtain ⟨y1,g1⟩:=lK f1;clear f1;obtain ⟨e1,i1⟩:=g1;simp only [aQ,List.drop_zero,List.drop_succ_cons,List.take_succ_cons,List.take_zero,List.cons.injEq,and_true] at e1;obtain ⟨rfl,rfl⟩:=e1;obtain ⟨y2,g2⟩:=gW f2;clear f2;obtain ⟨e2,i2⟩:=g2;obtain rfl:c4=.int .i64 y2:=by simpa using e2
 refine ⟨⟨y0,y1,y2⟩,rfl,?_⟩;simp only [nN,aP,aP] at *;simp only [i0,i1,i2,and_self]
theorem VZ:Opens prog 220 dJ:=by
 intro H enc w base spare held fuel cs x h;obtain ⟨xs,n,_,_,hlen,hxl,hf⟩:=DataW.trod_struct underlying220 h;have hlen2:cs.length=3:=hlen.trans (by kernel_rfl);clear hlen;obtain ⟨c0,r0,rfl,k0⟩:=bK hlen2;obtain ⟨c1,r1,rfl,k1⟩:=bK k0;obtain ⟨c2,r2,rfl,k2⟩:=bK k1;obtain rfl:=List.eq_nil_of_length_eq_zero k2;clear hlen2 k0 k1 k2;have f0:DataW.trod enc prog w base spare held n 33 (([c0,c1,c2].drop 0).take (prog.cellsOf 33))=xs[0]?:=hf 0 _ rfl;have z0:prog.cellsOf 33=2:=by kernel_rfl
 rw [z0,List.getElem?_eq_getElem (show 0 < xs.length from by rw [hxl];decide)] at f0;have f1:DataW.trod enc prog w base spare held n 2 (([c0,c1,c2].drop 2).take (prog.cellsOf 2))=xs[1]?:=hf 1 _ rfl;have z1:prog.cellsOf 2=1:=by kernel_rfl
 rw [z1,List.getElem?_eq_getElem (show 1 < xs.length from by rw [hxl];decide)] at f1;obtain ⟨y0,g0⟩:=lK f0;clear f0;obtain ⟨e0,i0⟩:=g0;simp only [aQ,List.drop_zero,List.take_succ_cons,List.take_zero,List.cons.injEq,and_true] at e0;obtain ⟨rfl,rfl⟩:=e0;obtain ⟨y1,g1⟩:=gW f1;clear f1;obtain ⟨e1,i1⟩:=g1;obtain rfl:c2=.int .i64 y1:=by simpa using e1
 refine ⟨⟨y0,y1⟩,rfl,?_⟩;simp only [rE,aP] at *;simp only [i0,i1,and_self]
theorem SV:Opens prog 197 (gU aH):=nU underlying197 (by kernel_rfl) (by decide) lK
theorem Ph:Opens prog 22 (gU (gU aH)):=nU underlying22 (by kernel_rfl) (by decide) SV
theorem VY:Opens prog 23 (gU fA):=nU underlying23 (by kernel_rfl) (by decide) Yw
theorem SX:Opens prog 24 (gU dJ):=nU underlying24 (by kernel_rfl) (by decide) VZ
theorem SQ:Opens prog 26 gV:=by
 intro H enc w base spare held fuel cs x h;obtain ⟨xs,n,_,_,hlen,hxl,hf⟩:=DataW.trod_struct underlying26 h;have hlen2:cs.length=4:=hlen.trans (by kernel_rfl);clear hlen;obtain ⟨c0,r0,rfl,k0⟩:=bK hlen2;obtain ⟨c1,r1,rfl,k1⟩:=bK k0;obtain ⟨c2,r2,rfl,k2⟩:=bK k1;obtain ⟨c3,r3,rfl,k3⟩:=bK k2;obtain rfl:=List.eq_nil_of_length_eq_zero k3;clear hlen2 k0 k1 k2 k3;have f0:DataW.trod enc prog w base spare held n 22 (([c0,c1,c2,c3].drop 0).take (prog.cellsOf 22))=xs[0]?:=hf 0 _ rfl;have z0:prog.cellsOf 22=1:=by kernel_rfl
 rw [z0,List.getElem?_eq_getElem (show 0 < xs.length from by rw [hxl];decide)] at f0;have f1:DataW.trod enc prog w base spare held n 23 (([c0,c1,c2,c3].drop 1).take (prog.cellsOf 23))=xs[1]?:=hf 1 _ rfl;have z1:prog.cellsOf 23=1:=by kernel_rfl
 rw [z1,List.getElem?_eq_getElem (show 1 < xs.length from by rw [hxl];decide)] at f1;have f2:DataW.trod enc prog w base spare held n 24 (([c0,c1,c2,c3].drop 2).take (prog.cellsOf 24))=xs[2]?:=hf 2 _ rfl;have z2:prog.cellsOf 24=1:=by kernel_rfl
 rw [z2,List.getElem?_eq_getElem (show 2 < xs.length from by rw [hxl];decide)] at f2;have f3:DataW.trod enc prog w base spare held n 2 (([c0,c1,c2,c3].drop 3).take (prog.cellsOf 2))=xs[3]?:=hf 3 _ rfl;have z3:prog.cellsOf 2=1:=by kernel_rfl
 rw [z3,List.getElem?_eq_getElem (show 3 < xs.length from by rw [hxl];decide)] at f3;obtain ⟨y0,g0⟩:=Ph f0;clear f0;obtain ⟨v0,e0,i0⟩:=g0;obtain rfl:c0=v0:=by simpa using e0
 obtain ⟨y1,g1⟩:=VY f1;clear f1;obtain ⟨v1,e1,i1⟩:=g1;obtain rfl:c1=v1:=by simpa using e1
 obtain ⟨y2,g2⟩:=SX f2;clear f2;obtain ⟨v2,e2,i2⟩:=g2;obtain rfl:c2=v2:=by simpa using e2
 obtain ⟨y3,g3⟩:=gW f3;clear f3;obtain ⟨e3,i3⟩:=g3;obtain rfl:c3=.int .i64 y3:=by simpa using e3
 refine ⟨⟨y0,y1,y2,y3⟩,_,_,_,rfl,?_,i0,i1,i2⟩;simp only [iC] at *;simp only [i3]
end Go.Proofs.YtbdicafambkhdaaGreat
namespace Go.Proofs.YtbdicafambkhdaaGreat
open Go.Proofs.Tryz
open Go.RowKit
attribute [local irreducible] wpQuiet
theorem KZ {S S':Nat→Prop} (x y:Span) (cs ds:List Value) (w:World) (h:dM.rel S w cs x) (g:dM.rel S' w ds y) :
 Calls prog 278 #[.agg cs.toArray,.agg ds.toArray] w fun e w'=>e=.returned (.bool (decide (x=y)))∧Ext w w':=by
 obtain ⟨rfl,hi⟩:=h;obtain ⟨rfl,gi⟩:=g;have HI:=ah hi;have GI:=ah gi;clear hi gi;simp only [nO];go_enter func278,ntmps278;go_upto_region 1 with (fail)
 obtain ⟨W,B,hW,hB,hx0,a0,b0⟩:=eY w (Rs x) (Rs y) 142 142;rw [← hW,← hB];clear hW hB;have X0:=ah hx0;have A0:=ah a0;have B0:=ah b0;clear hx0 a0 b0;have ac:=A0.out.cell;have bc:=B0.out.cell;go_wp2_with fail;all_goals (go_ret;exact ⟨au (by go_light;clear ac bc;simp_all [Span.ext_iff]),by first | exact X0.out⟩)
theorem U1 {S S':Nat→Prop} (l m:List Span) (v u:Value) (w:World) (h:Rd dM S w v l) (g:Rd dM S' w u m) :
 Calls prog 229 #[v,u] w fun e w'=>e=.returned (.bool (decide (l=m)))∧Ext w w':=by
 obtain ⟨A,c,rfl,h1,h2,hk⟩:=h.open_;obtain ⟨A',c',rfl,g1,g2,gk⟩:=g.open_;unfold maxLen at h2 g2;have HK:=ah hk;have GK:=ah gk;clear hk gk h g;by_cases hl:l.length=m.length
 · generalize hn:m.length=n at *;have HN:=ah hn;subst hl;clear hn;go_enter func229,ntmps229;go_wp2_with fail;go_loopw [5] (fun i w'=>∃ k:Nat,k≤l.length∧i=.int .i64 k∧(∀ j,j < k→nth l j=nth m j)∧Ext w w') (fun i _=>l.length - (intOf i).toNat);case atStart=>exact ⟨0,by omega,rfl,fun j hj=>by omega,Ext.refl _⟩
   case round =>
    obtain ⟨k,hk1,rfl,hall,hx⟩:=hrel;have HA:=ah hall;have HX:=ah hx;clear hall;by_cases hlt:k < l.length
    · obtain ⟨b,o,cs,rfl,hb,hr,hc⟩:=HK.out k hlt;obtain ⟨b',o',ds,rfl,gb,gr,gc⟩:=GK.out k hlt;have HR:=ah (dM.keep (hx.same S) hr);have GR:=ah (dM.keep (hx.same S') gr);have HC:=ah (hx.range hc);have GC:=ah (hx.range gc);have HI:Hid ((prog.info? 142).map (·.size)=some cs.length):=ah (by rw [dM.len hr];kernel_rfl);have GI:Hid ((prog.info? 142).map (·.size)=some ds.length):=ah (by rw [dM.len gr];kernel_rfl);clear hr gr hc gc hx;by_cases he:nth l k=nth m k
      · have HE:=ah he;have e1:decide (nth l k=nth m k)=true:=by simp [he]
        clear he;go_wp2_with fail;refine ak (by kernel_rfl) (by kernel_rfl) ?_;repeat (
         first
         | (refine aS (by rfl) 142 _ rfl b (o+k * 2) rfl cs _ (fun bH aj=>aj.range HC.out) underlying142 rfl HI.out ?_;simp only [Act.put,List.setIfInBounds_toArray,List.set_cons_zero,List.set_cons_succ])
         | (refine aS (by rfl) 142 _ rfl b' (o'+k * 2) rfl ds _ (fun bH aj=>aj.range GC.out) underlying142 rfl GI.out ?_;simp only [Act.put,List.setIfInBounds_toArray,List.set_cons_zero,List.set_cons_succ])
         | (refine wpQuiet_step (fun K hK=>?_)
            go_simp;first
             | (refine hK _ ?_;clear hK K)
             | (apply Exists.intro
                refine ⟨fun bH aj=>?_,hK _ ?_⟩
                · first | exact rfl | (go_simp;done) | (go_simp;exact rfl) | (go_at_call 278;exact aJ aj (KZ (nth l k) (nth m k) cs ds _ (dM.keep (aj.same S) HR.out) (dM.keep (aj.same S') GR.out)))
                clear hK K)))
        refine wpQuiet_nil ?_;intro w1 hx1;go_wp2_with fail;go_roundw;case rel=>exact ⟨k+1,by omega,by go_num,all_succ HA.out HE.out,HX.out.trans hx1⟩
        case measure=>simp [intOf];omega
      · have HE:=ah he;have e1:decide (nth l k=nth m k)=false:=by simp [he]
        clear he;go_wp2_with fail;refine ak (by kernel_rfl) (by kernel_rfl) ?_;repeat (
         first
         | (refine aS (by rfl) 142 _ rfl b (o+k * 2) rfl cs _ (fun bH aj=>aj.range HC.out) underlying142 rfl HI.out ?_;simp only [Act.put,List.setIfInBounds_toArray,List.set_cons_zero,List.set_cons_succ])
         | (refine aS (by rfl) 142 _ rfl b' (o'+k * 2) rfl ds _ (fun bH aj=>aj.range GC.out) underlying142 rfl GI.out ?_;simp only [Act.put,List.setIfInBounds_toArray,List.set_cons_zero,List.set_cons_succ])
         | (refine wpQuiet_step (fun K hK=>?_)
            go_simp;first
             | (refine hK _ ?_;clear hK K)
             | (apply Exists.intro
                refine ⟨fun bH aj=>?_,hK _ ?_⟩
                · first | exact rfl | (go_simp;done) | (go_simp;exact rfl) | (go_at_call 278;exact aJ aj (KZ (nth l k) (nth m k) cs ds _ (dM.keep (aj.same S) HR.out) (dM.keep (aj.same S') GR.out)))
                clear hK K)))
        refine wpQuiet_nil ?_;intro w1 hx1;go_wp2_with fail;go_ret;exact ⟨au (decide_eq_false fun e=>HE.out (by rw [e])).symm,HX.out.trans hx1⟩
    · have HF:Hid (decide (l=m)=true):=ah (decide_eq_true (mg HN.out.symm fun j hj=>HA.out j (by omega)));go_wp2_with fail;go_ret;exact ⟨au HF.out.symm,HX.out⟩
 · have HL:=ah hl;have e1:((l.length:Int) != (m.length:Int))=true:=by simp;omega
   have e2:(l.length != m.length)=true:=by simp;omega
   go_enter func229,ntmps229;go_wp2_with fail;go_ret;exact ⟨au (decide_eq_false fun e=>HL.out (by rw [e])).symm,Ext.refl _⟩
theorem KW {S S':Nat→Prop} (x y:Node) (cs ds:List Value) (w:World) (h:ENode.rel S w cs x) (g:ENode.rel S' w ds y) :
 Calls prog 126 #[.agg cs.toArray,.agg ds.toArray] w fun e w'=>e=.returned (.bool (decide (x=y)))∧Ext w w':=by
 obtain ⟨v1,rfl,hi,h1⟩:=h;obtain ⟨u1,rfl,gi,g1⟩:=g;have H1:=ah h1;have G1:=ah g1;clear h1 g1;have HI:=ah hi;have GI:=ah gi;clear hi gi;simp only [lG];go_enter func126,ntmps126;go_upto_region 1 with (fail)
 obtain ⟨W,B,hW,hB,hx0,a0,b0⟩:=eY w #[x.state,v1] #[y.state,u1] 151 151;rw [← hW,← hB];clear hW hB;have X0:=ah hx0;have A0:=ah a0;have B0:=ah b0;clear hx0 a0 b0;have ac:=A0.out.cell;have bc:=B0.out.cell;go_wp2_with (first
  | (go_at_call 229;(with_reducible refine (U1 x.books y.books v1 u1 _ (H1.out.ext X0.out) (G1.out.ext X0.out)).mono ?_);rintro e w1 ⟨rfl,hx⟩;have X1:=ah (X0.out.trans hx);have A1:=ah (A0.out.ext hx);have B1:=ah (B0.out.ext hx);clear hx X0 A0 B0 ac bc;have ac:=A1.out.cell;have bc:=B1.out.cell))
 all_goals (go_ret;exact ⟨au (by go_light;clear ac bc;simp_all [Node.ext_iff]),by first | exact X1.out | exact X0.out⟩)
theorem Qh {S S':Nat→Prop} (x y:Use) (cs ds:List Value) (w:World) (h:dX.rel S w cs x) (g:dX.rel S' w ds y) :
 Calls prog 128 #[.agg cs.toArray,.agg ds.toArray] w fun e w'=>e=.returned (.bool (decide (x=y)))∧Ext w w':=by
 obtain ⟨rfl,hi⟩:=h;obtain ⟨rfl,gi⟩:=g;have HI:=ah hi;have GI:=ah gi;clear hi gi;simp only [kN];go_enter func128,ntmps128;go_upto_region 1 with (fail)
 obtain ⟨W,B,hW,hB,hx0,a0,b0⟩:=eY w (Ru x) (Ru y) 138 138;rw [← hW,← hB];clear hW hB;have X0:=ah hx0;have A0:=ah a0;have B0:=ah b0;clear hx0 a0 b0;have ac:=A0.out.cell;have bc:=B0.out.cell;go_wp2_with (first
  | (go_at_call 129;(with_reducible refine (kR (S:=S) (S':=S') x.label y.label [x.label.level,x.label.set] [y.label.level,y.label.set] _ (aC (by have hf:=HI.out;simp only [wQ] at hf;simp only [aP,hf,and_self])) (aC (by have hf:=GI.out;simp only [wQ] at hf;simp only [aP,hf,and_self]))).mono ?_);rintro e w1 ⟨rfl,hx⟩;have X1:=ah (X0.out.trans hx);have A1:=ah (A0.out.ext hx);have B1:=ah (B0.out.ext hx);clear hx X0 A0 B0 ac bc;have ac:=A1.out.cell;have bc:=B1.out.cell))
 all_goals (go_ret;exact ⟨au (by go_light;clear ac bc;simp_all [Use.ext_iff,Gm]),by first | exact X1.out | exact X0.out⟩)
theorem La {S S':Nat→Prop} (x y:Task) (cs ds:List Value) (w:World) (h:ETask.rel S w cs x) (g:ETask.rel S' w ds y) :
 Calls prog 127 #[.agg cs.toArray,.agg ds.toArray] w fun e w'=>e=.returned (.bool (decide (x=y)))∧Ext w w':=by
 obtain ⟨v1,rfl,hi,h1⟩:=h;obtain ⟨u1,rfl,gi,g1⟩:=g;have H1:=ah h1;have G1:=ah g1;clear h1 g1;have HI:=ah hi;have GI:=ah gi;clear hi gi;simp only [aB];go_enter func127,ntmps127;go_upto_region 1 with (fail)
 obtain ⟨W,B,hW,hB,hx0,a0,b0⟩:=eY w (Rt x v1) (Rt y u1) 76 76;rw [← hW,← hB];clear hW hB;have X0:=ah hx0;have A0:=ah a0;have B0:=ah b0;clear hx0 a0 b0;have ac:=A0.out.cell;have bc:=B0.out.cell;go_wp2_with (first
  | (go_at_call 129;(with_reducible refine (kR (S:=S) (S':=S') x.label y.label [x.label.level,x.label.set] [y.label.level,y.label.set] _ (aC (by have hf:=HI.out;simp only [eH] at hf;simp only [aP,hf,and_self])) (aC (by have hf:=GI.out;simp only [eH] at hf;simp only [aP,hf,and_self]))).mono ?_);rintro e w1 ⟨rfl,hx⟩;have X1:=ah (X0.out.trans hx);have A1:=ah (A0.out.ext hx);have B1:=ah (B0.out.ext hx);clear hx X0 A0 B0 ac bc;have ac:=A1.out.cell;have bc:=B1.out.cell)
  | (go_at_call 129;(with_reducible refine (kR (S:=S) (S':=S') x.under y.under [x.under.level,x.under.set] [y.under.level,y.under.set] _ (aC (by have hf:=HI.out;simp only [eH] at hf;simp only [aP,hf,and_self])) (aC (by have hf:=GI.out;simp only [eH] at hf;simp only [aP,hf,and_self]))).mono ?_);rintro e w2 ⟨rfl,hx⟩;have X2:=ah (X1.out.trans hx);have A2:=ah (A1.out.ext hx);have B2:=ah (B1.out.ext hx);clear hx X1 A1 B1 ac bc;have ac:=A2.out.cell;have bc:=B2.out.cell)
  | (go_at_call 130;(with_reducible refine (Ew x.nodes y.nodes v1 u1 _ (H1.out.ext X2.out) (G1.out.ext X2.out)).mono ?_);rintro e w3 ⟨rfl,hx⟩;have X3:=ah (X2.out.trans hx);have A3:=ah (A2.out.ext hx);have B3:=ah (B2.out.ext hx);clear hx X2 A2 B2 ac bc;have ac:=A3.out.cell;have bc:=B3.out.cell))
 all_goals (go_ret;exact ⟨au (by go_light;clear ac bc;simp_all [Task.ext_iff,Gm]),by first | exact X3.out | exact X2.out | exact X1.out | exact X0.out⟩)
theorem UZ {S S':Nat→Prop} (l m:List Node) (v u:Value) (w:World) (h:Rd ENode S w v l) (g:Rd ENode S' w u m) :
 Calls prog 46 #[v,u] w fun e w'=>e=.returned (.bool (decide (l=m)))∧Ext w w':=by
 obtain ⟨A,c,rfl,h1,h2,hk⟩:=h.open_;obtain ⟨A',c',rfl,g1,g2,gk⟩:=g.open_;unfold maxLen at h2 g2;have HK:=ah hk;have GK:=ah gk;clear hk gk h g;by_cases hl:l.length=m.length
 · generalize hn:m.length=n at *;have HN:=ah hn;subst hl;clear hn;go_enter func46,ntmps46;go_wp2_with fail;go_loopw [5] (fun i w'=>∃ k:Nat,k≤l.length∧i=.int .i64 k∧(∀ j,j < k→nth l j=nth m j)∧Ext w w') (fun i _=>l.length - (intOf i).toNat);case atStart=>exact ⟨0,by omega,rfl,fun j hj=>by omega,Ext.refl _⟩
   case round =>
    obtain ⟨k,hk1,rfl,hall,hx⟩:=hrel;have HA:=ah hall;have HX:=ah hx;clear hall;by_cases hlt:k < l.length
    · obtain ⟨b,o,cs,rfl,hb,hr,hc⟩:=HK.out k hlt;obtain ⟨b',o',ds,rfl,gb,gr,gc⟩:=GK.out k hlt;have HR:=ah (ENode.keep (hx.same S) hr);have GR:=ah (ENode.keep (hx.same S') gr);have HC:=ah (hx.range hc);have GC:=ah (hx.range gc);have HI:Hid ((prog.info? 151).map (·.size)=some cs.length):=ah (by rw [ENode.len hr];kernel_rfl);have GI:Hid ((prog.info? 151).map (·.size)=some ds.length):=ah (by rw [ENode.len gr];kernel_rfl);clear hr gr hc gc hx;by_cases he:nth l k=nth m k
      · have HE:=ah he;have e1:decide (nth l k=nth m k)=true:=by simp [he]
        clear he;go_wp2_with fail;refine ak (by kernel_rfl) (by kernel_rfl) ?_;repeat (
         first
         | (refine aS (by rfl) 151 _ rfl b (o+k * 2) rfl cs _ (fun bH aj=>aj.range HC.out) underlying151 rfl HI.out ?_;simp only [Act.put,List.setIfInBounds_toArray,List.set_cons_zero,List.set_cons_succ])
         | (refine aS (by rfl) 151 _ rfl b' (o'+k * 2) rfl ds _ (fun bH aj=>aj.range GC.out) underlying151 rfl GI.out ?_;simp only [Act.put,List.setIfInBounds_toArray,List.set_cons_zero,List.set_cons_succ])
         | (refine wpQuiet_step (fun K hK=>?_)
            go_simp;first
             | (refine hK _ ?_;clear hK K)
             | (apply Exists.intro
                refine ⟨fun bH aj=>?_,hK _ ?_⟩
                · first | exact rfl | (go_simp;done) | (go_simp;exact rfl) | (go_at_call 126;exact aJ aj (KW (nth l k) (nth m k) cs ds _ (ENode.keep (aj.same S) HR.out) (ENode.keep (aj.same S') GR.out)))
                clear hK K)))
        refine wpQuiet_nil ?_;intro w1 hx1;go_wp2_with fail;go_roundw;case rel=>exact ⟨k+1,by omega,by go_num,all_succ HA.out HE.out,HX.out.trans hx1⟩
        case measure=>simp [intOf];omega
      · have HE:=ah he;have e1:decide (nth l k=nth m k)=false:=by simp [he]
        clear he;go_wp2_with fail;refine ak (by kernel_rfl) (by kernel_rfl) ?_;repeat (
         first
         | (refine aS (by rfl) 151 _ rfl b (o+k * 2) rfl cs _ (fun bH aj=>aj.range HC.out) underlying151 rfl HI.out ?_;simp only [Act.put,List.setIfInBounds_toArray,List.set_cons_zero,List.set_cons_succ])
         | (refine aS (by rfl) 151 _ rfl b' (o'+k * 2) rfl ds _ (fun bH aj=>aj.range GC.out) underlying151 rfl GI.out ?_;simp only [Act.put,List.setIfInBounds_toArray,List.set_cons_zero,List.set_cons_succ])
         | (refine wpQuiet_step (fun K hK=>?_)
            go_simp;first
             | (refine hK _ ?_;clear hK K)
             | (apply Exists.intro
                refine ⟨fun bH aj=>?_,hK _ ?_⟩
                · first | exact rfl | (go_simp;done) | (go_simp;exact rfl) | (go_at_call 126;exact aJ aj (KW (nth l k) (nth m k) cs ds _ (ENode.keep (aj.same S) HR.out) (ENode.keep (aj.same S') GR.out)))
                clear hK K)))
        refine wpQuiet_nil ?_;intro w1 hx1;go_wp2_with fail;go_ret;exact ⟨au (decide_eq_false fun e=>HE.out (by rw [e])).symm,HX.out.trans hx1⟩
    · have HF:Hid (decide (l=m)=true):=ah (decide_eq_true (mg HN.out.symm fun j hj=>HA.out j (by omega)));go_wp2_with fail;go_ret;exact ⟨au HF.out.symm,HX.out⟩
 · have HL:=ah hl;have e1:((l.length:Int) != (m.length:Int))=true:=by simp;omega
   have e2:(l.length != m.length)=true:=by simp;omega
   go_enter func46,ntmps46;go_wp2_with fail;go_ret;exact ⟨au (decide_eq_false fun e=>HL.out (by rw [e])).symm,Ext.refl _⟩
theorem U2 {S S':Nat→Prop} (l m:List Task) (v u:Value) (w:World) (h:Rd ETask S w v l) (g:Rd ETask S' w u m) :
 Calls prog 47 #[v,u] w fun e w'=>e=.returned (.bool (decide (l=m)))∧Ext w w':=by
 obtain ⟨A,c,rfl,h1,h2,hk⟩:=h.open_;obtain ⟨A',c',rfl,g1,g2,gk⟩:=g.open_;unfold maxLen at h2 g2;have HK:=ah hk;have GK:=ah gk;clear hk gk h g;by_cases hl:l.length=m.length
 · generalize hn:m.length=n at *;have HN:=ah hn;subst hl;clear hn;go_enter func47,ntmps47;go_wp2_with fail;go_loopw [5] (fun i w'=>∃ k:Nat,k≤l.length∧i=.int .i64 k∧(∀ j,j < k→nth l j=nth m j)∧Ext w w') (fun i _=>l.length - (intOf i).toNat);case atStart=>exact ⟨0,by omega,rfl,fun j hj=>by omega,Ext.refl _⟩
   case round =>
    obtain ⟨k,hk1,rfl,hall,hx⟩:=hrel;have HA:=ah hall;have HX:=ah hx;clear hall;by_cases hlt:k < l.length
    · obtain ⟨b,o,cs,rfl,hb,hr,hc⟩:=HK.out k hlt;obtain ⟨b',o',ds,rfl,gb,gr,gc⟩:=GK.out k hlt;have HR:=ah (ETask.keep (hx.same S) hr);have GR:=ah (ETask.keep (hx.same S') gr);have HC:=ah (hx.range hc);have GC:=ah (hx.range gc);have HI:Hid ((prog.info? 76).map (·.size)=some cs.length):=ah (by rw [ETask.len hr];kernel_rfl);have GI:Hid ((prog.info? 76).map (·.size)=some ds.length):=ah (by rw [ETask.len gr];kernel_rfl);clear hr gr hc gc hx;by_cases he:nth l k=nth m k
      · have HE:=ah he;have e1:decide (nth l k=nth m k)=true:=by simp [he]
        clear he;go_wp2_with fail;refine ak (by kernel_rfl) (by kernel_rfl) ?_;repeat (
         first
         | (refine aS (by rfl) 76 _ rfl b (o+k * 14) rfl cs _ (fun bH aj=>aj.range HC.out) underlying76 rfl HI.out ?_;simp only [Act.put,List.setIfInBounds_toArray,List.set_cons_zero,List.set_cons_succ])
         | (refine aS (by rfl) 76 _ rfl b' (o'+k * 14) rfl ds _ (fun bH aj=>aj.range GC.out) underlying76 rfl GI.out ?_;simp only [Act.put,List.setIfInBounds_toArray,List.set_cons_zero,List.set_cons_succ])
         | (refine wpQuiet_step (fun K hK=>?_)
            go_simp;first
             | (refine hK _ ?_;clear hK K)
             | (apply Exists.intro
                refine ⟨fun bH aj=>?_,hK _ ?_⟩
                · first | exact rfl | (go_simp;done) | (go_simp;exact rfl) | (go_at_call 127;exact aJ aj (La (nth l k) (nth m k) cs ds _ (ETask.keep (aj.same S) HR.out) (ETask.keep (aj.same S') GR.out)))
                clear hK K)))
        refine wpQuiet_nil ?_;intro w1 hx1;go_wp2_with fail;go_roundw;case rel=>exact ⟨k+1,by omega,by go_num,all_succ HA.out HE.out,HX.out.trans hx1⟩
        case measure=>simp [intOf];omega
      · have HE:=ah he;have e1:decide (nth l k=nth m k)=false:=by simp [he]
        clear he;go_wp2_with fail;refine ak (by kernel_rfl) (by kernel_rfl) ?_;repeat (
         first
         | (refine aS (by rfl) 76 _ rfl b (o+k * 14) rfl cs _ (fun bH aj=>aj.range HC.out) underlying76 rfl HI.out ?_;simp only [Act.put,List.setIfInBounds_toArray,List.set_cons_zero,List.set_cons_succ])
         | (refine aS (by rfl) 76 _ rfl b' (o'+k * 14) rfl ds _ (fun bH aj=>aj.range GC.out) underlying76 rfl GI.out ?_;simp only [Act.put,List.setIfInBounds_toArray,List.set_cons_zero,List.set_cons_succ])
         | (refine wpQuiet_step (fun K hK=>?_)
            go_simp;first
             | (refine hK _ ?_;clear hK K)
             | (apply Exists.intro
                refine ⟨fun bH aj=>?_,hK _ ?_⟩
                · first | exact rfl | (go_simp;done) | (go_simp;exact rfl) | (go_at_call 127;exact aJ aj (La (nth l k) (nth m k) cs ds _ (ETask.keep (aj.same S) HR.out) (ETask.keep (aj.same S') GR.out)))
                clear hK K)))
        refine wpQuiet_nil ?_;intro w1 hx1;go_wp2_with fail;go_ret;exact ⟨au (decide_eq_false fun e=>HE.out (by rw [e])).symm,HX.out.trans hx1⟩
    · have HF:Hid (decide (l=m)=true):=ah (decide_eq_true (mg HN.out.symm fun j hj=>HA.out j (by omega)));go_wp2_with fail;go_ret;exact ⟨au HF.out.symm,HX.out⟩
 · have HL:=ah hl;have e1:((l.length:Int) != (m.length:Int))=true:=by simp;omega
   have e2:(l.length != m.length)=true:=by simp;omega
   go_enter func47,ntmps47;go_wp2_with fail;go_ret;exact ⟨au (decide_eq_false fun e=>HL.out (by rw [e])).symm,Ext.refl _⟩
theorem XZ {S S':Nat→Prop} (l m:List Use) (v u:Value) (w:World) (h:Rd dX S w v l) (g:Rd dX S' w u m) :
 Calls prog 48 #[v,u] w fun e w'=>e=.returned (.bool (decide (l=m)))∧Ext w w':=by
 obtain ⟨A,c,rfl,h1,h2,hk⟩:=h.open_;obtain ⟨A',c',rfl,g1,g2,gk⟩:=g.open_;unfold maxLen at h2 g2;have HK:=ah hk;have GK:=ah gk;clear hk gk h g;by_cases hl:l.length=m.length
 · generalize hn:m.length=n at *;have HN:=ah hn;subst hl;clear hn;go_enter func48,ntmps48;go_wp2_with fail;go_loopw [5] (fun i w'=>∃ k:Nat,k≤l.length∧i=.int .i64 k∧(∀ j,j < k→nth l j=nth m j)∧Ext w w') (fun i _=>l.length - (intOf i).toNat);case atStart=>exact ⟨0,by omega,rfl,fun j hj=>by omega,Ext.refl _⟩
   case round =>
    obtain ⟨k,hk1,rfl,hall,hx⟩:=hrel;have HA:=ah hall;have HX:=ah hx;clear hall;by_cases hlt:k < l.length
    · obtain ⟨b,o,cs,rfl,hb,hr,hc⟩:=HK.out k hlt;obtain ⟨b',o',ds,rfl,gb,gr,gc⟩:=GK.out k hlt;have HR:=ah (dX.keep (hx.same S) hr);have GR:=ah (dX.keep (hx.same S') gr);have HC:=ah (hx.range hc);have GC:=ah (hx.range gc);have HI:Hid ((prog.info? 138).map (·.size)=some cs.length):=ah (by rw [dX.len hr];kernel_rfl);have GI:Hid ((prog.info? 138).map (·.size)=some ds.length):=ah (by rw [dX.len gr];kernel_rfl);clear hr gr hc gc hx;by_cases he:nth l k=nth m k
      · have HE:=ah he;have e1:decide (nth l k=nth m k)=true:=by simp [he]
        clear he;go_wp2_with fail;refine ak (by kernel_rfl) (by kernel_rfl) ?_;repeat (
         first
         | (refine aS (by rfl) 138 _ rfl b (o+k * 4) rfl cs _ (fun bH aj=>aj.range HC.out) underlying138 rfl HI.out ?_;simp only [Act.put,List.setIfInBounds_toArray,List.set_cons_zero,List.set_cons_succ])
         | (refine aS (by rfl) 138 _ rfl b' (o'+k * 4) rfl ds _ (fun bH aj=>aj.range GC.out) underlying138 rfl GI.out ?_;simp only [Act.put,List.setIfInBounds_toArray,List.set_cons_zero,List.set_cons_succ])
         | (refine wpQuiet_step (fun K hK=>?_)
            go_simp;first
             | (refine hK _ ?_;clear hK K)
             | (apply Exists.intro
                refine ⟨fun bH aj=>?_,hK _ ?_⟩
                · first | exact rfl | (go_simp;done) | (go_simp;exact rfl) | (go_at_call 128;exact aJ aj (Qh (nth l k) (nth m k) cs ds _ (dX.keep (aj.same S) HR.out) (dX.keep (aj.same S') GR.out)))
                clear hK K)))
        refine wpQuiet_nil ?_;intro w1 hx1;go_wp2_with fail;go_roundw;case rel=>exact ⟨k+1,by omega,by go_num,all_succ HA.out HE.out,HX.out.trans hx1⟩
        case measure=>simp [intOf];omega
      · have HE:=ah he;have e1:decide (nth l k=nth m k)=false:=by simp [he]
        clear he;go_wp2_with fail;refine ak (by kernel_rfl) (by kernel_rfl) ?_;repeat (
         first
         | (refine aS (by rfl) 138 _ rfl b (o+k * 4) rfl cs _ (fun bH aj=>aj.range HC.out) underlying138 rfl HI.out ?_;simp only [Act.put,List.setIfInBounds_toArray,List.set_cons_zero,List.set_cons_succ])
         | (refine aS (by rfl) 138 _ rfl b' (o'+k * 4) rfl ds _ (fun bH aj=>aj.range GC.out) underlying138 rfl GI.out ?_;simp only [Act.put,List.setIfInBounds_toArray,List.set_cons_zero,List.set_cons_succ])
         | (refine wpQuiet_step (fun K hK=>?_)
            go_simp;first
             | (refine hK _ ?_;clear hK K)
             | (apply Exists.intro
                refine ⟨fun bH aj=>?_,hK _ ?_⟩
                · first | exact rfl | (go_simp;done) | (go_simp;exact rfl) | (go_at_call 128;exact aJ aj (Qh (nth l k) (nth m k) cs ds _ (dX.keep (aj.same S) HR.out) (dX.keep (aj.same S') GR.out)))
                clear hK K)))
        refine wpQuiet_nil ?_;intro w1 hx1;go_wp2_with fail;go_ret;exact ⟨au (decide_eq_false fun e=>HE.out (by rw [e])).symm,HX.out.trans hx1⟩
    · have HF:Hid (decide (l=m)=true):=ah (decide_eq_true (mg HN.out.symm fun j hj=>HA.out j (by omega)));go_wp2_with fail;go_ret;exact ⟨au HF.out.symm,HX.out⟩
 · have HL:=ah hl;have e1:((l.length:Int) != (m.length:Int))=true:=by simp;omega
   have e2:(l.length != m.length)=true:=by simp;omega
   go_enter func48,ntmps48;go_wp2_with fail;go_ret;exact ⟨au (decide_eq_false fun e=>HL.out (by rw [e])).symm,Ext.refl _⟩
theorem Lc {S S':Nat→Prop} (x y:aK) (cs ds:List Value) (w:World) (h:eF.rel S w cs x) (g:eF.rel S' w ds y) :
 Calls prog 12 #[.agg cs.toArray,.agg ds.toArray] w fun e w'=>e=.returned (.bool (decide (x=y)))∧Ext w w':=by
 obtain ⟨v1,v2,v3,v4,v5,v6,rfl,hi,h1,h2,h3,h4,h5,h6⟩:=h;obtain ⟨u1,u2,u3,u4,u5,u6,rfl,gi,g1,g2,g3,g4,g5,g6⟩:=g;have H1:=ah h1;have G1:=ah g1;have H2:=ah h2;have G2:=ah g2;have H3:=ah h3;have G3:=ah g3;have H4:=ah h4;have G4:=ah g4;have H5:=ah h5;have G5:=ah g5;have H6:=ah h6;have G6:=ah g6;clear h1 g1 h2 g2 h3 g3 h4 g4 h5 g5 h6 g6;have HI:=ah hi;have GI:=ah gi;clear hi gi;simp only [bV];go_enter func12,ntmps12;go_upto_region 1 with (fail)
 obtain ⟨W,B,hW,hB,hx0,a0,b0⟩:=eY w #[v1,v2,v3,x.config.half,v4,v5,v6,x.now] #[u1,u2,u3,y.config.half,u4,u5,u6,y.now] 45 45;rw [← hW,← hB];clear hW hB;have X0:=ah hx0;have A0:=ah a0;have B0:=ah b0;clear hx0 a0 b0;have ac:=A0.out.cell;have bc:=B0.out.cell;go_wp2_with (first
  | (go_at_call 45;(with_reducible refine (RV (S:=S) (S':=S') x.config y.config [v1,v2,v3,x.config.half] [u1,u2,u3,y.config.half] _ (aY (by have hf:=HI.out;simp only [qV] at hf;simp only [iC,hf]) (H1.out.ext X0.out) (H2.out.ext X0.out) (H3.out.ext X0.out)) (aY (by have hf:=GI.out;simp only [qV] at hf;simp only [iC,hf]) (G1.out.ext X0.out) (G2.out.ext X0.out) (G3.out.ext X0.out))).mono ?_);rintro e w1 ⟨rfl,hx⟩;have X1:=ah (X0.out.trans hx);have A1:=ah (A0.out.ext hx);have B1:=ah (B0.out.ext hx);clear hx X0 A0 B0 ac bc;have ac:=A1.out.cell;have bc:=B1.out.cell)
  | (go_at_call 46;(with_reducible refine (UZ x.nodes y.nodes v4 u4 _ (H4.out.ext X1.out) (G4.out.ext X1.out)).mono ?_);rintro e w2 ⟨rfl,hx⟩;have X2:=ah (X1.out.trans hx);have A2:=ah (A1.out.ext hx);have B2:=ah (B1.out.ext hx);clear hx X1 A1 B1 ac bc;have ac:=A2.out.cell;have bc:=B2.out.cell)
  | (go_at_call 47;(with_reducible refine (U2 x.tasks y.tasks v5 u5 _ (H5.out.ext X2.out) (G5.out.ext X2.out)).mono ?_);rintro e w3 ⟨rfl,hx⟩;have X3:=ah (X2.out.trans hx);have A3:=ah (A2.out.ext hx);have B3:=ah (B2.out.ext hx);clear hx X2 A2 B2 ac bc;have ac:=A3.out.cell;have bc:=B3.out.cell)
  | (go_at_call 48;(with_reducible refine (XZ x.uses y.uses v6 u6 _ (H6.out.ext X3.out) (G6.out.ext X3.out)).mono ?_);rintro e w4 ⟨rfl,hx⟩;have X4:=ah (X3.out.trans hx);have A4:=ah (A3.out.ext hx);have B4:=ah (B3.out.ext hx);clear hx X3 A3 B3 ac bc;have ac:=A4.out.cell;have bc:=B4.out.cell))
 all_goals (go_ret;exact ⟨au (by go_light;clear ac bc;simp_all [aK.ext_iff]),by first | exact X4.out | exact X3.out | exact X2.out | exact X1.out | exact X0.out⟩)
theorem Xc {S:Nat→Prop} (l:List Span) (v:Value) (left:Int) (w:World) (h:Rd dM S w v l) (h0:0≤left) (h1:left≤1048576) :
 Calls prog 166 #[v,.int .i64 left] w fun e w'=>e=.returned (.int .i64 (Fp l left))∧Ext w w':=by
 obtain ⟨A,c,rfl,h2,h3,hk⟩:=h.open_;unfold maxLen at h3;have HK:=ah hk;clear hk h;go_enter func166,ntmps166;go_wp2;all_goals (go_ret;refine ⟨aI ?_,Ext.refl _⟩;simp only [Fp,pay];split <;> omega)
theorem NU {S:Nat→Prop} (x:Node) (cs:List Value) (left:Int) (w:World) (h:ENode.rel S w cs x) (h0:0≤left) (h1:left≤1048576) :
 Calls prog 77 #[.agg cs.toArray,.int .i64 left] w fun e w'=>e=.returned (.int .i64 (nJ x left))∧Ext w w':=by
 obtain ⟨v1,rfl,hi,h_1⟩:=h;have H1:=ah h_1;clear h_1;have HI:=ah hi;clear hi;simp only [lG];go_enter func77,ntmps77;go_upto_region 1 with (fail)
 obtain ⟨W,B,hW,hB,hx0,hbox⟩:=fH w #[x.state,v1] 120;rw [← hW,← hB];have A0:Hid (aF W B 120 #[x.state,v1]):=ah (by rw [hW,hB];exact aF.new w _ _);have X0:=ah hx0;clear hW hB hbox hx0;have ac:=A0.out.cell;go_wp2_with (first
  | (go_at_call 166;(with_reducible refine (Xc x.books v1 left _ (H1.out.ext X0.out) (by omega) (by omega)).mono ?_);rintro e w1 ⟨rfl,hx⟩;have P1:=ah (EP x.books left (by omega));have X1:=ah (X0.out.trans hx);have A1:=ah (A0.out.ext hx);clear hx X0 A0 ac;have ac:=A1.out.cell))
 all_goals (go_ret;refine ⟨aI ?_,by first | exact X1.out | exact X0.out⟩;(try have q1:=P1.out);simp only [nJ];all_goals (repeat' split);all_goals omega)
theorem QM {S:Nat→Prop} (x:Use) (cs:List Value) (left:Int) (w:World) (h:dX.rel S w cs x) (h0:0≤left) (h1:left≤1048576) :
 Calls prog 79 #[.agg cs.toArray,.int .i64 left] w fun e w'=>e=.returned (.int .i64 (sN x left))∧Ext w w':=by
 obtain ⟨rfl,hi⟩:=h;simp only [wQ,Str] at hi;have hz:x.owner.size≤maxLen:=by simp only [hi]
 unfold maxLen at hz;have HI:=ah hi;clear hi;simp only [kN];go_enter func79,ntmps79;go_upto_region 1 with (fail)
 obtain ⟨W,B,hW,hB,hx0,hbox⟩:=fH w (Ru x) 126;rw [← hW,← hB];have A0:Hid (aF W B 126 (Ru x)):=ah (by rw [hW,hB];exact aF.new w _ _);have X0:=ah hx0;clear hW hB hbox hx0;have ac:=A0.out.cell;go_wp2_with fail;all_goals (go_ret;refine ⟨aI ?_,by first | exact X0.out⟩;skip;simp only [sN,pay];all_goals (repeat' split);all_goals omega)
theorem NV {S:Nat→Prop} (x:Task) (cs:List Value) (left:Int) (w:World) (h:ETask.rel S w cs x) (h0:0≤left) (h1:left≤1048576) :
 Calls prog 78 #[.agg cs.toArray,.int .i64 left] w fun e w'=>e=.returned (.int .i64 (nK x left))∧Ext w w':=by
 obtain ⟨v1,rfl,hi,h_1⟩:=h;have H1:=ah h_1;clear h_1;simp only [eH,Str] at hi;have hz:x.owner.size≤maxLen:=by simp only [hi]
 unfold maxLen at hz;have HI:=ah hi;clear hi;simp only [aB];go_enter func78,ntmps78;go_upto_region 1 with (fail)
 obtain ⟨W,B,hW,hB,hx0,hbox⟩:=fH w (Rt x v1) 123;rw [← hW,← hB];have A0:Hid (aF W B 123 (Rt x v1)):=ah (by rw [hW,hB];exact aF.new w _ _);have X0:=ah hx0;clear hW hB hbox hx0;have ac:=A0.out.cell;go_wp2_with (first
  | (go_at_call 167;(with_reducible refine (TN x.nodes v1 (left - (x.owner.size:Int)) _ (H1.out.ext X0.out) (by omega) (by omega)).mono ?_);rintro e w1 ⟨rfl,hx⟩;have P1:=ah (Cj x.nodes (left - (x.owner.size:Int)) (by omega));have X1:=ah (X0.out.trans hx);have A1:=ah (A0.out.ext hx);clear hx X0 A0 ac;have ac:=A1.out.cell))
 all_goals (go_ret;refine ⟨aI ?_,by first | exact X1.out | exact X0.out⟩;(try have q1:=P1.out);simp only [nK,dZ,pay];all_goals (repeat' split);all_goals omega)
theorem Xa {S:Nat→Prop} (l:List Node) (v:Value) (left:Int) (w:World) (h:Rd ENode S w v l) (h0:0≤left) (h1:left≤1048576) :
 Calls prog 27 #[v,.int .i64 left] w fun e w'=>e=.returned (.int .i64 (kW l left))∧Ext w w':=by
 obtain ⟨A,c,rfl,h2,h3,hk⟩:=h.open_;unfold maxLen at h3;have HK:=ah hk;clear hk h;by_cases hp:left - (l.length:Int) < 0
 · go_enter func27,ntmps27;go_wp2_with fail;go_ret;exact ⟨aI (by rw [kW,J9 hp,Fq]),Ext.refl _⟩
 · have hq:0≤left - (l.length:Int):=by omega
   clear hp;have HF:Hid (kW l left=bZ nJ l (left - l.length)):=ah (by rw [kW,Ko hq,Fv hq]);go_enter func27,ntmps27;go_wp2_with fail;go_loopw [1,5] (fun r i w'=>∃ (k:Nat) (q:Int),k≤l.length∧i=.int .i64 k∧r=.int .i64 q∧0≤q∧q≤1048576∧yE nJ l (left - l.length) q k∧Ext w w') (fun _ i _=>l.length - (intOf i).toNat);case atStart=>exact ⟨0,left - l.length,by omega,rfl,rfl,hq,by omega,by rw [yE,List.drop_zero],Ext.refl _⟩
   case round =>
    obtain ⟨k,q,hk1,rfl,rfl,q0,q1,hd,hx⟩:=hrel;have HD:Hid (bZ nJ (l.drop k) q=bZ nJ l (left - l.length)):=ah hd;have HX:=ah hx;clear hd;by_cases hlt:k < l.length
    · obtain ⟨b,o,cs,rfl,hb,hr,hc⟩:=HK.out k hlt;have HR:=ah (ENode.keep (hx.same S) hr);have HC:=ah (hx.range hc);have HI:Hid ((prog.info? 120).map (·.size)=some cs.length):=ah (by rw [ENode.len hr];kernel_rfl);clear hr hc hx;have HP:=ah (zC (nth l k) q q0);by_cases hneg:nJ (nth l k) q < 0
      · have HN:Hid (bZ nJ l (left - l.length) = -1):=ah (by rw [← HD.out,ni hlt];simp only [bZ];rw [if_pos hneg]);go_wp2_with (first | (go_at_call 77;refine (NU (nth l k) cs q _ HR.out q0 q1).mono ?_;rintro e w1 ⟨rfl,hx1⟩;have jf:=ah hx1;clear hx1) | (refine wpList_load_mid rfl 120 _ rfl b (o+k * 2) rfl cs _ HC.out underlying120 rfl HI.out ?_));go_ret;exact ⟨aI (by rw [HF.out,HN.out]),HX.out.trans jf.out⟩
      · have hpos:0≤nJ (nth l k) q:=by omega
        clear hneg;have HN:Hid (bZ nJ (l.drop (k+1)) (nJ (nth l k) q)=bZ nJ l (left - l.length)):=ah (by rw [← HD.out,ni hlt];simp only [bZ];rw [if_neg (by omega)]);go_wp2_with (first | (go_at_call 77;refine (NU (nth l k) cs q _ HR.out q0 q1).mono ?_;rintro e w1 ⟨rfl,hx1⟩;have jf:=ah hx1;clear hx1) | (refine wpList_load_mid rfl 120 _ rfl b (o+k * 2) rfl cs _ HC.out underlying120 rfl HI.out ?_));go_roundw;case rel=>exact ⟨k+1,_,by omega,by go_num,rfl,hpos,by have:=HP.out;omega,HN.out,HX.out.trans jf.out⟩
        case measure=>simp [intOf];omega
    · obtain rfl:k=l.length:=by omega
      have HE:Hid (bZ nJ l (left - l.length)=q):=ah (by rw [← HD.out,List.drop_length];rfl);go_wp2_with fail;go_ret;exact ⟨aI (by rw [HF.out,HE.out]),HX.out⟩
theorem Xd {S:Nat→Prop} (l:List Task) (v:Value) (left:Int) (w:World) (h:Rd ETask S w v l) (h0:0≤left) (h1:left≤1048576) :
 Calls prog 28 #[v,.int .i64 left] w fun e w'=>e=.returned (.int .i64 (pz l left))∧Ext w w':=by
 obtain ⟨A,c,rfl,h2,h3,hk⟩:=h.open_;unfold maxLen at h3;have HK:=ah hk;clear hk h;by_cases hp:left - (l.length:Int) < 0
 · go_enter func28,ntmps28;go_wp2_with fail;go_ret;exact ⟨aI (by rw [pz,J9 hp,Fq]),Ext.refl _⟩
 · have hq:0≤left - (l.length:Int):=by omega
   clear hp;have HF:Hid (pz l left=bZ nK l (left - l.length)):=ah (by rw [pz,Ko hq,Fv hq]);go_enter func28,ntmps28;go_wp2_with fail;go_loopw [1,5] (fun r i w'=>∃ (k:Nat) (q:Int),k≤l.length∧i=.int .i64 k∧r=.int .i64 q∧0≤q∧q≤1048576∧yE nK l (left - l.length) q k∧Ext w w') (fun _ i _=>l.length - (intOf i).toNat);case atStart=>exact ⟨0,left - l.length,by omega,rfl,rfl,hq,by omega,by rw [yE,List.drop_zero],Ext.refl _⟩
   case round =>
    obtain ⟨k,q,hk1,rfl,rfl,q0,q1,hd,hx⟩:=hrel;have HD:Hid (bZ nK (l.drop k) q=bZ nK l (left - l.length)):=ah hd;have HX:=ah hx;clear hd;by_cases hlt:k < l.length
    · obtain ⟨b,o,cs,rfl,hb,hr,hc⟩:=HK.out k hlt;have HR:=ah (ETask.keep (hx.same S) hr);have HC:=ah (hx.range hc);have HI:Hid ((prog.info? 123).map (·.size)=some cs.length):=ah (by rw [ETask.len hr];kernel_rfl);clear hr hc hx;have HP:=ah (zD (nth l k) q q0);by_cases hneg:nK (nth l k) q < 0
      · have HN:Hid (bZ nK l (left - l.length) = -1):=ah (by rw [← HD.out,ni hlt];simp only [bZ];rw [if_pos hneg]);go_wp2_with (first | (go_at_call 78;refine (NV (nth l k) cs q _ HR.out q0 q1).mono ?_;rintro e w1 ⟨rfl,hx1⟩;have jf:=ah hx1;clear hx1) | (refine wpList_load_mid rfl 123 _ rfl b (o+k * 14) rfl cs _ HC.out underlying123 rfl HI.out ?_));go_ret;exact ⟨aI (by rw [HF.out,HN.out]),HX.out.trans jf.out⟩
      · have hpos:0≤nK (nth l k) q:=by omega
        clear hneg;have HN:Hid (bZ nK (l.drop (k+1)) (nK (nth l k) q)=bZ nK l (left - l.length)):=ah (by rw [← HD.out,ni hlt];simp only [bZ];rw [if_neg (by omega)]);go_wp2_with (first | (go_at_call 78;refine (NV (nth l k) cs q _ HR.out q0 q1).mono ?_;rintro e w1 ⟨rfl,hx1⟩;have jf:=ah hx1;clear hx1) | (refine wpList_load_mid rfl 123 _ rfl b (o+k * 14) rfl cs _ HC.out underlying123 rfl HI.out ?_));go_roundw;case rel=>exact ⟨k+1,_,by omega,by go_num,rfl,hpos,by have:=HP.out;omega,HN.out,HX.out.trans jf.out⟩
        case measure=>simp [intOf];omega
    · obtain rfl:k=l.length:=by omega
      have HE:Hid (bZ nK l (left - l.length)=q):=ah (by rw [← HD.out,List.drop_length];rfl);go_wp2_with fail;go_ret;exact ⟨aI (by rw [HF.out,HE.out]),HX.out⟩
theorem aau {S:Nat→Prop} (l:List Use) (v:Value) (left:Int) (w:World) (h:Rd dX S w v l) (h0:0≤left) (h1:left≤1048576) :
 Calls prog 29 #[v,.int .i64 left] w fun e w'=>e=.returned (.int .i64 (DR l left))∧Ext w w':=by
 obtain ⟨A,c,rfl,h2,h3,hk⟩:=h.open_;unfold maxLen at h3;have HK:=ah hk;clear hk h;by_cases hp:left - (l.length:Int) < 0
 · go_enter func29,ntmps29;go_wp2_with fail;go_ret;exact ⟨aI (by rw [DR,J9 hp,Fq]),Ext.refl _⟩
 · have hq:0≤left - (l.length:Int):=by omega
   clear hp;have HF:Hid (DR l left=bZ sN l (left - l.length)):=ah (by rw [DR,Ko hq,Fv hq]);go_enter func29,ntmps29;go_wp2_with fail;go_loopw [1,5] (fun r i w'=>∃ (k:Nat) (q:Int),k≤l.length∧i=.int .i64 k∧r=.int .i64 q∧0≤q∧q≤1048576∧yE sN l (left - l.length) q k∧Ext w w') (fun _ i _=>l.length - (intOf i).toNat);case atStart=>exact ⟨0,left - l.length,by omega,rfl,rfl,hq,by omega,by rw [yE,List.drop_zero],Ext.refl _⟩
   case round =>
    obtain ⟨k,q,hk1,rfl,rfl,q0,q1,hd,hx⟩:=hrel;have HD:Hid (bZ sN (l.drop k) q=bZ sN l (left - l.length)):=ah hd;have HX:=ah hx;clear hd;by_cases hlt:k < l.length
    · obtain ⟨b,o,cs,rfl,hb,hr,hc⟩:=HK.out k hlt;have HR:=ah (dX.keep (hx.same S) hr);have HC:=ah (hx.range hc);have HI:Hid ((prog.info? 126).map (·.size)=some cs.length):=ah (by rw [dX.len hr];kernel_rfl);clear hr hc hx;have HP:=ah (Dy (nth l k) q q0);by_cases hneg:sN (nth l k) q < 0
      · have HN:Hid (bZ sN l (left - l.length) = -1):=ah (by rw [← HD.out,ni hlt];simp only [bZ];rw [if_pos hneg]);go_wp2_with (first | (go_at_call 79;refine (QM (nth l k) cs q _ HR.out q0 q1).mono ?_;rintro e w1 ⟨rfl,hx1⟩;have jf:=ah hx1;clear hx1) | (refine wpList_load_mid rfl 126 _ rfl b (o+k * 4) rfl cs _ HC.out underlying126 rfl HI.out ?_));go_ret;exact ⟨aI (by rw [HF.out,HN.out]),HX.out.trans jf.out⟩
      · have hpos:0≤sN (nth l k) q:=by omega
        clear hneg;have HN:Hid (bZ sN (l.drop (k+1)) (sN (nth l k) q)=bZ sN l (left - l.length)):=ah (by rw [← HD.out,ni hlt];simp only [bZ];rw [if_neg (by omega)]);go_wp2_with (first | (go_at_call 79;refine (QM (nth l k) cs q _ HR.out q0 q1).mono ?_;rintro e w1 ⟨rfl,hx1⟩;have jf:=ah hx1;clear hx1) | (refine wpList_load_mid rfl 126 _ rfl b (o+k * 4) rfl cs _ HC.out underlying126 rfl HI.out ?_));go_roundw;case rel=>exact ⟨k+1,_,by omega,by go_num,rfl,hpos,by have:=HP.out;omega,HN.out,HX.out.trans jf.out⟩
        case measure=>simp [intOf];omega
    · obtain rfl:k=l.length:=by omega
      have HE:Hid (bZ sN l (left - l.length)=q):=ah (by rw [← HD.out,List.drop_length];rfl);go_wp2_with fail;go_ret;exact ⟨aI (by rw [HF.out,HE.out]),HX.out⟩
theorem xY {S:Nat→Prop} (x:aK) (cs:List Value) (left:Int) (w:World) (h:eF.rel S w cs x) (h0:0≤left) (h1:left≤1048576) :
 Calls prog 7 #[.agg cs.toArray,.int .i64 left] w fun e w'=>e=.returned (.int .i64 (sH x left))∧Ext w w':=by
 obtain ⟨v1,v2,v3,v4,v5,v6,rfl,hi,h_1,h_2,h_3,h_4,h_5,h_6⟩:=h;have H1:=ah h_1;have H2:=ah h_2;have H3:=ah h_3;have H4:=ah h_4;have H5:=ah h_5;have H6:=ah h_6;clear h_1 h_2 h_3 h_4 h_5 h_6;have HI:=ah hi;clear hi;simp only [bV];go_enter func7,ntmps7;go_upto_region 1 with (fail)
 obtain ⟨W,B,hW,hB,hx0,hbox⟩:=fH w #[v1,v2,v3,x.config.half,v4,v5,v6,x.now] 31;rw [← hW,← hB];have A0:Hid (aF W B 31 #[v1,v2,v3,x.config.half,v4,v5,v6,x.now]):=ah (by rw [hW,hB];exact aF.new w _ _);have X0:=ah hx0;clear hW hB hbox hx0;have ac:=A0.out.cell;go_wp2_with (first
  | (go_at_call 26;(with_reducible refine (TM (S:=S) x.config [v1,v2,v3,x.config.half] left _ (aY (by have hf:=HI.out;simp only [qV] at hf;simp only [iC,hf]) (H1.out.ext X0.out) (H2.out.ext X0.out) (H3.out.ext X0.out)) (by omega) (by omega)).mono ?_);rintro e w1 ⟨rfl,hx⟩;have P1:=ah (oQ x.config left (by omega));have X1:=ah (X0.out.trans hx);have A1:=ah (A0.out.ext hx);clear hx X0 A0 ac;have ac:=A1.out.cell)
  | (go_at_call 27;(with_reducible refine (Xa x.nodes v4 (iH x.config left) _ (H4.out.ext X1.out) (by have q1:=P1.out;omega) (by have q1:=P1.out;omega)).mono ?_);rintro e w2 ⟨rfl,hx⟩;have P2:=ah (tC x.nodes (iH x.config left) (by have q1:=P1.out;omega));have X2:=ah (X1.out.trans hx);have A2:=ah (A1.out.ext hx);clear hx X1 A1 ac;have ac:=A2.out.cell)
  | (go_at_call 28;(with_reducible refine (Xd x.tasks v5 (kW x.nodes (iH x.config left)) _ (H5.out.ext X2.out) (by have q1:=P1.out;have q2:=P2.out;omega) (by have q1:=P1.out;have q2:=P2.out;omega)).mono ?_);rintro e w3 ⟨rfl,hx⟩;have P3:=ah (xP x.tasks (kW x.nodes (iH x.config left)) (by have q1:=P1.out;have q2:=P2.out;omega));have X3:=ah (X2.out.trans hx);have A3:=ah (A2.out.ext hx);clear hx X2 A2 ac;have ac:=A3.out.cell)
  | (go_at_call 29;(with_reducible refine (aau x.uses v6 (pz x.tasks (kW x.nodes (iH x.config left))) _ (H6.out.ext X3.out) (by have q1:=P1.out;have q2:=P2.out;have q3:=P3.out;omega) (by have q1:=P1.out;have q2:=P2.out;have q3:=P3.out;omega)).mono ?_);rintro e w4 ⟨rfl,hx⟩;have P4:=ah (Jc x.uses (pz x.tasks (kW x.nodes (iH x.config left))) (by have q1:=P1.out;have q2:=P2.out;have q3:=P3.out;omega));have X4:=ah (X3.out.trans hx);have A4:=ah (A3.out.ext hx);clear hx X3 A3 ac;have ac:=A4.out.cell))
 all_goals (go_ret;refine ⟨aI ?_,by first | exact X4.out | exact X3.out | exact X2.out | exact X1.out | exact X0.out⟩;(try have q1:=P1.out);(try have q2:=P2.out);(try have q3:=P3.out);(try have q4:=P4.out);simp only [sH,dZ];all_goals (repeat' split);all_goals omega)
theorem Yx:Opens prog 266 dM:=by
 intro H enc w base spare held fuel cs x h;obtain ⟨xs,n,_,_,hlen,hxl,hf⟩:=DataW.trod_struct underlying266 h;have hlen2:cs.length=2:=hlen.trans (by kernel_rfl);clear hlen;obtain ⟨c0,r0,rfl,k0⟩:=bK hlen2;obtain ⟨c1,r1,rfl,k1⟩:=bK k0;obtain rfl:=List.eq_nil_of_length_eq_zero k1;clear hlen2 k0 k1;have f0:DataW.trod enc prog w base spare held n 2 (([c0,c1].drop 0).take (prog.cellsOf 2))=xs[0]?:=hf 0 _ rfl;have z0:prog.cellsOf 2=1:=by kernel_rfl
 rw [z0,List.getElem?_eq_getElem (show 0 < xs.length from by rw [hxl];decide)] at f0;have f1:DataW.trod enc prog w base spare held n 2 (([c0,c1].drop 1).take (prog.cellsOf 2))=xs[1]?:=hf 1 _ rfl;have z1:prog.cellsOf 2=1:=by kernel_rfl
 rw [z1,List.getElem?_eq_getElem (show 1 < xs.length from by rw [hxl];decide)] at f1;obtain ⟨y0,g0⟩:=gW f0;clear f0;obtain ⟨e0,i0⟩:=g0;obtain rfl:c0=.int .i64 y0:=by simpa using e0
 obtain ⟨y1,g1⟩:=gW f1;clear f1;obtain ⟨e1,i1⟩:=g1;obtain rfl:c1=.int .i64 y1:=by simpa using e1
 refine ⟨⟨y0,y1⟩,rfl,?_⟩;simp only [wP] at *;simp only [i0,i1,and_self]
theorem V5:Opens prog 118 (gU dM):=nU underlying118 (by kernel_rfl) (by decide) Yx
theorem Yv:Opens prog 120 ENode:=by
 intro H enc w base spare held fuel cs x h;obtain ⟨xs,n,_,_,hlen,hxl,hf⟩:=DataW.trod_struct underlying120 h;have hlen2:cs.length=2:=hlen.trans (by kernel_rfl);clear hlen;obtain ⟨c0,r0,rfl,k0⟩:=bK hlen2;obtain ⟨c1,r1,rfl,k1⟩:=bK k0;obtain rfl:=List.eq_nil_of_length_eq_zero k1;clear hlen2 k0 k1;have f0:DataW.trod enc prog w base spare held n 2 (([c0,c1].drop 0).take (prog.cellsOf 2))=xs[0]?:=hf 0 _ rfl;have z0:prog.cellsOf 2=1:=by kernel_rfl
 rw [z0,List.getElem?_eq_getElem (show 0 < xs.length from by rw [hxl];decide)] at f0;have f1:DataW.trod enc prog w base spare held n 118 (([c0,c1].drop 1).take (prog.cellsOf 118))=xs[1]?:=hf 1 _ rfl;have z1:prog.cellsOf 118=1:=by kernel_rfl
 rw [z1,List.getElem?_eq_getElem (show 1 < xs.length from by rw [hxl];decide)] at f1;obtain ⟨y0,g0⟩:=gW f0;clear f0;obtain ⟨e0,i0⟩:=g0;obtain rfl:c0=.int .i64 y0:=by simpa using e0
 obtain ⟨y1,g1⟩:=V5 f1;clear f1;obtain ⟨v1,e1,i1⟩:=g1;obtain rfl:c1=v1:=by simpa using e1
 refine ⟨⟨y0,y1⟩,_,rfl,?_,i1⟩;simp only [JX] at *;simp only [i0]
theorem ab7:Opens prog 126 dX:=by
 intro H enc w base spare held fuel cs x h;obtain ⟨xs,n,_,_,hlen,hxl,hf⟩:=DataW.trod_struct underlying126 h;have hlen2:cs.length=4:=hlen.trans (by kernel_rfl);clear hlen;obtain ⟨c0,r0,rfl,k0⟩:=bK hlen2;obtain ⟨c1,r1,rfl,k1⟩:=bK k0;obtain ⟨c2,r2,rfl,k2⟩:=bK k1;obtain ⟨c3,r3,rfl,k3⟩:=bK k2;obtain rfl:=List.eq_nil_of_length_eq_zero k3;clear hlen2 k0 k1 k2 k3;have f0:DataW.trod enc prog w base spare held n 33 (([c0,c1,c2,c3].drop 0).take (prog.cellsOf 33))=xs[0]?:=hf 0 _ rfl;have z0:prog.cellsOf 33=2:=by kernel_rfl
 rw [z0,List.getElem?_eq_getElem (show 0 < xs.length from by rw [hxl];decide)] at f0;have f1:DataW.trod enc prog w base spare held n 9 (([c0,c1,c2,c3].drop 2).take (prog.cellsOf 9))=xs[1]?:=hf 1 _ rfl;have z1:prog.cellsOf 9=1:=by kernel_rfl
 rw [z1,List.getElem?_eq_getElem (show 1 < xs.length from by rw [hxl];decide)] at f1;have f2:DataW.trod enc prog w base spare held n 2 (([c0,c1,c2,c3].drop 3).take (prog.cellsOf 2))=xs[2]?:=hf 2 _ rfl;have z2:prog.cellsOf 2=1:=by kernel_rfl
 rw [z2,List.getElem?_eq_getElem (show 2 < xs.length from by rw [hxl];decide)] at f2;obtain ⟨y0,g0⟩:=lK f0;clear f0;obtain ⟨e0,i0⟩:=g0;simp only [aQ,List.drop_zero,List.take_succ_cons,List.take_zero,List.cons.injEq,and_true] at e0;obtain ⟨rfl,rfl⟩:=e0;obtain ⟨y1,g1⟩:=EO f1;clear f1;obtain ⟨e1,i1⟩:=g1;obtain rfl:c2=.string y1:=by simpa using e1
 obtain ⟨y2,g2⟩:=gW f2;clear f2;obtain ⟨e2,i2⟩:=g2;obtain rfl:c3=.int .i64 y2:=by simpa using e2
 refine ⟨⟨y0,y1,y2⟩,rfl,?_⟩;simp only [wQ,aP] at *;simp only [i0,i1,i2,and_self]
theorem Yy:Opens prog 123 ETask:=by
 intro H enc w base spare held fuel cs x h;obtain ⟨xs,n,_,_,hlen,hxl,hf⟩:=DataW.trod_struct underlying123 h;have hlen2:cs.length=14:=hlen.trans (by kernel_rfl);clear hlen;obtain ⟨c0,r0,rfl,k0⟩:=bK hlen2;obtain ⟨c1,r1,rfl,k1⟩:=bK k0;obtain ⟨c2,r2,rfl,k2⟩:=bK k1;obtain ⟨c3,r3,rfl,k3⟩:=bK k2;obtain ⟨c4,r4,rfl,k4⟩:=bK k3;obtain ⟨c5,r5,rfl,k5⟩:=bK k4;obtain ⟨c6,r6,rfl,k6⟩:=bK k5;obtain ⟨c7,r7,rfl,k7⟩:=bK k6;obtain ⟨c8,r8,rfl,k8⟩:=bK k7;obtain ⟨c9,r9,rfl,k9⟩:=bK k8;obtain ⟨c10,r10,rfl,k10⟩:=bK k9;obtain ⟨c11,r11,rfl,k11⟩:=bK k10;obtain ⟨c12,r12,rfl,k12⟩:=bK k11;obtain ⟨c13,r13,rfl,k13⟩:=bK k12;obtain rfl:=List.eq_nil_of_length_eq_zero k13;clear hlen2 k0 k1 k2 k3 k4 k5 k6 k7 k8 k9 k10 k11 k12 k13;have f0:DataW.trod enc prog w base spare held n 33 (([c0,c1,c2,c3,c4,c5,c6,c7,c8,c9,c10,c11,c12,c13].drop 0).take (prog.cellsOf 33))=xs[0]?:=hf 0 _ rfl;have z0:prog.cellsOf 33=2:=by kernel_rfl
 rw [z0,List.getElem?_eq_getElem (show 0 < xs.length from by rw [hxl];decide)] at f0;have f1:DataW.trod enc prog w base spare held n 2 (([c0,c1,c2,c3,c4,c5,c6,c7,c8,c9,c10,c11,c12,c13].drop 2).take (prog.cellsOf 2))=xs[1]?:=hf 1 _ rfl;have z1:prog.cellsOf 2=1:=by kernel_rfl
 rw [z1,List.getElem?_eq_getElem (show 1 < xs.length from by rw [hxl];decide)] at f1;have f2:DataW.trod enc prog w base spare held n 9 (([c0,c1,c2,c3,c4,c5,c6,c7,c8,c9,c10,c11,c12,c13].drop 3).take (prog.cellsOf 9))=xs[2]?:=hf 2 _ rfl;have z2:prog.cellsOf 9=1:=by kernel_rfl
 rw [z2,List.getElem?_eq_getElem (show 2 < xs.length from by rw [hxl];decide)] at f2;have f3:DataW.trod enc prog w base spare held n 2 (([c0,c1,c2,c3,c4,c5,c6,c7,c8,c9,c10,c11,c12,c13].drop 4).take (prog.cellsOf 2))=xs[3]?:=hf 3 _ rfl;have z3:prog.cellsOf 2=1:=by kernel_rfl
 rw [z3,List.getElem?_eq_getElem (show 3 < xs.length from by rw [hxl];decide)] at f3;have f4:DataW.trod enc prog w base spare held n 2 (([c0,c1,c2,c3,c4,c5,c6,c7,c8,c9,c10,c11,c12,c13].drop 5).take (prog.cellsOf 2))=xs[4]?:=hf 4 _ rfl;have z4:prog.cellsOf 2=1:=by kernel_rfl
 rw [z4,List.getElem?_eq_getElem (show 4 < xs.length from by rw [hxl];decide)] at f4;have f5:DataW.trod enc prog w base spare held n 2 (([c0,c1,c2,c3,c4,c5,c6,c7,c8,c9,c10,c11,c12,c13].drop 6).take (prog.cellsOf 2))=xs[5]?:=hf 5 _ rfl;have z5:prog.cellsOf 2=1:=by kernel_rfl
 rw [z5,List.getElem?_eq_getElem (show 5 < xs.length from by rw [hxl];decide)] at f5;have f6:DataW.trod enc prog w base spare held n 33 (([c0,c1,c2,c3,c4,c5,c6,c7,c8,c9,c10,c11,c12,c13].drop 7).take (prog.cellsOf 33))=xs[6]?:=hf 6 _ rfl;have z6:prog.cellsOf 33=2:=by kernel_rfl
 rw [z6,List.getElem?_eq_getElem (show 6 < xs.length from by rw [hxl];decide)] at f6;have f7:DataW.trod enc prog w base spare held n 2 (([c0,c1,c2,c3,c4,c5,c6,c7,c8,c9,c10,c11,c12,c13].drop 9).take (prog.cellsOf 2))=xs[7]?:=hf 7 _ rfl;have z7:prog.cellsOf 2=1:=by kernel_rfl
 rw [z7,List.getElem?_eq_getElem (show 7 < xs.length from by rw [hxl];decide)] at f7;have f8:DataW.trod enc prog w base spare held n 2 (([c0,c1,c2,c3,c4,c5,c6,c7,c8,c9,c10,c11,c12,c13].drop 10).take (prog.cellsOf 2))=xs[8]?:=hf 8 _ rfl;have z8:prog.cellsOf 2=1:=by kernel_rfl
 rw [z8,List.getElem?_eq_getElem (show 8 < xs.length from by rw [hxl];decide)] at f8;have f9:DataW.trod enc prog w base spare held n 2 (([c0,c1,c2,c3,c4,c5,c6,c7,c8,c9,c10,c11,c12,c13].drop 11).take (prog.cellsOf 2))=xs[9]?:=hf 9 _ rfl;have z9:prog.cellsOf 2=1:=by kernel_rfl
 rw [z9,List.getElem?_eq_getElem (show 9 < xs.length from by rw [hxl];decide)] at f9;have f10:DataW.trod enc prog w base spare held n 2 (([c0,c1,c2,c3,c4,c5,c6,c7,c8,c9,c10,c11,c12,c13].drop 12).take (prog.cellsOf 2))=xs[10]?:=hf 10 _ rfl;have z10:prog.cellsOf 2=1:=by kernel_rfl
 rw [z10,List.getElem?_eq_getElem (show 10 < xs.length from by rw [hxl];decide)] at f10;have f11:DataW.trod enc prog w base spare held n 74 (([c0,c1,c2,c3,c4,c5,c6,c7,c8,c9,c10,c11,c12,c13].drop 13).take (prog.cellsOf 74))=xs[11]?:=hf 11 _ rfl;have z11:prog.cellsOf 74=1:=by kernel_rfl
 rw [z11,List.getElem?_eq_getElem (show 11 < xs.length from by rw [hxl];decide)] at f11;obtain ⟨y0,g0⟩:=lK f0;clear f0;obtain ⟨e0,i0⟩:=g0;simp only [aQ,List.drop_zero,List.take_succ_cons,List.take_zero,List.cons.injEq,and_true] at e0;obtain ⟨rfl,rfl⟩:=e0;obtain ⟨y1,g1⟩:=gW f1;clear f1;obtain ⟨e1,i1⟩:=g1;obtain rfl:c2=.int .i64 y1:=by simpa using e1
 obtain ⟨y2,g2⟩:=EO f2;clear f2;obtain ⟨e2,i2⟩:=g2;obtain rfl:c3=.string y2:=by simpa using e2
 obtain ⟨y3,g3⟩:=gW f3;clear f3;obtain ⟨e3,i3⟩:=g3;obtain rfl:c4=.int .i64 y3:=by simpa using e3
 obtain ⟨y4,g4⟩:=gW f4;clear f4;obtain ⟨e4,i4⟩:=g4;obtain rfl:c5=.int .i64 y4:=by simpa using e4
 obtain ⟨y5,g5⟩:=gW f5;clear f5;obtain ⟨e5,i5⟩:=g5;obtain rfl:c6=.int .i64 y5:=by simpa using e5
 obtain ⟨y6,g6⟩:=lK f6;clear f6;obtain ⟨e6,i6⟩:=g6;simp only [aQ,List.drop_zero,List.drop_succ_cons,List.take_succ_cons,List.take_zero,List.cons.injEq,and_true] at e6;obtain ⟨rfl,rfl⟩:=e6;obtain ⟨y7,g7⟩:=gW f7;clear f7;obtain ⟨e7,i7⟩:=g7;obtain rfl:c9=.int .i64 y7:=by simpa using e7
 obtain ⟨y8,g8⟩:=gW f8;clear f8;obtain ⟨e8,i8⟩:=g8;obtain rfl:c10=.int .i64 y8:=by simpa using e8
 obtain ⟨y9,g9⟩:=gW f9;clear f9;obtain ⟨e9,i9⟩:=g9;obtain rfl:c11=.int .i64 y9:=by simpa using e9
 obtain ⟨y10,g10⟩:=gW f10;clear f10;obtain ⟨e10,i10⟩:=g10;obtain rfl:c12=.int .i64 y10:=by simpa using e10
 obtain ⟨y11,g11⟩:=SS f11;clear f11;obtain ⟨v11,e11,i11⟩:=g11;obtain rfl:c13=v11:=by simpa using e11
 refine ⟨⟨y0,y1,y2,y3,y4,y5,y6,y7,y8,y9,y10,y11⟩,_,rfl,?_,i11⟩;simp only [eH,aP,aP] at *;simp only [i0,i1,i2,i3,i4,i5,i6,i7,i8,i9,i10,and_self]
theorem VX:Opens prog 27 (gU ENode):=nU underlying27 (by kernel_rfl) (by decide) Yv
theorem V6:Opens prog 28 (gU ETask):=nU underlying28 (by kernel_rfl) (by decide) Yy
theorem Yz:Opens prog 29 (gU dX):=nU underlying29 (by kernel_rfl) (by decide) ab7
theorem Nb:Opens prog 31 eF:=by
 intro H enc w base spare held fuel cs x h;obtain ⟨xs,n,_,_,hlen,hxl,hf⟩:=DataW.trod_struct underlying31 h;have hlen2:cs.length=8:=hlen.trans (by kernel_rfl);clear hlen;obtain ⟨c0,r0,rfl,k0⟩:=bK hlen2;obtain ⟨c1,r1,rfl,k1⟩:=bK k0;obtain ⟨c2,r2,rfl,k2⟩:=bK k1;obtain ⟨c3,r3,rfl,k3⟩:=bK k2;obtain ⟨c4,r4,rfl,k4⟩:=bK k3;obtain ⟨c5,r5,rfl,k5⟩:=bK k4;obtain ⟨c6,r6,rfl,k6⟩:=bK k5;obtain ⟨c7,r7,rfl,k7⟩:=bK k6;obtain rfl:=List.eq_nil_of_length_eq_zero k7;clear hlen2 k0 k1 k2 k3 k4 k5 k6 k7;have f0:DataW.trod enc prog w base spare held n 26 (([c0,c1,c2,c3,c4,c5,c6,c7].drop 0).take (prog.cellsOf 26))=xs[0]?:=hf 0 _ rfl;have z0:prog.cellsOf 26=4:=by kernel_rfl
 rw [z0,List.getElem?_eq_getElem (show 0 < xs.length from by rw [hxl];decide)] at f0;have f1:DataW.trod enc prog w base spare held n 27 (([c0,c1,c2,c3,c4,c5,c6,c7].drop 4).take (prog.cellsOf 27))=xs[1]?:=hf 1 _ rfl;have z1:prog.cellsOf 27=1:=by kernel_rfl
 rw [z1,List.getElem?_eq_getElem (show 1 < xs.length from by rw [hxl];decide)] at f1;have f2:DataW.trod enc prog w base spare held n 28 (([c0,c1,c2,c3,c4,c5,c6,c7].drop 5).take (prog.cellsOf 28))=xs[2]?:=hf 2 _ rfl;have z2:prog.cellsOf 28=1:=by kernel_rfl
 rw [z2,List.getElem?_eq_getElem (show 2 < xs.length from by rw [hxl];decide)] at f2;have f3:DataW.trod enc prog w base spare held n 29 (([c0,c1,c2,c3,c4,c5,c6,c7].drop 6).take (prog.cellsOf 29))=xs[3]?:=hf 3 _ rfl;have z3:prog.cellsOf 29=1:=by kernel_rfl
 rw [z3,List.getElem?_eq_getElem (show 3 < xs.length from by rw [hxl];decide)] at f3;have f4:DataW.trod enc prog w base spare held n 2 (([c0,c1,c2,c3,c4,c5,c6,c7].drop 7).take (prog.cellsOf 2))=xs[4]?:=hf 4 _ rfl;have z4:prog.cellsOf 2=1:=by kernel_rfl
 rw [z4,List.getElem?_eq_getElem (show 4 < xs.length from by rw [hxl];decide)] at f4;obtain ⟨y0,g0⟩:=SQ f0;clear f0;obtain ⟨auB,auC,auD,e0,i0,aph,apj,apk⟩:=g0;simp only [dN,List.drop_zero,List.take_succ_cons,List.take_zero,List.cons.injEq,and_true] at e0;obtain ⟨rfl,rfl,rfl,rfl⟩:=e0;obtain ⟨y1,g1⟩:=VX f1;clear f1;obtain ⟨v1,e1,i1⟩:=g1;obtain rfl:c4=v1:=by simpa using e1
 obtain ⟨y2,g2⟩:=V6 f2;clear f2;obtain ⟨v2,e2,i2⟩:=g2;obtain rfl:c5=v2:=by simpa using e2
 obtain ⟨y3,g3⟩:=Yz f3;clear f3;obtain ⟨v3,e3,i3⟩:=g3;obtain rfl:c6=v3:=by simpa using e3
 obtain ⟨y4,g4⟩:=gW f4;clear f4;obtain ⟨e4,i4⟩:=g4;obtain rfl:c7=.int .i64 y4:=by simpa using e4
 refine ⟨⟨y0,y1,y2,y3,y4⟩,_,_,_,_,_,_,rfl,?_,aph,apj,apk,i1,i2,i3⟩;simp only [qV,iC] at *;simp only [i0,i4,and_self]
end Go.Proofs.YtbdicafambkhdaaGreat
