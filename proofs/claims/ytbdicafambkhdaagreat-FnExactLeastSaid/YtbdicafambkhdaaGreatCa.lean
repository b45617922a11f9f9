/- What the laws Least need, and no others. Laid by wip/split.py. -/
import Derived.Test.YtbdicafambkhdaaGreatConf4
import Derived.Test.YtbdicafambkhdaaGreatClones
import Derived.Test.YtbdicafambkhdaaGreatInsSpan
import Derived.Test.YtbdicafambkhdaaGreatConf1
import Derived.Test.YtbdicafambkhdaaGreatGYardT
import Derived.Deep.RegionHeld3
import Derived.Deep.RegionLaw
import Derived.Test.YtbdicafambkhdaaGreatCopies
import Derived.Test.YtbdicafambkhdaaGreatYardS
import Derived.Test.YtbdicafambkhdaaGreatRows
import Derived.Laws.IdiomStrings
import Derived.Laws.BytesArg
import Derived.Test.YtbdicafambkhdaaGreatLabels
import Derived.Test.YtbdicafambkhdaaGreatGSmall
import Derived.Test.YtbdicafambkhdaaGreatPlanT
import Derived.Test.YtbdicafambkhdaaGreatOrderI
import Derived.Test.YtbdicafambkhdaaGreatTaskRS
import Derived.Laws.BitsAllLaws
import Derived.Test.YtbdicafambkhdaaGreatSLabelW
import Derived.Test.YtbdicafambkhdaaGreatLib
import Derived.ProofKit
import Derived.Deep.Slices
import Derived.Test.YtbdicafambkhdaaGreatConfV
import Derived.Test.YtbdicafambkhdaaGreatSUpto
import Derived.Test.YtbdicafambkhdaaGreatGYardE
set_option maxHeartbeats 16000000
set_option maxRecDepth 100000
namespace Go.Proofs.YtbdicafambkhdaaGreat
open Go.Proofs.Tryz
open Go.RowKit
attribute [local irreducible] wpQuiet
theorem zi (n a b:Int) (w:World) (r:Bool) (hr:jG n a b=r) :
 Calls prog 32 #[.int .i64 n,.int .i64 a,.int .i64 b] w fun e w'=>e=.returned (.bool r)∧w=w':=by
 subst hr;exact fG n a b w
theorem qY {S:Nat→Prop} (x:Config) (cs:List Value) (a:Label) (w:World) (h:gV.rel S w cs x) (hc:fJ x.nodes=true) (r:Bool) (hr:cleared (labelsIn x.nodes) a=r) :
 Calls prog 41 #[.agg cs.toArray,.agg (Rl a)] w fun e w'=>e=.returned (.bool r)∧Ext w w':=by
 obtain ⟨v1,v2,v3,rfl,hf,h1,h2,h3⟩:=h;obtain ⟨A1,c1,rfl,-⟩:=h1.form;obtain ⟨A2,c2,rfl,-⟩:=h2.form;obtain ⟨A3,c3,rfl,-⟩:=h3.form;have HF:=ah hf;have H1:=ah h1;have H2:=ah h2;have H3:=ah h3;have Xw:Hid (x.nodes.length≤6):=ah (pY hc).2;have hmz:=Qm (a:=a) hc;unfold rY at hmz;obtain ⟨n,hn⟩:∃ n,(eP x.nodes a x.nodes.length).length=n:=⟨_,rfl⟩
 have HN:=ah hn;rw [hn,hr] at hmz;have HMZ:=ah hmz;clear hf h1 h2 h3 hc hmz hn hr;simp only [dN];go_enter func41,ntmps41;go_upto_region 1 with (fail)
 obtain ⟨W,B,hW,hB,hx0,a0,b0⟩:=eY w #[.slice A1 x.nodes.length c1,.slice A2 x.pairs.length c2,.slice A3 x.ay.length c3,x.half] (Rl a) 40 47;rw [← hW,← hB];have X:=ah hx0;have qa:=a0.cell;have qb:=b0.cell;clear hW hB hx0 a0 b0;go_wp2_with (go_at_call 113;(with_reducible refine (oK (S:=S) x _ a _ (aY HF.out (H1.out.ext X.out) (H2.out.ext X.out) (H3.out.ext X.out)) Xw.out).mono ?_);rintro e w8 ⟨v8,F8,rfl,o8,-,eu⟩;obtain ⟨A8,c8,rfl,-⟩:=o8.form;rw [HN.out];have X8:=ah (X.out.trans eu);clear eu o8 qa qb);go_ret;exact ⟨au (by
  cases r with
  | false=>rw [HMZ.out.2 rfl];rfl
  | true =>
    have:n≠0:=fun h=>by have:=HMZ.out.1 h;cases this
    exact decide_eq_true (by omega)),X8.out⟩
theorem afD {w w':World} {B:Nat} {y:aK} {v1 v2 v3 v4 v5 v6 vs vh vp:Value} (h:Uh w B y v1 v2 v3 v4 v5 v6 vs vh vp) (hx:Ext w w'):Uh w' B y v1 v2 v3 v4 v5 v6 vs vh vp:=aF.ext h hx
def Ij (y:aK) (a:Label) (need long:Int):Int:=if bD y=true∧cleared (labelsIn y.config.nodes) a=true∧jG need 1 6=true∧jG long 1 20=true then ((bP y (nG y (keyOf a)) a need long 41 y.now).elim (-1) (·.1)) else -1
theorem MI {y:aK} {a:Label} {need long:Int} (h1:bD y=true) (h2:cleared (labelsIn y.config.nodes) a=true) (h3:jG need 1 6=true) (h4:jG long 1 20=true):Ij y a need long=(bP y (nG y (keyOf a)) a need long 41 y.now).elim (-1) (·.1):=by rw [Ij,if_pos ⟨h1,h2,h3,h4⟩]
theorem rO {y:aK} {a:Label} {need long:Int} (h:bD y=false∨cleared (labelsIn y.config.nodes) a=false∨jG need 1 6=false∨jG long 1 20=false):Ij y a need long = -1:=by
 rw [Ij,if_neg];rintro ⟨h1,h2,h3,h4⟩;rw [h1,h2,h3,h4] at h;simp at h
theorem VB {ns:List (List Label)} {a:Label} (h:cleared (labelsIn ns) a=true):aA a=true:=kS (jZ.1 h)
theorem OO {S:Nat→Prop} (y:aK) (a:Label) (need long:Int) (cs:List Value) (w:World) (h:eF.rel S w cs y) :
 Calls prog 11 #[.agg cs.toArray,.agg (Rl a),.int .i64 need,.int .i64 long] w fun e w'=>e=.returned (.int .i64 (Ij y a need long))∧Ext w w':=by
 have H:=ah h;obtain ⟨v1,v2,v3,v4,v5,v6,rfl,hf,h1,h2,h3,h4,h5,h6⟩:=h;obtain ⟨A1,c1,rfl,-⟩:=h1.form;obtain ⟨A2,c2,rfl,-⟩:=h2.form;obtain ⟨A3,c3,rfl,-⟩:=h3.form;obtain ⟨A4,c4,rfl,-⟩:=h4.form;obtain ⟨A5,c5,rfl,-⟩:=h5.form;obtain ⟨A6,c6,rfl,-⟩:=h6.form;have HF:=ah hf;have IB:Hid (∀ V,Ext w V→eF.rel S V [.slice A1 y.config.nodes.length c1,.slice A2 y.config.pairs.length c2,.slice A3 y.config.ay.length c3,y.config.half,.slice A4 y.nodes.length c4,.slice A5 y.tasks.length c5,.slice A6 y.uses.length c6,y.now] y):=ah fun V hV=>eF.keep (hV.same _) H.out;have HCR:Hid (∀ V,Ext w V→gV.rel S V [.slice A1 y.config.nodes.length c1,.slice A2 y.config.pairs.length c2,.slice A3 y.config.ay.length c3,y.config.half] y.config):=ah fun V hV=>aY hf.1 (h1.ext hV) (h2.ext hV) (h3.ext hV);clear hf h1 h2 h3 h4 h5 h6;obtain ⟨r1,hr1⟩:∃ t,bD y=t:=⟨_,rfl⟩
 obtain ⟨r2,hr2⟩:∃ t,cleared (labelsIn y.config.nodes) a=t:=⟨_,rfl⟩
 obtain ⟨r3,hr3⟩:∃ t,jG need 1 6=t:=⟨_,rfl⟩
 obtain ⟨r4,hr4⟩:∃ t,jG long 1 20=t:=⟨_,rfl⟩
 have R1:=ah hr1;have R2:=ah hr2;have R3:=ah hr3;have R4:=ah hr4;clear hr1 hr2 hr3 hr4;simp only [bV];go_enter func11,ntmps11;go_upto_region 1 with (fail)
 obtain ⟨W,B,hW,hB,hx0,a0,b0⟩:=eY w (Ry y A1 c1 A2 c2 A3 c3 A4 c4 A5 c5 A6 c6) (Rl a) 45 47;rw [← hW,← hB];have X:=ah hx0;have Q1:=ah a0;have Q2:=ah b0;clear hW hB hx0 a0 b0;have q1:=Q1.out.cell;have q2:=Q2.out.cell;cases r1 with
 | false =>
   go_wp2_with (first | (go_at_call 40;(with_reducible refine (lW (S:=S) y _ _ (IB.out _ X.out) _ R1.out).mono ?_);rintro e w4 ⟨rfl,hx7⟩;have X4:=ah (X.out.trans hx7);have P1:=ah (Q1.out.ext hx7);have P2:=ah (Q2.out.ext hx7);clear hx7 q1 q2;have q1:=P1.out.cell;have q2:=P2.out.cell));go_ret;exact ⟨aI (rO (.inl R1.out)).symm,X4.out⟩
 | true =>
   cases r2 with
   | false =>
     go_wp2_with (first | (go_at_call 40;(with_reducible refine (lW (S:=S) y _ _ (IB.out _ X.out) _ R1.out).mono ?_);rintro e w4 ⟨rfl,hx7⟩;have X4:=ah (X.out.trans hx7);have P1:=ah (Q1.out.ext hx7);have P2:=ah (Q2.out.ext hx7);clear hx7 q1 q2;have q1:=P1.out.cell;have q2:=P2.out.cell) | (go_at_call 41;(with_reducible refine (qY (S:=S) y.config _ a _ (HCR.out _ X4.out) (rP (qA R1.out)).1 _ R2.out).mono ?_);rintro e w5 ⟨rfl,hx7⟩;have X5:=ah (X4.out.trans hx7);have O1:=ah (P1.out.ext hx7);have O2:=ah (P2.out.ext hx7);clear hx7 q1 q2;have q1:=O1.out.cell;have q2:=O2.out.cell));go_ret;exact ⟨aI (rO (.inr (.inl R2.out))).symm,X5.out⟩
   | true =>
     cases r3 with
     | false =>
       go_wp2_with (first | (go_at_call 40;(with_reducible refine (lW (S:=S) y _ _ (IB.out _ X.out) _ R1.out).mono ?_);rintro e w4 ⟨rfl,hx7⟩;have X4:=ah (X.out.trans hx7);have P1:=ah (Q1.out.ext hx7);have P2:=ah (Q2.out.ext hx7);clear hx7 q1 q2;have q1:=P1.out.cell;have q2:=P2.out.cell) | (go_at_call 41;(with_reducible refine (qY (S:=S) y.config _ a _ (HCR.out _ X4.out) (rP (qA R1.out)).1 _ R2.out).mono ?_);rintro e w5 ⟨rfl,hx7⟩;have X5:=ah (X4.out.trans hx7);have O1:=ah (P1.out.ext hx7);have O2:=ah (P2.out.ext hx7);clear hx7 q1 q2;have q1:=O1.out.cell;have q2:=O2.out.cell) | (go_at_call 42;(with_reducible refine (iV need 1 6 _ _ R3.out).mono ?_);rintro e w6 ⟨rfl,rfl⟩));go_ret;exact ⟨aI (rO (.inr (.inr (.inl R3.out)))).symm,X5.out⟩
     | true =>
       cases r4 with
       | false =>
         go_wp2_with (first | (go_at_call 40;(with_reducible refine (lW (S:=S) y _ _ (IB.out _ X.out) _ R1.out).mono ?_);rintro e w4 ⟨rfl,hx7⟩;have X4:=ah (X.out.trans hx7);have P1:=ah (Q1.out.ext hx7);have P2:=ah (Q2.out.ext hx7);clear hx7 q1 q2;have q1:=P1.out.cell;have q2:=P2.out.cell) | (go_at_call 41;(with_reducible refine (qY (S:=S) y.config _ a _ (HCR.out _ X4.out) (rP (qA R1.out)).1 _ R2.out).mono ?_);rintro e w5 ⟨rfl,hx7⟩;have X5:=ah (X4.out.trans hx7);have O1:=ah (P1.out.ext hx7);have O2:=ah (P2.out.ext hx7);clear hx7 q1 q2;have q1:=O1.out.cell;have q2:=O2.out.cell) | (go_at_call 42;(with_reducible refine (iV need 1 6 _ _ R3.out).mono ?_);rintro e w6 ⟨rfl,rfl⟩) | (go_at_call 42;(with_reducible refine (iV long 1 20 _ _ R4.out).mono ?_);rintro e w7 ⟨rfl,rfl⟩));go_ret;exact ⟨aI (rO (.inr (.inr (.inr R4.out)))).symm,X5.out⟩
       | true =>
         go_upto_region 3 with (first | (go_at_call 40;(with_reducible refine (lW (S:=S) y _ _ (IB.out _ X.out) _ R1.out).mono ?_);rintro e w4 ⟨rfl,hx7⟩;have X4:=ah (X.out.trans hx7);have P1:=ah (Q1.out.ext hx7);have P2:=ah (Q2.out.ext hx7);clear hx7 q1 q2;have q1:=P1.out.cell;have q2:=P2.out.cell) | (go_at_call 41;(with_reducible refine (qY (S:=S) y.config _ a _ (HCR.out _ X4.out) (rP (qA R1.out)).1 _ R2.out).mono ?_);rintro e w5 ⟨rfl,hx7⟩;have X5:=ah (X4.out.trans hx7);have O1:=ah (P1.out.ext hx7);have O2:=ah (P2.out.ext hx7);clear hx7 q1 q2;have q1:=O1.out.cell;have q2:=O2.out.cell) | (go_at_call 42;(with_reducible refine (iV need 1 6 _ _ R3.out).mono ?_);rintro e w6 ⟨rfl,rfl⟩) | (go_at_call 42;(with_reducible refine (iV long 1 20 _ _ R4.out).mono ?_);rintro e w7 ⟨rfl,rfl⟩))
         clear q1 q2;have LA:=ah (VB R2.out);have PO:=ah (tY R1.out);have Ib:=PO.out.rows.now;have afu:IntKind.i64.wrap (y.now+40)=y.now+40:=IntWalk.i64_in _ (by omega);have Ou:Hid (∀ V,Ext w5 V→Calls prog 43 #[.agg (Ry y A1 c1 A2 c2 A3 c3 A4 c4 A5 c5 A6 c6),.agg (Rl a)] V (adf y (nG y (keyOf a)) V)):=ah fun V hV=>Nl (S:=S) y a _ V (IB.out V (X5.out.trans hV)) PO.out LA.out;have HL:=ah (ER PO.out (MH (y:=y) (keyOf a))).2.2.1;have yl:∀ V,Ext w5 V→∀ i,V.cell? ⟨B,i,none⟩=_:=fun V hV=>(O1.out.ext hV).cell;have ll:∀ V,Ext w5 V→∀ i,V.cell? ⟨B+1,i,none⟩=_:=fun V hV=>(O2.out.ext hV).cell;go_region_held3 (fun V=>Ext w5 V) (repeat (first | with_reducible assumption | with_reducible exact Ext.refl _ | with_reducible refine Ext.alloc ?_ _ | with_reducible refine Ext.drew ?_ | with_reducible refine Ext.setCell ?_ (by first | exact Nat.le_refl _ | exact Ext.size (by assumption) | (simp;done) | (simp;omega) | (show _≤_;omega)) _ | with_reducible refine Ext.trans ?_ eu | with_reducible refine Ext.trans ?_ jO)) (first
          | (go_at_call 43;(with_reducible refine (Ou.out _ (by repeat (first | with_reducible assumption | with_reducible exact Ext.refl _ | with_reducible refine Ext.alloc ?_ _ | with_reducible refine Ext.drew ?_ | with_reducible refine Ext.setCell ?_ (by first | exact Nat.le_refl _ | exact Ext.size (by assumption) | (simp;done) | (simp;omega) | (show _≤_;omega)) _ | with_reducible refine Ext.trans ?_ eu | with_reducible refine Ext.trans ?_ jO))).mono ?_);rintro e w8 ⟨B8,z1,z2,z3,z4,z5,z6,z7,z8,rfl,hq,hr,hB8,eu⟩;obtain ⟨vp8,hC8,hp8⟩:=hq.rd)
          | (go_at_call 44;(with_reducible refine (DJ (S:=fun _=>True) (S':=fun _=>True) y (nG y (keyOf a)) a need long (y.now+40) _ _ _ _ _ _ _ _ _ B8 _ (afD hC8 (by repeat (first | with_reducible assumption | with_reducible exact Ext.refl _ | with_reducible refine Ext.alloc ?_ _ | with_reducible refine Ext.drew ?_ | with_reducible refine Ext.setCell ?_ (by first | exact Nat.le_refl _ | exact Ext.size (by assumption) | (simp;done) | (simp;omega) | (show _≤_;omega)) _ ))) (hr.ext (by repeat (first | with_reducible assumption | with_reducible exact Ext.refl _ | with_reducible refine Ext.alloc ?_ _ | with_reducible refine Ext.drew ?_ | with_reducible refine Ext.setCell ?_ (by first | exact Nat.le_refl _ | exact Ext.size (by assumption) | (simp;done) | (simp;omega) | (show _≤_;omega)) _ ))) (hp8.ext (by repeat (first | with_reducible assumption | with_reducible exact Ext.refl _ | with_reducible refine Ext.alloc ?_ _ | with_reducible refine Ext.drew ?_ | with_reducible refine Ext.setCell ?_ (by first | exact Nat.le_refl _ | exact Ext.size (by assumption) | (simp;done) | (simp;omega) | (show _≤_;omega)) _ ))) PO.out.rows (by have:=HL.out;show _≤_;unfold nG;omega) (dR R3.out) (dR R4.out) (by omega)).mono ?_);rintro e w9 ⟨v9,F9,rfl,o9,g9,jO⟩))
         all_goals
          clear yl ll;go_wp2_with fail;go_ret;exact ⟨aI (by rw [MI R1.out R2.out R3.out R4.out,show (y.now+40+1 - y.now).toNat=41 by omega]),X5.out.trans (Ext.trans (by repeat (first | with_reducible assumption | with_reducible exact Ext.refl _ | with_reducible refine Ext.alloc ?_ _ | with_reducible refine Ext.drew ?_ | with_reducible refine Ext.setCell ?_ (by first | exact Nat.le_refl _ | exact Ext.size (by assumption) | (simp;done) | (simp;omega) | (show _≤_;omega)) _ | with_reducible refine Ext.trans ?_ eu | with_reducible refine Ext.trans ?_ jO)) jO)⟩
theorem xC {S:Nat→Prop} (y:aK) (cs:List Value) (a:Label) (w:World) (h:eF.rel S w cs y) (r:Bool) (hr:cleared (labelsIn y.config.nodes) a=r) :
 Calls prog 31 #[.agg cs.toArray,.agg (Rl a)] w fun e w'=>e=.returned (.bool r)∧Ext w w':=by
 obtain ⟨v1,v2,v3,v4,v5,v6,rfl,hf,h1,h2,h3,h4,h5,h6⟩:=h;obtain ⟨A1,c1,rfl,-⟩:=h1.form;obtain ⟨A2,c2,rfl,-⟩:=h2.form;obtain ⟨A3,c3,rfl,-⟩:=h3.form;obtain ⟨A4,c4,rfl,-⟩:=h4.form;have H5:=ah h5;obtain ⟨A5,c5,rfl,l5,m5,hk5⟩:=h5.open_;unfold maxLen at m5;obtain ⟨A6,c6,rfl,-⟩:=h6.form;have HF:=ah hf;have Oo:Hid (iC y.config):=ah hf.1;have H1:=ah h1;have H2:=ah h2;have H3:=ah h3;have H4:=ah h4;have H6:=ah h6;have K5:=ah hk5;have HRR:=ah hr;clear hf h1 h2 h3 h4 h5 h6 hk5 hr;simp only [bV];go_enter func31,ntmps31;go_upto_region 1 with (fail)
 obtain ⟨W,B,hW,hB,hx0,a0,b0⟩:=eY w (Ry y A1 c1 A2 c2 A3 c3 A4 c4 A5 c5 A6 c6) (Rl a) 45 47;rw [← hW,← hB];have QA:=ah a0;have QB:=ah b0;have X:=ah hx0;clear hW hB hx0 a0 b0;have Ku:∀ V,Ext W V→∀ i,V.cell? ⟨B,i,none⟩=_:=fun V hx=>(QA.out.ext hx).cell;have agM:∀ V,Ext W V→∀ i,V.cell? ⟨B+1,i,none⟩=_:=fun V hx=>(QB.out.ext hx).cell;go_region_held3 (fun V=>Ext W V) (first | exact Ext.refl _ | exact (Ext.refl _).drew | assumption | exact Ext.trans (by assumption) hx7 | exact Ext.trans (by assumption) eu) (first
  | (go_at_call 86;(with_reducible refine (ku (S:=S) y.config.nodes _ _ (H1.out.ext (X.out.trans (by assumption)))).mono ?_);rintro e w7 ⟨v7,F7,rfl,o7,-,hx7⟩;obtain ⟨A7,c7,rfl,-⟩:=aW.form o7;have O7:=ah (aW.rd o7);clear o7)
  | (go_at_call 87;(with_reducible refine (dU (S:=fun b=>b∈F7) (labelsIn y.config.nodes) a _ _ (by first | exact O7.out | exact O7.out.ext (by assumption) | exact O7.out.ext (Ext.refl _).drew) _ HRR.out).mono ?_);rintro e w8 ⟨rfl,eu⟩))
 all_goals clear Ku agM
 have X8:Hid (Ext W w8):=ah (by first | assumption | exact Ext.trans (by assumption) eu | exact Ext.drew (by assumption));go_wp2_with fail;go_ret;exact ⟨rfl,X.out.trans X8.out⟩
def uG (a:Label) (need long:Int):Task:=⟨a,0,⟨#[]⟩,need,long,0,⟨0,0⟩,0,0,0,0,[]⟩
theorem abY (y:aK) (ps:List Place) (a:Label) (need long:Int):(toP y ps (uG a need long) 41 = []∧(bP y ps a need long 41 y.now).elim (-1) (·.1) = -1)∨∃ f ns,toP y ps (uG a need long) 41 = [jI (uG a need long) f ns]∧(bP y ps a need long 41 y.now).elim (-1) (·.1)=f:=by
 unfold toP;cases h:bP y ps a need long 41 y.now with
 | none=>exact .inl ⟨by simp [uG,h],rfl⟩
 | some r=>exact .inr ⟨r.1,r.2,by simp [uG,h],rfl⟩
theorem PD {S:Nat→Prop} (y:aK) (a:Label) (need long:Int) (cs:List Value) (w:World) (hy:eF.rel S w cs y) :
 Calls prog 8 #[.agg cs.toArray,.agg (Rl a),.int .i64 need,.int .i64 long] w fun e w'=>e=.returned (.int .i64 (Ij y a need long))∧Ext w w':=by
 have H:=ah hy;obtain ⟨v1,v2,v3,v4,v5,v6,rfl,RY,h1,h2,h3,h4,h5,h6⟩:=hy;obtain ⟨A1,c1,rfl,-⟩:=h1.form;obtain ⟨A2,c2,rfl,-⟩:=h2.form;obtain ⟨A3,c3,rfl,-⟩:=h3.form;obtain ⟨A4,c4,rfl,-⟩:=h4.form;obtain ⟨A5,c5,rfl,-⟩:=h5.form;obtain ⟨A6,c6,rfl,-⟩:=h6.form;have IB:Hid (∀ V,Ext w V→eF.rel S V [.slice A1 y.config.nodes.length c1,.slice A2 y.config.pairs.length c2,.slice A3 y.config.ay.length c3,y.config.half,.slice A4 y.nodes.length c4,.slice A5 y.tasks.length c5,.slice A6 y.uses.length c6,y.now] y):=ah fun V hV=>eF.keep (hV.same _) H.out;clear RY h1 h2 h3 h4 h5 h6;obtain ⟨r1,hr1⟩:∃ t,bD y=t:=⟨_,rfl⟩
 obtain ⟨r2,hr2⟩:∃ t,cleared (labelsIn y.config.nodes) a=t:=⟨_,rfl⟩
 obtain ⟨r3,hr3⟩:∃ t,jG need 1 6=t:=⟨_,rfl⟩
 obtain ⟨r4,hr4⟩:∃ t,jG long 1 20=t:=⟨_,rfl⟩
 have R1:=ah hr1;have R2:=ah hr2;have R3:=ah hr3;have R4:=ah hr4;clear hr1 hr2 hr3 hr4;simp only [bV];go_enter func8,ntmps8;go_upto_region 1 with (fail)
 obtain ⟨W,B,hW,hB,hx0,a0,b0⟩:=eY w (Ry y A1 c1 A2 c2 A3 c3 A4 c4 A5 c5 A6 c6) (Rl a) 45 47;rw [← hW,← hB];have X:=ah hx0;have Q1:=ah a0;have Q2:=ah b0;clear hW hB hx0 a0 b0;have q1:=Q1.out.cell;have q2:=Q2.out.cell;cases r1 with
 | false =>
   go_wp2_with (first | (go_at_call 30;(with_reducible refine (jy (S:=S) y _ _ (IB.out _ X.out) _ R1.out).mono ?_);rintro e w4 ⟨rfl,hx7⟩;have X4:=ah (X.out.trans hx7);have P1:=ah (Q1.out.ext hx7);have P2:=ah (Q2.out.ext hx7);clear hx7 q1 q2;have q1:=P1.out.cell;have q2:=P2.out.cell));go_ret;exact ⟨aI (rO (.inl R1.out)).symm,X4.out⟩
 | true =>
   cases r2 with
   | false =>
     go_wp2_with (first | (go_at_call 30;(with_reducible refine (jy (S:=S) y _ _ (IB.out _ X.out) _ R1.out).mono ?_);rintro e w4 ⟨rfl,hx7⟩;have X4:=ah (X.out.trans hx7);have P1:=ah (Q1.out.ext hx7);have P2:=ah (Q2.out.ext hx7);clear hx7 q1 q2;have q1:=P1.out.cell;have q2:=P2.out.cell) | (go_at_call 31;(with_reducible refine (xC (S:=S) y _ a _ (IB.out _ X4.out) _ R2.out).mono ?_);rintro e w5 ⟨rfl,hx7⟩;have X5:=ah (X4.out.trans hx7);have O1:=ah (P1.out.ext hx7);have O2:=ah (P2.out.ext hx7);clear hx7 q1 q2;have q1:=O1.out.cell;have q2:=O2.out.cell));go_ret;exact ⟨aI (rO (.inr (.inl R2.out))).symm,X5.out⟩
   | true =>
     cases r3 with
     | false =>
       go_wp2_with (first | (go_at_call 30;(with_reducible refine (jy (S:=S) y _ _ (IB.out _ X.out) _ R1.out).mono ?_);rintro e w4 ⟨rfl,hx7⟩;have X4:=ah (X.out.trans hx7);have P1:=ah (Q1.out.ext hx7);have P2:=ah (Q2.out.ext hx7);clear hx7 q1 q2;have q1:=P1.out.cell;have q2:=P2.out.cell) | (go_at_call 31;(with_reducible refine (xC (S:=S) y _ a _ (IB.out _ X4.out) _ R2.out).mono ?_);rintro e w5 ⟨rfl,hx7⟩;have X5:=ah (X4.out.trans hx7);have O1:=ah (P1.out.ext hx7);have O2:=ah (P2.out.ext hx7);clear hx7 q1 q2;have q1:=O1.out.cell;have q2:=O2.out.cell) | (go_at_call 32;(with_reducible refine (zi need 1 6 _ _ R3.out).mono ?_);rintro e w6 ⟨rfl,rfl⟩));go_ret;exact ⟨aI (rO (.inr (.inr (.inl R3.out)))).symm,X5.out⟩
     | true =>
       cases r4 with
       | false =>
         go_wp2_with (first | (go_at_call 30;(with_reducible refine (jy (S:=S) y _ _ (IB.out _ X.out) _ R1.out).mono ?_);rintro e w4 ⟨rfl,hx7⟩;have X4:=ah (X.out.trans hx7);have P1:=ah (Q1.out.ext hx7);have P2:=ah (Q2.out.ext hx7);clear hx7 q1 q2;have q1:=P1.out.cell;have q2:=P2.out.cell) | (go_at_call 31;(with_reducible refine (xC (S:=S) y _ a _ (IB.out _ X4.out) _ R2.out).mono ?_);rintro e w5 ⟨rfl,hx7⟩;have X5:=ah (X4.out.trans hx7);have O1:=ah (P1.out.ext hx7);have O2:=ah (P2.out.ext hx7);clear hx7 q1 q2;have q1:=O1.out.cell;have q2:=O2.out.cell) | (go_at_call 32;(with_reducible refine (zi need 1 6 _ _ R3.out).mono ?_);rintro e w6 ⟨rfl,rfl⟩) | (go_at_call 32;(with_reducible refine (zi long 1 20 _ _ R4.out).mono ?_);rintro e w7 ⟨rfl,rfl⟩));go_ret;exact ⟨aI (rO (.inr (.inr (.inr R4.out)))).symm,X5.out⟩
       | true =>
         go_upto_region 3 with (first | (go_at_call 30;(with_reducible refine (jy (S:=S) y _ _ (IB.out _ X.out) _ R1.out).mono ?_);rintro e w4 ⟨rfl,hx7⟩;have X4:=ah (X.out.trans hx7);have P1:=ah (Q1.out.ext hx7);have P2:=ah (Q2.out.ext hx7);clear hx7 q1 q2;have q1:=P1.out.cell;have q2:=P2.out.cell) | (go_at_call 31;(with_reducible refine (xC (S:=S) y _ a _ (IB.out _ X4.out) _ R2.out).mono ?_);rintro e w5 ⟨rfl,hx7⟩;have X5:=ah (X4.out.trans hx7);have O1:=ah (P1.out.ext hx7);have O2:=ah (P2.out.ext hx7);clear hx7 q1 q2;have q1:=O1.out.cell;have q2:=O2.out.cell) | (go_at_call 32;(with_reducible refine (zi need 1 6 _ _ R3.out).mono ?_);rintro e w6 ⟨rfl,rfl⟩) | (go_at_call 32;(with_reducible refine (zi long 1 20 _ _ R4.out).mono ?_);rintro e w7 ⟨rfl,rfl⟩))
         clear q1 q2;have LA:=ah (VB R2.out);have hla:=LA.out;simp only [aA,Bool.and_eq_true] at hla;have LA1:=ah hla.1;have LA2:=ah hla.2;clear hla;have PO:=ah (tY R1.out);have Ib:=PO.out.rows.now;have afu:IntKind.i64.wrap (y.now+40)=y.now+40:=IntWalk.i64_in _ (by omega);have HUP:Hid (∀ V,Ext w5 V→Calls prog 34 #[.agg (Ry y A1 c1 A2 c2 A3 c3 A4 c4 A5 c5 A6 c6),.int .i64 (8 * a.level+a.set)] V (Rj (nG y (keyOf a)) V)):=ah fun V hV=>by
          rw [← Wq PO.out (keyOf a)];exact I8 (S:=S) y (keyOf a) _ V (IB.out V (X5.out.trans hV)) PO.out
         obtain ⟨pl,hpl⟩:∃ pl,nG y (keyOf a)=pl:=⟨_,rfl⟩
         have Ou:=ah hpl;rw [hpl] at HUP;clear hpl;have HNF:Hid (Rh y (uG a need long)):=ah ⟨LA.out,by show I64 0;unfold I64;omega,dR R3.out,dR R4.out⟩;obtain ⟨qs,Uj⟩:∃ qs,toP y pl (uG a need long) 41=qs:=⟨_,rfl⟩
         have afO:=ah (abY y pl a need long);have yC:Hid (eH (uG a need long)):=ah (by
          have h1:=dR LA1.out;have h2:=dR LA2.out;have h3:=dR R3.out;have h4:=dR R4.out;simp only [eH,uG,I64,Str,ByteArray.size];simp;omega)
         have acW:Hid (∀ (V:World) (u:Value),Ext w5 V→Rd dG (fun _=>True) V u pl→Calls prog 33 #[.agg (Ry y A1 c1 A2 c2 A3 c3 A4 c4 A5 c5 A6 c6),u,.agg #[a.level,a.set,.int .i64 0,.string ⟨#[]⟩,.int .i64 need,.int .i64 long,.int .i64 0,.int .i64 0,.int .i64 0,.int .i64 0,.int .i64 0,.int .i64 0,.int .i64 0,.slice none 0 0],.int .i64 (y.now+40)] V (Rj qs V)):=ah fun V u hV hu=>by
          rw [← Uj];have h:=Dq (S:=S) (S':=fun _=>True) (S2:=fun _=>True) y pl (uG a need long) (y.now+40) _ (aB (uG a need long) (.slice none 0 0)) u V (IB.out V (X5.out.trans hV)) hu ⟨_,rfl,yC.out,Rd.nil (by decide)⟩ PO.out HNF.out (by omega);rw [show (y.now+40+1 - y.now).toNat=41 by omega] at h;exact h
         rw [Uj] at afO;clear Uj;have yl:∀ V,Ext w5 V→∀ i,V.cell? ⟨B,i,none⟩=_:=fun V hV=>(O1.out.ext hV).cell;have ll:∀ V,Ext w5 V→∀ i,V.cell? ⟨B+1,i,none⟩=_:=fun V hV=>(O2.out.ext hV).cell;go_region_held3 (fun V=>Ext w5 V) (repeat (first | with_reducible assumption | with_reducible exact Ext.refl _ | with_reducible refine Ext.alloc ?_ _ | with_reducible refine Ext.drew ?_ | with_reducible refine Ext.setCell ?_ (by first | exact Nat.le_refl _ | exact Ext.size (by assumption) | (simp;done) | (simp;omega) | (show _≤_;omega)) _ | with_reducible refine Ext.trans ?_ eu | with_reducible refine Ext.trans ?_ jO | with_reducible refine Ext.trans ?_ gq)) (first
          | (go_at_call 35;(with_reducible refine (gu a.level a.set _ LA1.out LA2.out).mono ?_);rintro e w8 ⟨rfl,eu⟩)
          | (go_at_call 34;(with_reducible refine (HUP.out _ (by repeat (first | with_reducible assumption | with_reducible exact Ext.refl _ | with_reducible refine Ext.alloc ?_ _ | with_reducible refine Ext.drew ?_ | with_reducible refine Ext.setCell ?_ (by first | exact Nat.le_refl _ | exact Ext.size (by assumption) | (simp;done) | (simp;omega) | (show _≤_;omega)) _ | with_reducible refine Ext.trans ?_ eu | with_reducible refine Ext.trans ?_ jO | with_reducible refine Ext.trans ?_ gq))).mono ?_);rintro e w9 ⟨u9,F9,rfl,q9,jO⟩;obtain ⟨A9,c9,rfl⟩:=dY.form q9;have RR9:=ah q9.rd)
          | (go_at_call 33;(with_reducible refine (acW.out _ _ (by repeat (first | with_reducible assumption | with_reducible exact Ext.refl _ | with_reducible refine Ext.alloc ?_ _ | with_reducible refine Ext.drew ?_ | with_reducible refine Ext.setCell ?_ (by first | exact Nat.le_refl _ | exact Ext.size (by assumption) | (simp;done) | (simp;omega) | (show _≤_;omega)) _ | with_reducible refine Ext.trans ?_ eu | with_reducible refine Ext.trans ?_ jO | with_reducible refine Ext.trans ?_ gq)) (RR9.out.ext (by repeat (first | with_reducible assumption | with_reducible exact Ext.refl _ | with_reducible refine Ext.alloc ?_ _ | with_reducible refine Ext.drew ?_ | with_reducible refine Ext.setCell ?_ (by first | exact Nat.le_refl _ | exact Ext.size (by assumption) | (simp;done) | (simp;omega) | (show _≤_;omega)) _ )))).mono ?_);rintro e w10 ⟨u10,F10,rfl,q10,gq⟩;obtain ⟨yB,c10,rfl⟩:=dY.form q10;have ak6:=ah q10;have Rx:Hid (Ext w5 w10):=ah (Ext.trans (by repeat (first | with_reducible assumption | with_reducible exact Ext.refl _ | with_reducible refine Ext.alloc ?_ _ | with_reducible refine Ext.drew ?_ | with_reducible refine Ext.setCell ?_ (by first | exact Nat.le_refl _ | exact Ext.size (by assumption) | (simp;done) | (simp;omega) | (show _≤_;omega)) _ | with_reducible refine Ext.trans ?_ eu | with_reducible refine Ext.trans ?_ jO | with_reducible refine Ext.trans ?_ gq)) gq)))
         all_goals
          clear yl ll;rcases afO.out with ⟨rfl,h2⟩ | ⟨f,ns,rfl,h2⟩
          · have H2:=ah h2;clear h2;have hq0:((([]:List Place).length:Nat):Int)=0:=rfl;go_wp2_with fail;go_ret;exact ⟨aI (by rw [MI R1.out R2.out R3.out R4.out,Ou.out,H2.out]),X5.out.trans Rx.out⟩
          · have H2:=ah h2;clear h2;obtain ⟨B10,hA,-,-⟩:=ak6.out.addr (by simp);subst hA;obtain ⟨Ax,nx,cx,Gx,hcp,-,-⟩:=ak6.out.at (k:=0) (by simp);have e3:=hcp 3 _ rfl;simp only [nth,List.getD_cons_zero,jI,Nat.zero_mul,Nat.zero_add] at e3;clear hcp;go_wp2_with fail;go_ret;exact ⟨aI (by rw [MI R1.out R2.out R3.out R4.out,Ou.out,H2.out]),X5.out.trans Rx.out⟩
end Go.Proofs.YtbdicafambkhdaaGreat
namespace Go.Proofs.YtbdicafambkhdaaGreat
open Go.Proofs.Tryz
theorem Wl (x:aK):vN (sH x):=jM (jM (jM (oQ _) (tC _)) (xP _)) (Jc _)
open Go.RowKit
attribute [local irreducible] wpQuiet
end Go.Proofs.YtbdicafambkhdaaGreat
namespace Go.Proofs.YtbdicafambkhdaaGreat
open Go.Proofs.Tryz
open Go.RowKit Go.ChangeShapes Go.WideShapes Go.Deep
section
variable {H:Type} {enc:TypeId × Value→H} {P:Program}
end
end Go.Proofs.YtbdicafambkhdaaGreat
namespace Go.Proofs.YtbdicafambkhdaaGreat
open Go.Proofs.Tryz
open Go.RowKit
attribute [local irreducible] wpQuiet
end Go.Proofs.YtbdicafambkhdaaGreat
