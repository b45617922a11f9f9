/- The law FnExactYardPlan: the program's YardPlan and the reference's are equal; its row. The conditions: none. Printed by wip/lawp.py. -/
import Derived.Test.YtbdicafambkhdaaGreatKYardPlan
import Derived.Test.YtbdicafambkhdaaGreatPlanT
import Derived.Test.YtbdicafambkhdaaGreatRows
import Derived.Test.YtbdicafambkhdaaGreatLabels
import Derived.Test.YtbdicafambkhdaaGreatGSmall
import Derived.Test.YtbdicafambkhdaaGreatGYardT
import Derived.Test.YtbdicafambkhdaaGreatClones
import Derived.Deep.RegionHeld3
import Derived.Test.YtbdicafambkhdaaGreatSUpto
import Derived.Test.YtbdicafambkhdaaGreatGYardE
import Derived.Laws.IdiomStrings
import Derived.Laws.BytesArg
import Derived.Test.YtbdicafambkhdaaGreatInsSpan
import Derived.Test.YtbdicafambkhdaaGreatOrderI
import Derived.ChangeMaps5
import Derived.Test.YtbdicafambkhdaaGreatCb
set_option maxRecDepth 100000
namespace Go.Proofs.YtbdicafambkhdaaGreat
open Go.Proofs.Tryz
open Go.ChangeShapes Go.WideShapes Go.ChangeAt Go.RowKit Go.ChangeMaps
attribute [local irreducible] wpQuiet
theorem Yp {S:Nat→Prop} {w:World} {v:Value} {l:List Place} (h:Rd dG S w v l):Rd dG (Lo S w) w v l:=by
 refine h.low ?_ (by decide);rintro _ _ ⟨u,rfl,hf,h⟩;exact ⟨u,rfl,hf,h.low (fun h=>h) (by decide)⟩
theorem ady (y:aK):1+((bC dV (CB y):Nat):Int)≤1125899906842624:=by
 unfold CB;split
 · rename_i hr
   obtain ⟨_,h1,h2,_⟩:=ER (tY hr) (MH (y:=y) 31);have h3:=oZ (n:=dV) (c:=12) (l:=nG y 31) fun x hm=>by
    have h4:=oZ (n:=fZ) (c:=1) (l:=x.nodes) fun _ _=>Nat.le_refl _;have h5:=(h1 x hm).few;unfold dV;omega
   have h6:(nG y 31).length≤3072:=h2;omega
 · decide
set_option maxHeartbeats 64000000 in
theorem yV {S:Nat→Prop} (y:aK) (csy:List Value) (w:World) (hy:eF.rel S w csy y) :
 Calls prog 4 #[.agg csy.toArray] w fun e w'=>e=.returned (.bool true)∧Ext w w':=by
 have h0:(0:Int)≤1048576:=by decide
 obtain ⟨v1,v2,v3,v4,v5,v6,rfl,hf,h1,h2,h3,h4,h5,h6⟩:=hy;obtain ⟨A1,c1,rfl,-⟩:=h1.form;obtain ⟨A2,c2,rfl,-⟩:=h2.form;obtain ⟨A3,c3,rfl,-⟩:=h3.form;obtain ⟨A4,c4,rfl,-⟩:=h4.form;obtain ⟨A5,c5,rfl,-⟩:=h5.form;obtain ⟨A6,c6,rfl,-⟩:=h6.form;have FY:=ah hf;have R1:=ah h1;have R2:=ah h2;have R3:=ah h3;have R4:=ah h4;have R5:=ah h5;have R6:=ah h6;clear hf h1 h2 h3 h4 h5 h6;simp only [bV];have agn:=ady y;obtain ⟨m,hm⟩:∃ m,CB y=m:=⟨_,rfl⟩
 rw [hm] at agn;obtain ⟨N6,hN6⟩:∃ N,adx y=N:=⟨_,rfl⟩
 have BNG:=ah agn;have HM:=ah hm;have HN6:=ah hN6;clear agn hm hN6;go_enter func4,ntmps4;go_upto_region 1 with (fail)
 obtain ⟨W0,B,hW,hB,hx0,b0⟩:∃ W B,W=w.alloc (.cells (Ry y A1 c1 A2 c2 A3 c3 A4 c4 A5 c5 A6 c6) 31)∧B=w.heap.size∧Ext w W∧aF W B 31 (Ry y A1 c1 A2 c2 A3 c3 A4 c4 A5 c5 A6 c6):=⟨_,_,rfl,rfl,(Ext.refl _).alloc _,aF.new _ _ _⟩
 rw [← hW,← hB];have QA:Hid (aF W0 B 31 (Ry y A1 c1 A2 c2 A3 c3 A4 c4 A5 c5 A6 c6)):=ah b0;have X:=ah hx0;clear hW hB hx0 b0;have ac:=QA.out.cell;by_cases hs:sH y 1048576 < 0
 · go_wp2_with fail;refine (xY y _ 1048576 _ (gB FY.out (R1.out.ext X.out) (R2.out.ext X.out) (R3.out.ext X.out) (R4.out.ext X.out) (R5.out.ext X.out) (R6.out.ext X.out)) h0 (Int.le_refl _)).mono ?_;rintro e w1 ⟨rfl,hx⟩;have X1:=ah (X.out.trans hx);clear hx ac;go_wp2_with fail;go_ret;exact ⟨rfl,X1.out⟩
 have hp:0≤sH y 1048576:=by omega
 have M:=ah (EX h0 (Int.le_refl _) hp);clear hs;go_wp2_with fail;refine (xY y _ 1048576 _ (gB FY.out (R1.out.ext X.out) (R2.out.ext X.out) (R3.out.ext X.out) (R4.out.ext X.out) (R5.out.ext X.out) (R6.out.ext X.out)) h0 (Int.le_refl _)).mono ?_;rintro e w1 ⟨rfl,hx⟩;generalize sH y 1048576=q at *;replace QA:=ah (QA.out.ext hx);replace X:=ah (X.out.trans hx);clear hx ac;have ac:=QA.out.cell;go_upto_region 6 with (first | (go_at_call 9;(with_reducible refine (qR (S:=S) y _ _ (gB FY.out (R1.out.ext X.out) (R2.out.ext X.out) (R3.out.ext X.out) (R4.out.ext X.out) (R5.out.ext X.out) (R6.out.ext X.out)) M.out).mono ?_);rintro e wa ⟨csT,rfl,rT,hxa⟩;have RT:=ah rT;clear rT) | (go_at_call 13;(with_reducible refine (Iz y _ _ RT.out).mono ?_);rintro e w2 ⟨vS,FS,rfl,oS,hx2⟩;rw [HM.out] at oS;obtain ⟨AS,cS,rfl⟩:=dY.form oS;have RS:=ah (Yp oS.rd);clear oS))
 clear ac RT;have XN:=hxa.trans hx2;clear hxa hx2;replace QA:=ah (QA.out.ext XN);replace X:=ah (X.out.trans XN);clear XN;have ac:=QA.out.cell;go_upto_region 7 with (go_at_call 9;(with_reducible refine (aaG (S:=S) y _ _ (gB FY.out (R1.out.ext X.out) (R2.out.ext X.out) (R3.out.ext X.out) (R4.out.ext X.out) (R5.out.ext X.out) (R6.out.ext X.out)) M.out).mono ?_);rintro e w3 ⟨csx,FX,rfl,⟨y1,y2,y3,y4,y5,y6,F1,F2,F3,F4,F5,F6,rfl,fx,o1,o2,o3,o4,o5,o6,hF,hn⟩,gX,hx⟩;obtain ⟨E1,e1,rfl,-⟩:=aW.form o1;obtain ⟨E2,e2,rfl,-⟩:=aW.form o2;obtain ⟨E3,e3,rfl,-⟩:=aW.form o3;obtain ⟨E4,e4,rfl,-⟩:=aW.form o4;obtain ⟨E5,e5,rfl,-⟩:=aW.form o5;obtain ⟨E6,e6,rfl,-⟩:=aW.form o6;have OX:Hid (PZ.own w3 [.slice E1 y.config.nodes.length e1,.slice E2 y.config.pairs.length e2,.slice E3 y.config.ay.length e3,y.config.half,.slice E4 y.nodes.length e4,.slice E5 y.tasks.length e5,.slice E6 y.uses.length e6,y.now] y FX):=ah ⟨_,_,_,_,_,_,F1,F2,F3,F4,F5,F6,rfl,fx,o1,o2,o3,o4,o5,o6,hF,hn⟩;have GX:=ah gX;have H3:=ah hx;clear fx o1 o2 o3 o4 o5 o6 hF hn gX hx;simp only [bV])
 have DSX:Hid (∀ b,Lo (fun _=>True) w2 b→b∉FX):=ah (fun b h1 h2=>absurd h1.2 (Nat.not_lt.2 (GX.out b h2)));have NAX:Hid (B∉FX):=ah (fun hb=>absurd QA.out.lt (Nat.not_lt.2 (GX.out _ hb)));have GXw:Hid (∀ b∈FX,w.heap.size≤b):=ah (fun b hb=>Nat.le_trans X.out.size (GX.out b hb));have SZ3:=ah H3.out.size;have XN:=H3.out;clear ac H3;replace QA:=ah (QA.out.ext XN);replace X:=ah (X.out.trans XN);replace RS:=ah (RS.out.ext XN);clear XN;obtain ⟨WX,BX,hW,hB,hx4,bx⟩:∃ W B,W=w3.alloc (.cells (Ry y E1 e1 E2 e2 E3 e3 E4 e4 E5 e5 E6 e6) 45)∧B=w3.heap.size∧Ext w3 W∧aF W B 45 (Ry y E1 e1 E2 e2 E3 e3 E4 e4 E5 e5 E6 e6):=⟨_,_,rfl,rfl,(Ext.refl _).alloc _,aF.new _ _ _⟩
 rw [← hW,← hB];have QX:=ah bx;have SZX:Hid (w2.heap.size≤WX.heap.size):=ah (Nat.le_trans SZ3.out hx4.size);have XN:=hx4;clear hW hB hx4 bx;replace QA:=ah (QA.out.ext XN);replace X:=ah (X.out.trans XN);replace RS:=ah (RS.out.ext XN);replace OX:=ah (aea OX.out XN);clear XN;have ac:=QX.out.cell;go_upto_region 8 with (go_at_call 14;(with_reducible refine (wG (S:=fun b=>b∈FX) y _ _ (PZ.rel OX.out)).mono ?_);rintro e w5 ⟨vG,FG,rfl,oG,gG,hx5⟩;rw [HM.out] at oG;obtain ⟨AG,cG,rfl,-⟩:=aW.form oG;have OG:=ah oG;have GG:Hid (∀ b∈FG,WX.heap.size≤b):=ah (gG);clear oG gG)
 have DGX:Hid (∀ b∈FG,b∉FX):=ah (fun b h1 h2=>absurd (PZ.lt OX.out b h2) (Nat.not_lt.2 (GG.out b h1)));have DSG:Hid (∀ b,Lo (fun _=>True) w2 b→b∉FG):=ah (fun b h1 h2=>absurd (Nat.lt_of_lt_of_le h1.2 SZX.out) (Nat.not_lt.2 (GG.out b h2)));have NAG:Hid (B∉FG):=ah (fun hb=>absurd QA.out.lt (Nat.not_lt.2 (GG.out _ hb)));have GGw:Hid (∀ b∈FG,w.heap.size≤b):=ah (fun b hb=>Nat.le_trans X.out.size (GG.out b hb));have XN:=hx5;clear ac hx5;replace QA:=ah (QA.out.ext XN);replace QX:=ah (QX.out.ext XN);replace X:=ah (X.out.trans XN);replace RS:=ah (RS.out.ext XN);replace OX:=ah (aea OX.out XN);clear XN;go_upto_region 10 with (go_at_call 15;(with_reducible refine (wV m m _ _ _ OG.out.rd RS.out).mono ?_);rintro e w6 ⟨rfl,hx⟩;have H:=ah hx;clear hx)
 have XN:=H.out;clear H;replace QA:=ah (QA.out.ext XN);replace QX:=ah (QX.out.ext XN);replace X:=ah (X.out.trans XN);replace RS:=ah (RS.out.ext XN);replace OX:=ah (aea OX.out XN);replace OG:=ah (OG.out.ext XN);clear XN;have Ku:∀ V,Ext w6 V→∀ i,V.cell? ⟨B,i,none⟩=_:=fun V hx=>(QA.out.ext hx).cell;have aoO:∀ V,Ext w6 V→∀ i,V.cell? ⟨BX,i,none⟩=_:=fun V hx=>(QX.out.ext hx).cell;go_region_held3 (fun V=>Ext w6 V) (first | exact Ext.refl _ | exact (Ext.refl _).drew | assumption | exact Ext.alloc (by assumption) _ | exact Ext.trans (by assumption) apd | exact Ext.trans (by assumption) ape) (first | (go_at_call 9;(with_reducible refine (qR (S:=S) y _ _ (gB FY.out (R1.out.ext (X.out.trans (by assumption))) (R2.out.ext (X.out.trans (by assumption))) (R3.out.ext (X.out.trans (by assumption))) (R4.out.ext (X.out.trans (by assumption))) (R5.out.ext (X.out.trans (by assumption))) (R6.out.ext (X.out.trans (by assumption)))) M.out).mono ?_);rintro e auN ⟨csT,rfl,rT,apd⟩;have RT:=ah rT;clear rT) | (go_at_call 12;(with_reducible refine (Lc y y _ _ _ (PZ.rel (aea OX.out (by assumption))) (by first | exact RT.out | exact afG RT.out (by assumption))).mono ?_);rintro e w7 ⟨rfl,ape⟩));all_goals clear Ku aoO
 have XN:Ext w6 w7:=by first | assumption | exact Ext.drew (by assumption)
 clear RT;replace QA:=ah (QA.out.ext XN);replace QX:=ah (QX.out.ext XN);replace X:=ah (X.out.trans XN);replace RS:=ah (RS.out.ext XN);replace OX:=ah (aea OX.out XN);replace OG:=ah (OG.out.ext XN);clear XN;have hcx:(0:Int)≤(N6:Int):=Int.natCast_nonneg _;have BND:Hid (1+(N6:Int)≤1125899906842624):=ah (by rw [← HN6.out];exact abA M.out);have xc:=QX.out.cell;go_upto_region 14 with (go_at_call 16;(with_reducible refine (VK y _ FX N6 1 _ OX.out HN6.out (by decide) BND.out).mono ?_);rintro e w8 ⟨rfl,k8⟩;have K8:=ah k8;clear k8)
 clear xc;replace RS:=ah (RS.out.keep (K8.out.same DSX.out));replace OG:=ah (OG.out.kept K8.out DGX.out);replace QA:Hid (aF w8 B 31 (Ry y A1 c1 A2 c2 A3 c3 A4 c4 A5 c5 A6 c6)):=ah ((K8.out.block _ QA.out.lt NAX.out).trans QA.out);replace X:Hid (Ext w w8):=ah (K8.out.ext X.out GXw.out);clear OX QX;have hk1:¬ (1+(N6:Int) < 0):=by omega
 go_upto_region 16 with (go_at_call 15;(with_reducible refine (wV m m _ _ _ OG.out.rd RS.out).mono ?_);rintro e w9 ⟨rfl,hx⟩;have H:=ah hx;clear hx)
 have XN:=H.out;clear H;replace QA:=ah (QA.out.ext XN);replace X:=ah (X.out.trans XN);replace RS:=ah (RS.out.ext XN);replace OG:=ah (OG.out.ext XN);clear XN;have hcg:(0:Int)≤((bC dV m:Nat):Int):=Int.natCast_nonneg _;go_upto_region 18 with (go_at_call 17;(with_reducible refine (MP m _ FG 1 _ OG.out (by decide) BNG.out).mono ?_);rintro e w10 ⟨rfl,om,km⟩;have K10:=ah km;have OM:=ah om;clear om km)
 replace RS:=ah (RS.out.keep (K10.out.same DSG.out));replace QA:Hid (aF w10 B 31 (Ry y A1 c1 A2 c2 A3 c3 A4 c4 A5 c5 A6 c6)):=ah ((K10.out.block _ QA.out.lt NAG.out).trans QA.out);replace X:Hid (Ext w w10):=ah (K10.out.ext X.out GGw.out);clear OG;go_upto_region 24 with (go_at_call 18;(with_reducible refine (yY (S:=fun b=>b∈FG) m _ 1 _ OM.out.rd (by decide) BNG.out).mono ?_);rintro e sO ⟨rfl,hx⟩;have H:=ah hx;clear hx)
 have XN:=H.out;clear H;replace QA:=ah (QA.out.ext XN);replace X:=ah (X.out.trans XN);replace RS:=ah (RS.out.ext XN);replace OM:=ah (OM.out.ext XN);clear XN;have ac:=QA.out.cell;go_upto_region 25 with (first | (go_at_call 9;(with_reducible refine (qR (S:=S) y _ _ (gB FY.out (R1.out.ext X.out) (R2.out.ext X.out) (R3.out.ext X.out) (R4.out.ext X.out) (R5.out.ext X.out) (R6.out.ext X.out)) M.out).mono ?_);rintro e wc ⟨csT,rfl,rT,hxc⟩;have RT:=ah rT;clear rT) | (go_at_call 14;(with_reducible refine (wG y _ _ RT.out).mono ?_);rintro e w12 ⟨vH,FH,rfl,oH,gH,alV⟩;rw [HM.out] at oH;obtain ⟨AH,cH,rfl,-⟩:=aW.form oH;have OH:=ah oH;have GH:Hid (∀ b∈FH,sO.heap.size≤b):=ah (fun b hb=>Nat.le_trans (Ext.size hxc) (gH b hb));clear oH gH))
 clear ac RT;have XN:=hxc.trans alV;clear hxc alV;replace X:=ah (X.out.trans XN);replace RS:=ah (RS.out.ext XN);replace OM:=ah (OM.out.ext XN);clear XN;go_upto_region 27 with (go_at_call 15;(with_reducible refine (wV m m _ _ _ OH.out.rd RS.out).mono ?_);rintro e w13 ⟨rfl,hx⟩;have H:=ah hx;clear hx)
 have XN:=H.out;clear H;replace X:=ah (X.out.trans XN);replace OM:=ah (OM.out.ext XN);clear XN;go_wp2_with (go_at_call 18;(with_reducible refine (yY (S:=fun b=>b∈FG) m _ 1 _ OM.out.rd (by decide) BNG.out).mono ?_);rintro e w14 ⟨rfl,hx⟩;have X14:=ah (X.out.trans hx);clear hx);go_ret;exact ⟨rfl,X14.out⟩
theorem wY (os:Os) (started:os.Started) (H:Type) (enc:TypeId × Value→H) :
 ReturnsInHanded {} Tryz.checked os 4 .any (Rows.fnExactYardPlanSpec.pre6 enc prog Tryz.f4 Rows.fnExactYardPlanRow.domain false) (Rows.fnExactYardPlanSpec.post enc prog Tryz.f4 false true false false):=by
 refine returnsInHanded_of_change (C:=Tryz.checked) (show ownKnob prog.godebug=none by kernel_rfl) started (by kernel_rfl) func4
  (ChangeSpec.witness6 (enc:=enc) (C:=Tryz.checked) false ⟨#[],#[.agg Zr.y],[]⟩ 8 (by kernel_rfl) (by kernel_rfl) (by kernel_rfl) (by kernel_rfl)) ?_
 intro W base args ds gs before hval0 hW hcnd _;have hval:∀ (j:Nat) t v,Tryz.f4.params[j]? = some t→args[j]? = some v→Value.okWide prog W .any base t v:=hval0;have hW':=hW;obtain ⟨p,q,hA0,hV,rfl,hfz,hnd⟩:=hW;have hA:DataW.TrodAll enc prog W 0 (fun _=>true) true Tryz.f4.params.toList args.toList ds p:=hA0;rw [params4] at hA hval;obtain ⟨v0,d0,rfl,rfl,h0⟩:=trodAll_one hA;obtain ⟨rfl,rfl⟩:=trodVars_none hV;obtain ⟨fu0,hf0⟩:=h0;obtain ⟨y1,ry1⟩:=Nb hf0;obtain ⟨⟨cs0⟩,rfl,hsz0⟩:=okWide_struct underlying31 (hval 0 31 v0 rfl rfl);simp only [Value.cells] at ry1;clear hf0 hsz0;clear hA0 hval0 hval hcnd;refine (yV y1 _ W ry1).mono fun e W2 ⟨he,hx⟩=>?_;subst he;exact ⟨_,rfl,VE (by kernel_rfl) (by kernel_rfl) underlying4 (by intro t ht;rw [params4] at ht;simp only [List.mem_cons,List.not_mem_nil,or_false] at ht;rcases ht with rfl <;> exact ⟨by kernel_rfl,of_decide_eq_true (by kernel_rfl)⟩) rfl rfl hW' hx⟩
theorem fnExactYardPlan_holds:Rows.FnExactYardPlanSaid :=
 OpenClaim.holds_of_wide 4 Tryz.f4 rfl rfl rfl rfl rfl rfl rfl ⟨rfl,rfl,rfl,rfl,rfl⟩ rfl rfl rfl rfl rfl (by kernel_rfl) func4 wX
  (of_decide_eq_true (by kernel_rfl)) (by unfold Func.isWrapper;rw [if_neg (of_decide_eq_false (by kernel_rfl))];exact ⟨rfl,rfl⟩)
  (fun os started H enc _=>wY os started H enc)
end Go.Proofs.YtbdicafambkhdaaGreat
