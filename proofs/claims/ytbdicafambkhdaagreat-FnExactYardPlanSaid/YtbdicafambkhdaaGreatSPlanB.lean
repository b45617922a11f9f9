/- The walks of the reference's planner, its small words: who keeps its place, which nodes fit, the least begin. Printed by wip/splan.py. -/
import Derived.Test.YtbdicafambkhdaaGreatSPlanA
set_option maxHeartbeats 16000000
set_option maxRecDepth 100000
namespace Go.Proofs.YtbdicafambkhdaaGreat
open Go.Proofs.Tryz
open Go.RowKit
attribute [local irreducible] wpQuiet
theorem abV {y:aK} {ps:List Place} {t:Task} (h:jg (bg y) ps t.nodes ⟨t.start,endOf t⟩=true):qL y ps t=(decide (t.state=1) && decide (0 < t.nodes.length) && decide (y.now≤t.start)):=by rw [qL,h];rfl
theorem SC {S S' S2:Nat→Prop} (y:aK) (ps:List Place) (t:Task) (cs ct0:List Value) (vp:Value) (w:World) (hy:eF.rel S w cs y) (hp:Rd dG S' w vp ps) (ht:ETask.rel S2 w ct0 t) (hk:og y) (hf:iI y t) :
 Calls prog 182 #[.agg cs.toArray,vp,.agg ct0.toArray] w fun e w'=>e=.returned (.bool (qL y ps t))∧Ext w w':=by
 obtain ⟨v1,v2,v3,v4,v5,v6,rfl,RY,h1,h2,h3,h4,h5,h6⟩:=hy;obtain ⟨A1,c1,rfl,-⟩:=h1.form;obtain ⟨A2,c2,rfl,-⟩:=h2.form;obtain ⟨A3,c3,rfl,-⟩:=h3.form;obtain ⟨A4,c4,rfl,-⟩:=h4.form;obtain ⟨A5,c5,rfl,-⟩:=h5.form;obtain ⟨A6,c6,rfl,-⟩:=h6.form;obtain ⟨u,rfl,hft,hrd⟩:=ht;obtain ⟨At,ct,rfl,tl,tm,hkt⟩:=hrd.open_;unfold maxLen at tm;have HKT:=ah hkt;have Uu:=ah hrd;have yC:=ah hft;have Jt:=ah hf;have Jv:=ah hk;have HP:=ah hp;obtain ⟨Ap,cp,rfl,-⟩:=hp.form;have Ur:Hid (∀ V,Ext w V→Calls prog 177 #[.slice A4 y.nodes.length c4,.int .i64 2] V (kX (pX ji 142) 149 (bg y) V)):=ah fun V hV=>by
  have e:bg y=y.nodes.map (dA 2):=by rw [bg,rowsOf,if_pos hk.nodes]
  rw [e];exact zl (S:=S) y.nodes 2 _ V (h4.ext hV) hk.nodes
 have FK:Hid (∀ V,Ext w V→Calls prog 61 #[.agg (Rt t (.slice At t.nodes.length ct))] V fun e w'=>e=.returned (.int .i64 (endOf t))∧Ext V w'):=ah fun V hV=>xB (S:=S2) t _ V (eU hft (hrd.ext hV)) hf.start.1 hf.start.2 hf.long.1 hf.long.2;have HSL:Hid ((bg y).length=y.config.nodes.length∧y.nodes.length=y.config.nodes.length):=ah ⟨hk.rows.s,hk.len⟩;clear RY h1 h2 h3 h4 h5 h6 hft hrd hkt hk hf hp;simp only [bV,aB];go_enter func182,ntmps182;go_upto_region 1 with (fail)
 obtain ⟨W,B,hW,hB,hx0,a0,b0⟩:=eY w (Ry y A1 c1 A2 c2 A3 c3 A4 c4 A5 c5 A6 c6) (Rt t (.slice At t.nodes.length ct)) 45 76;rw [← hW,← hB];have X:=ah hx0;have Q1:=ah a0;have Q2:=ah b0;clear hW hB hx0 a0 b0;have q1:=Q1.out.cell;have q2:=Q2.out.cell;go_upto_region 2 with (go_at_call 177;(with_reducible refine (Ur.out _ X.out).mono ?_);rintro e w1 ⟨u1,F1,rfl,o1,g1,hx1⟩;have O1:=ah o1;replace X:=ah (X.out.trans hx1);replace Q1:=ah (Q1.out.ext hx1);replace Q2:=ah (Q2.out.ext hx1);obtain ⟨Ah,ch,rfl,-⟩:=aW.form o1;clear o1 g1 hx1 q1 q2;have q1:=Q1.out.cell;have q2:=Q2.out.cell)
 clear Ur;obtain ⟨Ah2,ch2,hv,l1,m1,hkh⟩:=O1.out.rd.open_;injection hv with e1 e2 e3
 subst e1 e3;clear e2;unfold maxLen at m1;have HKH:=ah hkh;clear hkh q1 q2;go_wp2_with fail;go_loopw [8] (fun i w'=>∃ k:Nat,k≤t.nodes.length∧i=.int .i64 k∧jg (bg y) ps (t.nodes.take k) ⟨t.start,endOf t⟩=true∧Ext w1 w') (fun i _=>t.nodes.length - (intOf i).toNat);case atStart=>exact ⟨0,Nat.zero_le _,rfl,by simp [jg],Ext.refl _⟩
 case round =>
  obtain ⟨k,hk1,rfl,hall,hx⟩:=hrel;have HA:=ah hall;have HX:=ah hx;have XX:=ah (X.out.trans hx);clear hall hx;have q2:=(Q2.out.ext HX.out).cell;by_cases hlt:k < t.nodes.length
  · obtain ⟨b,q,cs',rfl,_,⟨rfl,hfit⟩,hc⟩:=HKT.out k hlt;have c0:=Ext.some XX.out (hc 0 _ rfl);simp only [fC,Nat.mul_one,Nat.add_zero] at c0;have HN:=ah (Jt.out.nodes _ (bG hlt));obtain ⟨n,hn⟩:∃ n:Nat,nth t.nodes k=(n:Int):=⟨(nth t.nodes k).toNat,by have:=HN.out.1;omega⟩
    have HNE:=ah hn;have hnl:n < (bg y).length:=by have h1:=HN.out.2;have h2:=HSL.out;rw [hn] at h1;simp at h1;omega
    rw [hn] at c0;obtain ⟨bh,qh,csh,hAh,_,⟨uh,rfl,Ls⟩,hch⟩:=HKH.out n hnl;subst hAh;have d0:=Ext.some HX.out (hch 0 _ rfl);simp only [gU,Nat.mul_one,Nat.add_zero] at d0;have HRU:=ah (Ls.ext HX.out);obtain ⟨Au,cu,rfl,-⟩:=Ls.form;obtain ⟨r,hr⟩:∃ r,jC (kU (bg y) (n:Int)) ps (n:Int) ⟨t.start,endOf t⟩=r:=⟨_,rfl⟩
    have HRR:=ah hr;have HC1:Hid (∀ V,Ext wr V→Calls prog 178 #[.slice Au (nth (bg y) n).length cu,.slice Ap ps.length cp,.int .i64 (n:Int),.agg #[t.start,.int .i64 (endOf t)]] V fun e w'=>e=.returned (.bool r)∧Ext V w'):=ah fun V hV=>by rw [← hr];exact zq (S:=fun b=>b∈F1) (S':=S') (nth (bg y) n) ps (n:Int) ⟨t.start,endOf t⟩ _ _ V (HRU.out.ext hV) (HP.out.ext (XX.out.trans hV))
    obtain ⟨tc,htc⟩:∃ tc:List Value,tc = [.int .i64 t.label.level,.int .i64 t.label.set,.int .i64 t.id,.string t.owner,.int .i64 t.need,.int .i64 t.long,.int .i64 t.prio,.int .i64 t.under.level,.int .i64 t.under.set,.int .i64 t.after,.int .i64 t.born,.int .i64 t.state,.int .i64 t.start,.slice (some ⟨b,q,none⟩) t.nodes.length ct]:=⟨_,rfl⟩
    have HT5:Hid (wr.rangeAt (B+1) 0 tc):=ah (by have h:=(Q2.out.ext HX.out).range;rw [htc];simpa using h);have HI:Hid ((prog.info? 76).map (·.size)=some tc.length):=ah (by rw [htc];kernel_rfl);have HE2:Hid (∀ V,Ext wr V→Calls prog 61 #[.agg tc.toArray] V fun e w'=>e=.returned (.int .i64 (endOf t))∧Ext V w'):=ah fun V hV=>by rw [htc];exact FK.out V (XX.out.trans hV)
    have s12:wr.cell? ⟨B+1,12,none⟩=some (.int .i64 t.start):=(Q2.out.ext HX.out).cell 12;have s13:wr.cell? ⟨B+1,13,none⟩=some (.slice (some ⟨b,q,none⟩) t.nodes.length ct):=(Q2.out.ext HX.out).cell 13;clear hc hfit hn hch Ls hr htc;go_upto_region 5 with (fail)
    clear q2;refine ak (by kernel_rfl) (by kernel_rfl) ?_;repeat (
     first
     | (refine aS (by rfl) 76 _ rfl (B+1) (0) rfl tc _ (fun bH aj=>aj.range HT5.out) underlying76 rfl HI.out ?_;simp only [Act.put,List.setIfInBounds_toArray,List.set_cons_zero,List.set_cons_succ])
     | (refine wpQuiet_step (fun K hK=>?_)
        go_simp;first
         | (refine hK _ ?_;clear hK K)
         | (apply Exists.intro
            refine ⟨fun bH aj=>?_,hK _ ?_⟩
            · have kH:=Ext.some aj c0;have jH:=Ext.some aj d0;have aqQ:=Ext.some aj s12;have abh:=Ext.some aj s13;first | exact rfl | (go_simp;done) | (go_simp;exact rfl) | (go_at_call 61;exact aJ aj (HE2.out _ aj)) | (go_at_call 178;exact aJ aj (HC1.out _ aj))
            clear hK K)))
    refine wpQuiet_nil ?_;intro w1 hx1;have X1:=ah hx1;clear hx1;cases r with
    | false =>
      have HNO:Hid (qL y ps t=false):=ah (by rw [qL,IE hlt (by rw [HNE.out];exact HRR.out)];rfl);go_wp2_with fail;go_ret;exact ⟨au HNO.out.symm,XX.out.trans X1.out⟩
    | true =>
      have HAK:=ah (Eb hlt HA.out (by rw [HNE.out];exact HRR.out));go_wp2_with fail;go_roundw;case rel=>exact ⟨k+1,by omega,by go_num,HAK.out,HX.out.trans X1.out⟩
      case measure=>simp [intOf];omega
  · obtain rfl:k=t.nodes.length:=by omega
    have HKB:=ah (abV (y:=y) (ps:=ps) (t:=t) (by have h:=HA.out;rwa [List.take_length] at h));have q1:=(Q1.out.ext HX.out).cell;clear hlt hk1;go_wp2_with fail;all_goals
     go_ret;exact ⟨au (by rw [HKB.out];simp_all),XX.out⟩
def JC (y:aK) (ps:List Place) (a:Label) (need:Int) (x:Span):List Int:=if need≤((rV y ps a x).length:Int) then (rV y ps a x).take need.toNat else []
def kF (y:aK) (ps:List Place) (a:Label) (x:Span) (k:Nat):List Int:=(eP y.config.nodes a k).filter fun n=>jC (kU (bg y) n) ps n x
theorem Qj (y:aK) (ps:List Place) (a:Label) (x:Span):kF y ps a x y.config.nodes.length=rV y ps a x:=rfl
theorem abK {y:aK} {ps:List Place} {a:Label} {x:Span} {k:Nat} (h:cleared (nth y.config.nodes k) a=false):kF y ps a x (k+1)=kF y ps a x k:=by
 rw [kF,nP,h];simp [kF]
theorem abL {y:aK} {ps:List Place} {a:Label} {x:Span} {k:Nat} (h:cleared (nth y.config.nodes k) a=true) (h2:jC (kU (bg y) (k:Int)) ps (k:Int) x=false):kF y ps a x (k+1)=kF y ps a x k:=by
 rw [kF,nP,h];simp [kF,List.filter_append,h2]
theorem abM {y:aK} {ps:List Place} {a:Label} {x:Span} {k:Nat} (h:cleared (nth y.config.nodes k) a=true) (h2:jC (kU (bg y) (k:Int)) ps (k:Int) x=true):kF y ps a x (k+1)=kF y ps a x k ++ [(k:Int)]:=by
 rw [kF,nP,h];simp [kF,List.filter_append,h2]
theorem IX {y:aK} {ps:List Place} {a:Label} {x:Span} {k:Nat}:∀ d,∃ s,kF y ps a x (k+d)=kF y ps a x k ++ s
 | 0=>⟨[],by simp⟩
 | d+1=>by
   obtain ⟨s,hs⟩:=IX (y:=y) (ps:=ps) (a:=a) (x:=x) (k:=k) d;have e:kF y ps a x (k+(d+1))=kF y ps a x (k+d) ++ (if cleared (nth y.config.nodes (k+d)) a=true then [((k+d:Nat):Int)] else []).filter (fun n=>jC (kU (bg y) n) ps n x):=by
    rw [kF,← Nat.add_assoc,nP,List.filter_append];rfl
   exact ⟨s ++ _,by rw [e,hs,List.append_assoc]⟩
theorem adF {y:aK} {ps:List Place} {a:Label} {x:Span} {need:Int} {k:Nat} (hn:1≤need) (hk:k≤y.config.nodes.length) (hl:((kF y ps a x k).length:Int)≤need) (he:k=y.config.nodes.length∨¬ ((kF y ps a x k).length:Int) < need) :
 JC y ps a need x=if ((kF y ps a x k).length:Int) < need then [] else kF y ps a x k:=by
 obtain ⟨s,hs⟩:=IX (y:=y) (ps:=ps) (a:=a) (x:=x) (k:=k) (y.config.nodes.length - k);rw [show k+(y.config.nodes.length - k)=y.config.nodes.length by omega,Qj] at hs;unfold JC;by_cases hlt:((kF y ps a x k).length:Int) < need
 · rw [if_pos hlt];rcases he with he | he
   · subst he;rw [← Qj,if_neg (by omega)]
   · exact absurd hlt he
 · rw [if_neg hlt];have e:(kF y ps a x k).length=need.toNat:=by omega
   rw [if_pos (by rw [hs,List.length_append];omega),hs,← e,List.take_left]
theorem Yo {S S':Nat→Prop} (y:aK) (ps:List Place) (a:Label) (need:Int) (x:Span) (cs:List Value) (vp:Value) (w:World) (hy:eF.rel S w cs y) (hp:Rd dG S' w vp ps) (hk:og y) (alP:1≤need∧need≤6) :
 Calls prog 90 #[.agg cs.toArray,vp,.agg (Rl a),.int .i64 need,.agg (Rs x)] w (kX jD 2 (JC y ps a need x) w):=by
 obtain ⟨v1,v2,v3,v4,v5,v6,rfl,RY,h1,h2,h3,h4,h5,h6⟩:=hy;obtain ⟨A1,c1,rfl,-⟩:=h1.form;obtain ⟨A2,c2,rfl,-⟩:=h2.form;obtain ⟨A3,c3,rfl,-⟩:=h3.form;obtain ⟨A4,c4,rfl,-⟩:=h4.form;obtain ⟨A5,c5,rfl,-⟩:=h5.form;obtain ⟨A6,c6,rfl,-⟩:=h6.form;have HP:=ah hp;obtain ⟨Ap,cp,rfl,-⟩:=hp.form;have Ur:Hid (∀ V,Ext w V→Calls prog 177 #[.slice A4 y.nodes.length c4,.int .i64 2] V (kX (pX ji 142) 149 (bg y) V)):=ah fun V hV=>by
  have e:bg y=y.nodes.map (dA 2):=by rw [bg,rowsOf,if_pos hk.nodes]
  rw [e];exact zl (S:=S) y.nodes 2 _ V (h4.ext hV) hk.nodes
 obtain ⟨A1',c1',hv1,y1,y2,alK⟩:=h1.open_;injection hv1 with e1 e2 e3
 subst e1 e3;clear e2;unfold maxLen at y2;have HKC:=ah alK;have HSL:Hid ((bg y).length=y.config.nodes.length∧y.config.nodes.length≤6):=ah ⟨hk.rows.s,hk.rows.few⟩;clear RY h1 h2 h3 h4 h5 h6 hk hp alK;simp only [bV];go_enter func90,ntmps90;go_upto_region 1 with (fail)
 obtain ⟨W,B,hW,hB,hx0,a0,b0,d0⟩:=lQ w (Ry y A1 c1 A2 c2 A3 c3 A4 c4 A5 c5 A6 c6) (Rl a) (Rs x) 45 47 142;rw [← hW,← hB];have X:=ah hx0;have Q1:=ah a0;have Q2:=ah b0;have Q3:=ah d0;clear hW hB hx0 a0 b0 d0;have q1:=Q1.out.cell;go_upto_region 2 with (go_at_call 177;(with_reducible refine (Ur.out _ X.out).mono ?_);rintro e w1 ⟨u1,F1,rfl,o1,g1,hx1⟩;have O1:=ah o1;replace X:=ah (X.out.trans hx1);replace Q1:=ah (Q1.out.ext hx1);replace Q2:=ah (Q2.out.ext hx1);replace Q3:=ah (Q3.out.ext hx1);obtain ⟨Ah,ch,rfl,-⟩:=aW.form o1;clear o1 g1 hx1 q1)
 clear Ur;obtain ⟨Ah2,ch2,hv,l1,m1,hkh⟩:=O1.out.rd.open_;injection hv with e1 e2 e3
 subst e1 e3;clear e2;unfold maxLen at m1;have HKH:=ah hkh;clear hkh;have hRL:((bg y).length:Int)=(y.config.nodes.length:Int):=by have:=HSL.out.1;omega
 go_upto_region 3 with (fail)
 obtain ⟨W5,B5,aX,aT,aj,fQ⟩:=iK w1 #[] 2;rw [← aX,← aT];have vO:=ah aj;have DX:=ah fQ;have EB5:=ah aT;clear aX aT aj fQ;go_wp2_with fail;go_loopw [12,13] (fun v i w'=>∃ (k:Nat) (F:List Nat),k≤y.config.nodes.length∧i=.int .i64 k∧aW jD 2 w' v (kF y ps a x k) F∧(∀ b∈F,w.heap.size≤b)∧(∀ b∈F,w1.heap.size≤b)∧((kF y ps a x k).length:Int)≤need∧Ext w1 w') (fun _ i _=>y.config.nodes.length - (intOf i).toNat);case atStart=>exact ⟨0,[B5],Nat.zero_le _,rfl,.inr ⟨B5,0,#[],[],rfl,DX.out,Nat.le_refl _,Nat.zero_le _,rfl,rfl,rfl,by simp,fun k hk=>absurd hk (Nat.not_lt_zero _)⟩,fun b hb=>by rw [List.mem_singleton.1 hb,EB5.out];exact X.out.size,fun b hb=>by rw [List.mem_singleton.1 hb,EB5.out];exact Nat.le_refl _,by simp [kF,eP];omega,vO.out⟩
 case round =>
  obtain ⟨k,F,hk1,rfl,hown,hF,hF1,hlen,hx⟩:=hrel;have HO:=ah hown;have HF:=ah hF;have FD:=ah hF1;have HX:=ah hx;have XX:=ah (X.out.trans hx);have LF:=ah hown.lt;obtain ⟨Ao,co,rfl,lo,mo⟩:=hown.form;unfold maxLen at mo;obtain ⟨fl,hfl⟩:∃ fl,kF y ps a x k=fl:=⟨_,rfl⟩
  have Oq:=ah hfl;rw [hfl] at HO lo hlen ⊢;clear hown hF hF1 hx hfl;have HLN:=ah hlen;by_cases hlt:k < y.config.nodes.length∧(fl.length:Int) < need
  · obtain ⟨hlt,hfn⟩:=hlt;have hkr:k < (bg y).length:=by have:=HSL.out.1;omega
    obtain ⟨bc,qc,csc,hAc,_,⟨uc,rfl,ag9⟩,hcc⟩:=HKC.out k hlt;subst hAc;have c0:=Ext.some XX.out (hcc 0 _ rfl);simp only [gU,Nat.mul_one,Nat.add_zero] at c0;have HRC:=ah (ag9.ext XX.out);obtain ⟨Ac,cc,rfl,-⟩:=ag9.form;obtain ⟨bh,qh,csh,hAh,_,⟨uh,rfl,Ls⟩,hch⟩:=HKH.out k hkr;subst hAh;have d0:=Ext.some HX.out (hch 0 _ rfl);simp only [gU,Nat.mul_one,Nat.add_zero] at d0;have HRU:=ah (Ls.ext HX.out);obtain ⟨Au,cu,rfl,-⟩:=Ls.form;obtain ⟨r1,hr1⟩:∃ r,cleared (nth y.config.nodes k) a=r:=⟨_,rfl⟩
    obtain ⟨r2,hr2⟩:∃ r,jC (kU (bg y) (k:Int)) ps (k:Int) x=r:=⟨_,rfl⟩
    have HR1:=ah hr1;have HR2:=ah hr2;have HC1:Hid (∀ V,Ext wr V→Calls prog 87 #[.slice Ac (nth y.config.nodes k).length cc,.agg (Rl a)] V fun e w'=>e=.returned (.bool r1)∧Ext V w'):=ah fun V hV=>dU (S:=S) (nth y.config.nodes k) a _ V (HRC.out.ext hV) r1 hr1;have HC2:Hid (∀ V,Ext wr V→Calls prog 178 #[.slice Au (nth (bg y) k).length cu,.slice Ap ps.length cp,.int .i64 (k:Int),.agg (Rs x)] V fun e w'=>e=.returned (.bool r2)∧Ext V w'):=ah fun V hV=>by rw [← hr2];exact zq (S:=fun b=>b∈F1) (S':=S') (nth (bg y) k) ps (k:Int) x _ _ V (HRU.out.ext hV) (HP.out.ext (XX.out.trans hV))
    have n0:wr.cell? ⟨B,0,none⟩=some (.slice (some ⟨bc,qc,none⟩) y.config.nodes.length c1):=(Q1.out.ext HX.out).cell 0;have a0:wr.cell? ⟨B+1,0,none⟩=some (.int .i64 a.level):=(Q2.out.ext HX.out).cell 0;have a1:wr.cell? ⟨B+1,1,none⟩=some (.int .i64 a.set):=(Q2.out.ext HX.out).cell 1;have x0:wr.cell? ⟨B+1+1,0,none⟩=some (.int .i64 x.from_):=(Q3.out.ext HX.out).cell 0;have x1:wr.cell? ⟨B+1+1,1,none⟩=some (.int .i64 x.jA):=(Q3.out.ext HX.out).cell 1;clear hcc ag9 hch Ls hr1 hr2;go_upto_region 6 with (fail)
    cases r1 with
    | false =>
      have HT:Hid (kF y ps a x (k+1)=fl):=ah (by rw [abK HR1.out,Oq.out]);refine ak (by kernel_rfl) (by kernel_rfl) ?_;repeat (
       (refine wpQuiet_step (fun K hK=>?_)
        go_simp;first
         | (refine hK _ ?_;clear hK K)
         | (apply Exists.intro
            refine ⟨fun bH aj=>?_,hK _ ?_⟩
            · have kH:=Ext.some aj c0;have jH:=Ext.some aj d0;have ab4:=Ext.some aj n0;have ala:=Ext.some aj a0;have alb:=Ext.some aj a1;have acK:=Ext.some aj x0;have acL:=Ext.some aj x1;first | exact rfl | (go_simp;done) | (go_simp;exact rfl) | (go_at_call 87;exact aJ aj (HC1.out _ aj))
            clear hK K)))
      refine wpQuiet_nil ?_;intro w1 hx1;go_wp2_with fail;go_roundw;case rel=>exact ⟨k+1,F,by omega,by go_num,by rw [HT.out];exact HO.out.ext hx1,HF.out,FD.out,by rw [HT.out];exact HLN.out,HX.out.trans hx1⟩
      case measure=>simp [intOf];omega
    | true =>
      cases r2 with
      | false =>
        have HT:Hid (kF y ps a x (k+1)=fl):=ah (by rw [abL HR1.out HR2.out,Oq.out]);refine ak (by kernel_rfl) (by kernel_rfl) ?_;repeat (
         (refine wpQuiet_step (fun K hK=>?_)
          go_simp;first
           | (refine hK _ ?_;clear hK K)
           | (apply Exists.intro
              refine ⟨fun bH aj=>?_,hK _ ?_⟩
              · have kH:=Ext.some aj c0;have jH:=Ext.some aj d0;have ab4:=Ext.some aj n0;have ala:=Ext.some aj a0;have alb:=Ext.some aj a1;have acK:=Ext.some aj x0;have acL:=Ext.some aj x1;first | exact rfl | (go_simp;done) | (go_simp;exact rfl) | (go_at_call 87;exact aJ aj (HC1.out _ aj)) | (go_at_call 178;exact aJ aj (HC2.out _ aj))
              clear hK K)))
        refine wpQuiet_nil ?_;intro w1 hx1;go_wp2_with fail;go_roundw;case rel=>exact ⟨k+1,F,by omega,by go_num,by rw [HT.out];exact HO.out.ext hx1,HF.out,FD.out,by rw [HT.out];exact HLN.out,HX.out.trans hx1⟩
        case measure=>simp [intOf];omega
      | true =>
        have HT:Hid (kF y ps a x (k+1)=fl ++ [(k:Int)]):=ah (by rw [abM HR1.out HR2.out,Oq.out]);refine ak (by kernel_rfl) (by kernel_rfl) ?_;repeat (
         (refine wpQuiet_step (fun K hK=>?_)
          go_simp;first
           | (refine hK _ ?_;clear hK K)
           | (apply Exists.intro
              refine ⟨fun bH aj=>?_,hK _ ?_⟩
              · have kH:=Ext.some aj c0;have jH:=Ext.some aj d0;have ab4:=Ext.some aj n0;have ala:=Ext.some aj a0;have alb:=Ext.some aj a1;have acK:=Ext.some aj x0;have acL:=Ext.some aj x1;first | exact rfl | (go_simp;done) | (go_simp;exact rfl) | (go_at_call 87;exact aJ aj (HC1.out _ aj)) | (go_at_call 178;exact aJ aj (HC2.out _ aj))
              clear hK K)))
        refine wpQuiet_nil ?_;intro w1 hx1;have X8:=ah hx1;clear hx1 c0 d0 n0 a0 a1 x0 x1;have ag3:I64 (k:Int):=by unfold I64;omega
        have an2:=ah ag3;clear ag3;go_wp2_with (at_builtin;refine bM (O:=jD) (T:=2) (l:=fl) (F:=F) (G:=[]) (y:=(k:Int)) rfl _ _ 74 rfl (.int .i64 0) 1 8 underlying74 (by kernel_rfl) rfl rfl rfl (HO.out.ext (X8.out.alloc _)) _ 0 1 rfl ⟨⟨rfl,an2.out⟩,rfl⟩ (aF.new _ _ _).range (by simpa using HO.out.nodup) (by have:=HLN.out;omega) (by decide) ?_;intro v' w9 F' how hkp hF';have HOW:=ah how;have lJ:=ah hkp;have uT:=ah hF';clear how hkp hF');have XA:=X8.out.alloc (.cells #[.int .i64 (k:Int)] 2);have wu:((fl.length:Int)+1≤need):=by omega
        refine ⟨⟨k+1,F',by omega,by go_num,by rw [HT.out];exact HOW.out,fun b hb=>match uT.out b hb with | .inl h=>HF.out b h | .inr (.inl h)=>absurd h (by simp) | .inr (.inr h)=>Nat.le_trans (XX.out.trans XA).size h,fun b hb=>match uT.out b hb with | .inl h=>FD.out b h | .inr (.inl h)=>absurd h (by simp) | .inr (.inr h)=>Nat.le_trans (HX.out.trans XA).size h,by rw [HT.out,List.length_append];simpa using wu,lJ.out.ext (HX.out.trans XA) FD.out⟩,?_⟩;simp [intOf];omega
  · have HD:=ah (adF (y:=y) (ps:=ps) (a:=a) (x:=x) alP.1 hk1 (by rw [Oq.out];exact HLN.out) (by rw [Oq.out];omega));rw [Oq.out] at HD;by_cases hfn:(fl.length:Int) < need
    · have hk2:k=y.config.nodes.length:=by omega
      have hk3:¬ (k:Int) < (y.config.nodes.length:Int):=by omega
      go_wp2_with fail;go_ret;exact ⟨_,_,rfl,by rw [HD.out,if_pos hfn];exact .inr ⟨_,0,#[],[],rfl,aF.new _ _ _,Nat.le_refl _,Nat.zero_le _,rfl,rfl,rfl,by simp,fun k hk=>absurd hk (Nat.not_lt_zero _)⟩,fun b hb=>by rw [List.mem_singleton.1 hb];exact XX.out.size,XX.out.alloc _⟩
    · have HD2:Hid (JC y ps a need x=fl):=ah (by rw [HD.out,if_neg hfn]);by_cases hkn:k < y.config.nodes.length
      · go_wp2_with fail;go_ret;exact ⟨_,F,rfl,by rw [HD2.out];exact HO.out,HF.out,XX.out⟩
      · go_wp2_with fail;go_ret;exact ⟨_,F,rfl,by rw [HD2.out];exact HO.out,HF.out,XX.out⟩
theorem abJ {y:aK} {ps:List Place} {a:Label} {need:Int} {x:Span} (hn:1≤need) (h:need≤((rV y ps a x).length:Int)):JC y ps a need x=(rV y ps a x).take need.toNat∧0 < (JC y ps a need x).length:=by
 have e:JC y ps a need x=(rV y ps a x).take need.toNat:=by rw [JC,if_pos h]
 exact ⟨e,by rw [e,List.length_take];omega⟩
theorem abI {y:aK} {ps:List Place} {a:Label} {need:Int} {x:Span} (h:¬ need≤((rV y ps a x).length:Int)):JC y ps a need x = []:=by rw [JC,if_neg h]
theorem aj2 {y:aK} {ps:List Place} {t:Task} {N k:Nat} {f:Int} (he:bP y ps t.label t.need t.long N y.now=bP y ps t.label t.need t.long (k+1) f) (h:t.need≤((rV y ps t.label ⟨f,f+1+t.long⟩).length:Int)):toP y ps t N = [jI t f ((rV y ps t.label ⟨f,f+1+t.long⟩).take t.need.toNat)]:=by
 rw [toP,he,Ny h]
theorem aeG {y:aK} {ps:List Place} {t:Task} {N:Nat} {f:Int} (he:bP y ps t.label t.need t.long N y.now=bP y ps t.label t.need t.long 0 f):toP y ps t N = []:=by
 rw [toP,he];rfl
structure Rh (y:aK) (t:Task):Prop where
 lab:aA t.label=true
 id:I64 t.id
 need:1≤t.need∧t.need≤6
 long:1≤t.long∧t.long≤20
theorem abO {y:aK} {t:Task} {f:Int} {ns:List Int} (h:Rh y t) (h1:0≤f) (h2:f≤1000050):iQ (jI t f ns):=by
 have hl:=h.lab;simp only [aA,Bool.and_eq_true] at hl;have h3:=dR hl.1;have h4:=dR hl.2;have h5:=h.id;have h6:=h.long;unfold I64 at h5;simp only [iQ,jI,I64];omega
theorem Dq {S S' S2:Nat→Prop} (y:aK) (ps:List Place) (t:Task) (last:Int) (cs ct0:List Value) (vp:Value) (w:World) (hy:eF.rel S w cs y) (hp:Rd dG S' w vp ps) (ht:ETask.rel S2 w ct0 t) (hk:og y) (hf:Rh y t) (hlast:-1≤last∧last≤1000040) :
 Calls prog 33 #[.agg cs.toArray,vp,.agg ct0.toArray,.int .i64 last] w (Rj (toP y ps t (last+1 - y.now).toNat) w):=by
 have HY:=ah hy;obtain ⟨v1,v2,v3,v4,v5,v6,rfl,RY,h1,h2,h3,h4,h5,h6⟩:=hy;obtain ⟨A1,c1,rfl,-⟩:=h1.form;obtain ⟨A2,c2,rfl,-⟩:=h2.form;obtain ⟨A3,c3,rfl,-⟩:=h3.form;obtain ⟨A4,c4,rfl,-⟩:=h4.form;obtain ⟨A5,c5,rfl,-⟩:=h5.form;obtain ⟨A6,c6,rfl,-⟩:=h6.form;obtain ⟨u,rfl,hft,hrd⟩:=ht;obtain ⟨At,ct,rfl,tl,tm⟩:=hrd.form;have HP:=ah hp;obtain ⟨Ap,cp,rfl,-⟩:=hp.form;have HNF:=ah hf;have zW:=ah hf.need;have hln:=hf.long;have Ib:=hk.rows.now;have Jt:Hid (∀ V x,Ext w V→Calls prog 90 #[.agg (Ry y A1 c1 A2 c2 A3 c3 A4 c4 A5 c5 A6 c6),.slice Ap ps.length cp,.agg (Rl t.label),t.need,.agg (Rs x)] V (kX jD 2 (JC y ps t.label t.need x) V)):=ah fun V x hV=>Yo (S:=S) (S':=S') y ps t.label t.need x _ _ V (eF.keep (hV.same _) HY.out) (hp.ext hV) hk hf.need;clear RY h1 h2 h3 h4 h5 h6 hft hrd hk hp hf tl tm HY;obtain ⟨N,hN⟩:∃ N,(last+1 - y.now).toNat=N:=⟨_,rfl⟩
 have HN:=ah hN;rw [hN];clear hN;simp only [bV,aB];go_enter func33,ntmps33;go_upto_region 1 with (fail)
 obtain ⟨W,B,hW,hB,hx0,a0,b0⟩:=eY w (Ry y A1 c1 A2 c2 A3 c3 A4 c4 A5 c5 A6 c6) (Rt t (.slice At t.nodes.length ct)) 45 76;rw [← hW,← hB];have X:=ah hx0;have Q1:=ah a0;have Q2:=ah b0;clear hW hB hx0 a0 b0;have q1:=Q1.out.cell;go_wp2_with fail;clear q1;go_loopw [9] (fun i w'=>∃ k:Nat,k≤N∧i=.int .i64 (y.now+(k:Int))∧bP y ps t.label t.need t.long N y.now=bP y ps t.label t.need t.long (N - k) (y.now+(k:Int))∧Ext W w') (fun i _=>(last+1 - intOf i).toNat);case atStart=>exact ⟨0,Nat.zero_le _,by simp,by simp,Ext.refl _⟩
 case round =>
  obtain ⟨k,hk1,rfl,heq,hx⟩:=hrel;have HE:=ah heq;have HX:=ah hx;have XX:=ah (X.out.trans hx);have hNN:=HN.out;clear heq hx;have q1:=(Q1.out.ext HX.out).cell;have q2:=(Q2.out.ext HX.out).cell;by_cases hlt:k < N
  · have hle:y.now+(k:Int)≤last:=by omega
    have hk2:(k:Int)≤1000050:=by omega
    have HE2:Hid (bP y ps t.label t.need t.long N y.now=bP y ps t.label t.need t.long ((N - (k+1))+1) (y.now+(k:Int))):=ah (by rw [HE.out,show N - k=(N - (k+1))+1 by omega]);clear hNN;have hw1:IntKind.i64.wrap (y.now+(k:Int)+1)=y.now+(k:Int)+1:=IntWalk.i64_in _ (by omega);have hw2:IntKind.i64.wrap (y.now+(k:Int)+1+t.long)=y.now+(k:Int)+1+t.long:=IntWalk.i64_in _ (by omega);go_upto_region 5 with (fail)
    obtain ⟨W5,B5,aX,aT,aj,fQ⟩:=iK wr #[.int .i64 (y.now+(k:Int)),.int .i64 (y.now+(k:Int)+1+t.long)] 142;rw [← aX,← aT];have vO:=ah aj;have DX:=ah fQ;have EB5:=ah aT;clear aX aT aj fQ;clear q1 q2;have q1:=(Q1.out.ext (HX.out.trans vO.out)).cell;have q2:=(Q2.out.ext (HX.out.trans vO.out)).cell;have q5:=DX.out.cell;obtain ⟨fs,hfs⟩:∃ fs,JC y ps t.label t.need ⟨y.now+(k:Int),y.now+(k:Int)+1+t.long⟩=fs:=⟨_,rfl⟩
    have HC:Hid (∀ V,Ext w V→Calls prog 90 #[.agg (Ry y A1 c1 A2 c2 A3 c3 A4 c4 A5 c5 A6 c6),.slice Ap ps.length cp,.agg (Rl t.label),t.need,.agg #[.int .i64 (y.now+(k:Int)),.int .i64 (y.now+(k:Int)+1+t.long)]] V (kX jD 2 fs V)):=ah fun V hV=>by rw [← hfs];exact Jt.out V ⟨y.now+(k:Int),y.now+(k:Int)+1+t.long⟩ hV
    have HFS:=ah hfs;clear hfs;go_upto_region 6 with (go_at_call 90;(with_reducible refine (HC.out _ (XX.out.trans vO.out)).mono ?_);rintro e w6 ⟨u6,F6,rfl,o6,g6,hx6⟩;obtain ⟨A6',c6',rfl,-⟩:=aW.form o6;have O6:=ah o6;have X6:=ah (vO.out.trans hx6);have Q16:=ah ((Q1.out.ext (HX.out.trans vO.out)).ext hx6);have Q26:=ah ((Q2.out.ext (HX.out.trans vO.out)).ext hx6);have Q56:=ah (DX.out.ext hx6);clear o6 g6 hx6 q1 q2 q5)
    by_cases hfit:t.need≤((rV y ps t.label ⟨y.now+(k:Int),y.now+(k:Int)+1+t.long⟩).length:Int)
    · obtain ⟨f1,f2⟩:=abJ zW.out.1 hfit;have HTO:=ah (aj2 HE2.out hfit);have FD:Hid ((rV y ps t.label ⟨y.now+(k:Int),y.now+(k:Int)+1+t.long⟩).take t.need.toNat=fs):=ah (by rw [← HFS.out,f1]);have hpos:0 < fs.length:=by rw [← HFS.out];exact f2
      have Kq:=ah (abO (y:=y) (t:=t) (f:=y.now+(k:Int)) (ns:=fs) HNF.out (by omega) (by omega));clear f1 f2 hfit;have q2:=Q26.out.cell;have q5:=Q56.out.cell;go_wp2_with fail;go_ret;exact ⟨_,_,rfl,by rw [HTO.out,FD.out];exact dY.one (x:=jI t (y.now+(k:Int)) fs) (by have h:=aF.new w6 78 (bY (jI t (y.now+(k:Int)) fs) (.slice A6' fs.length c6')).toArray;simpa [jI,bY] using h) Kq.out (O6.out.ext ((Ext.refl _).alloc _)) (Ext.size (XX.out.trans X6.out)),(XX.out.trans X6.out).alloc _⟩
    · have HMS:=ah (Jm (k:=N - (k+1)) hfit);have hnil:fs = []:=by rw [← HFS.out];exact abI hfit
      have Xw:Hid (fs.length=0):=ah (by rw [hnil];rfl);clear hfit hnil;have hl0:((fs.length:Nat):Int)=0:=by have:=Xw.out;omega
      go_wp2_with fail;go_roundw;case rel=>exact ⟨k+1,by omega,by go_num,by rw [HE2.out,HMS.out];congr 1;push_cast;omega,HX.out.trans X6.out⟩
      case measure=>simp [intOf];omega
  · obtain rfl:k=N:=by omega
    have HNO:Hid (toP y ps t k = []):=ah (aeG (f:=y.now+(k:Int)) (by rw [HE.out,Nat.sub_self]));have hgt:last < y.now+(k:Int):=by omega
    go_wp2_with fail;go_ret;exact ⟨_,_,rfl,by rw [HNO.out];exact dY.nil (aF.new _ _ _) XX.out.size,XX.out.alloc _⟩
end Go.Proofs.YtbdicafambkhdaaGreat
