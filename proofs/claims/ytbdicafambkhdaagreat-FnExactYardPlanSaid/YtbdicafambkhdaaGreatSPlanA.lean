/- What is booked is taken, and can be given up again; a node that is away is taken wholly: the plain law of FnNodes. -/
import Derived.Test.YtbdicafambkhdaaGreatNodeRows
import Derived.Deep.RegionLaw
import Derived.Test.YtbdicafambkhdaaGreatInsSpan
import Derived.Test.YtbdicafambkhdaaGreatClones
import Derived.Test.YtbdicafambkhdaaGreatRows
import Derived.Laws.IdiomStrings
import Derived.Laws.BytesArg
import Derived.Test.YtbdicafambkhdaaGreatLabels
import Derived.Test.YtbdicafambkhdaaGreatGSmall
import Derived.Test.YtbdicafambkhdaaGreatGYardT
import Derived.Test.YtbdicafambkhdaaGreatYardS
import Derived.Test.YtbdicafambkhdaaGreatPlanT
import Derived.Test.YtbdicafambkhdaaGreatNavK
import Derived.Deep.RegionHeld3
set_option maxHeartbeats 16000000
set_option maxRecDepth 100000
namespace Go.Proofs.YtbdicafambkhdaaGreat
open Go.Proofs.Tryz
open Go.RowKit
def Behind (a b:Span):Prop:=a.jA≤b.from_
theorem aao {l:List Span}:dH l=true↔l.length≤20∧(∀ x∈l,jw x=true)∧l.Pairwise Behind:=by
 constructor
 · intro h;have hall:∀ t,t < l.length→oC l t=true:=fun t ht=>by
    simp only [dH,Bool.and_eq_true,List.all_eq_true,List.mem_range] at h;exact h.2 t ht
   refine ⟨?_,?_,?_⟩
   · simp only [dH,Bool.and_eq_true,decide_eq_true_eq] at h;exact h.1
   · intro x hx;obtain ⟨i,hi,rfl⟩:=List.getElem_of_mem hx;have:=hall i hi;simp only [oC,Bool.and_eq_true] at this;rw [← aO hi];exact this.1
   · rw [List.pairwise_iff_getElem];intro i j hi hj hij;unfold Behind;rw [← aO hi,← aO hj];have h1:(nth l i).jA≤(nth l (i+1)).from_:=by
      have:=hall (i+1) (by omega);rw [nI] at this;simp only [Bool.and_eq_true,decide_eq_true_eq] at this;exact this.2
     rcases Nat.lt_or_ge (i+1) j with h2 | h2
     · have:=aex h h2 hj;omega
     · obtain rfl:i+1=j:=by omega
       exact h1
 · rintro ⟨h1,h2,h3⟩;rw [vZ,decide_eq_true_eq]
   · exact h1
   · intro i hi;cases i with
     | zero=>rw [zK];exact h2 _ (bG hi)
     | succ m =>
       rw [nI,Bool.and_eq_true,decide_eq_true_eq];refine ⟨h2 _ (bG hi),?_⟩;rw [List.pairwise_iff_getElem] at h3;have:=h3 m (m+1) (by omega) hi (by omega)
       rwa [← aO,← aO] at this
structure Booked (l:List Node) (n:Int) (x:Span) (ys:List Node) (d:Nat):Prop where
 num:n=(d:Int)
 lt:d < l.length
 len:ys.length=l.length
 rows:(rowsOf ys 2).length=l.length
 taken:(dH (nth (rowsOf ys 2) d) && jw x && jq (nth (rowsOf ys 2) d) x)=false
 cut:afh ys n x.from_=⟨l,0⟩
 past:(Gi ys x.jA).length=l.length
 free:(dH (nth (Gi ys x.jA) d).books && jw x && jq (nth (Gi ys x.jA) d).books x)=true
structure Turned (l:List Node) (n st:Int) (ys:List Node) (d:Nat):Prop where
 num:n=(d:Int)
 lt:d < l.length
 len:ys.length=l.length
 ant:(rowsOf ys 2).length=l.length
 amr:(rowsOf ys 3).length=l.length
 low:1≤st
 high:st≤3
 at1:nth (rowsOf ys 2) d=if 2≤st then [⟨0,1000000⟩] else (nth ys d).books
 hard:nth (rowsOf ys 3) d=if 3≤st then [⟨0,1000000⟩] else (nth ys d).books
end Go.Proofs.YtbdicafambkhdaaGreat
/- The walk of the reference's l14In. -/
namespace Go.Proofs.YtbdicafambkhdaaGreat
open Go.Proofs.Tryz
open Go.RowKit
attribute [local irreducible] wpQuiet
theorem afd {l:List Int} {n:Int} {k:Nat} (h:k < l.length) (e:nth l k=n):l.any (isNum n)=true:=List.any_eq_true.2 ⟨nth l k,by rw [aO h];exact List.getElem_mem h,by simp [isNum,e]⟩
theorem agN {l:List Int} {n:Int} (h:∀ j,j < l.length→isNum n (nth l j)=false):l.any (isNum n)=false:=List.any_eq_false.2 fun x hx=>by
 obtain ⟨j,hj,rfl⟩:=List.getElem_of_mem hx;rw [← aO hj];simp [h j hj]
theorem aap {S:Nat→Prop} (l:List Int) (n:Int) (v:Value) (w:World) (h:Rd fC S w v l) :
 Calls prog 251 #[v,.int .i64 n] w fun e w'=>e=.returned (.bool (l.any (isNum n)))∧Ext w w':=by
 obtain ⟨A,c,rfl,h1,h2,hk⟩:=h.open_;unfold maxLen at h2;have HK:=ah hk;clear hk h;go_enter func251,ntmps251;go_wp2_with fail;go_loopw [5] (fun i w'=>∃ k:Nat,k≤l.length∧i=.int .i64 k∧(∀ j,j < k→isNum n (nth l j)=false)∧Ext w w') (fun i _=>l.length - (intOf i).toNat);case atStart=>exact ⟨0,by omega,rfl,fun j hj=>by omega,Ext.refl _⟩
 case round =>
  obtain ⟨k,hk1,rfl,hall,hx⟩:=hrel;have HA:=ah hall;have HX:=ah hx;clear hall;by_cases hlt:k < l.length
  · obtain ⟨b,q,cs,rfl,_,⟨rfl,hfit⟩,hc⟩:=HK.out k hlt;have c0:=Ext.some hx (hc 0 _ rfl);simp only [fC,Nat.mul_one,Nat.add_zero] at c0;clear hc hfit hx;by_cases he:nth l k=n
    · have HE:=ah (afd hlt he);go_wp2_with fail;go_ret;exact ⟨au HE.out.symm,HX.out⟩
    · have HE:=ah (all_succ (p:=fun j=>isNum n (nth l j)=false) HA.out (by simp [isNum,he]));go_wp2_with fail;go_roundw;case rel=>exact ⟨k+1,by omega,by go_num,HE.out,HX.out⟩
      case measure=>simp [intOf];omega
  · have HE:=ah (agN (l:=l) (n:=n) fun j hj=>HA.out j (by omega));go_wp2_with fail;go_ret;exact ⟨au HE.out.symm,HX.out⟩
end Go.Proofs.YtbdicafambkhdaaGreat
/- The walks of the reference's planner,its small words: what is free,how long one that runs stays,who keeps its place,which nodes fit,the least begin. Printed by wip/splan.py. -/
namespace Go.Proofs.YtbdicafambkhdaaGreat
open Go.Proofs.Tryz
open Go.RowKit
attribute [local irreducible] wpQuiet
theorem ag2 {n:Int} {x:Span} {p:Place}:ED n x p=(decide (p.from_ < x.jA) && decide (x.from_ < p.jA) && p.nodes.any (isNum n)):=rfl
theorem Ia {n:Int} {x:Span} {ps:List Place} {k:Nat} (hk:k < ps.length) (h:(ps.take k).any (ED n x)=false) (hp:ED n x (nth ps k)=false):(ps.take (k+1)).any (ED n x)=false:=by
 rw [aV hk,List.any_append,h];simp [hp]
theorem abP {base:List Span} {n:Int} {x:Span} {ps:List Place} {k:Nat} (hk:k < ps.length) (hp:ED n x (nth ps k)=true):jC base ps n x=false:=by
 rw [EC,List.any_eq_true.2 ⟨_,bG hk,hp⟩];rfl
theorem zq {S S':Nat→Prop} (base:List Span) (ps:List Place) (n:Int) (x:Span) (vb vp:Value) (w:World) (hb:Rd dM S w vb base) (hp:Rd dG S' w vp ps) :
 Calls prog 178 #[vb,vp,.int .i64 n,.agg (Rs x)] w fun e w'=>e=.returned (.bool (jC base ps n x))∧Ext w w':=by
 have HB:=ah hb;obtain ⟨Ab,cb,rfl,-⟩:=hb.form;obtain ⟨Ap,cp,rfl,p1,p2,hkp⟩:=hp.open_;unfold maxLen at p2;have lJ:=ah hkp;clear hb hp hkp;go_enter func178,ntmps178;go_upto_region 1 with (fail)
 obtain ⟨W1,B1,aX,aT,aj,fQ⟩:=iK w (Rs x) 142;rw [← aX,← aT];have FZ:=ah aj;have QB1:=ah fQ;have EB1:=ah aT;clear aX aT aj fQ;go_wp2_with fail;go_loopw [9] (fun i w'=>∃ k:Nat,k≤ps.length∧i=.int .i64 k∧(ps.take k).any (ED n x)=false∧Ext W1 w') (fun i _=>ps.length - (intOf i).toNat);case atStart=>exact ⟨0,Nat.zero_le _,rfl,by simp,Ext.refl _⟩
 case round =>
  obtain ⟨k,hk1,rfl,hno,hx⟩:=hrel;have HNO:=ah hno;have jf:=ah hx;have HX:=ah (FZ.out.trans hx);have QX:=ah (QB1.out.ext hx);clear hno hx;have x0:wr.cell? ⟨B1,0,none⟩=some (.int .i64 x.from_):=QX.out.cell 0;have x1:wr.cell? ⟨B1,1,none⟩=some (.int .i64 x.jA):=QX.out.cell 1;by_cases hlt:k < ps.length
  · obtain ⟨b,q,cs,rfl,_,⟨v1,rfl,hfit,hrd⟩,hc⟩:=lJ.out k hlt;have hxw:=HX.out;obtain ⟨A1,d1,rfl,-⟩:=hrd.form;have c0:=Ext.some hxw (hc 0 _ rfl);have c1:=Ext.some hxw (hc 1 _ rfl);have c2:=Ext.some hxw (hc 2 _ rfl);have c3:=Ext.some hxw (hc 3 _ rfl);have c4:=Ext.some hxw (hc 4 _ rfl);have c5:=Ext.some hxw (hc 5 _ rfl);have c6:=Ext.some hxw (hc 6 _ rfl);simp only [dG,Nat.add_zero] at c0 c1 c2 c3 c4 c5 c6;have uQ:=ah (hrd.ext hxw);clear hc hfit hrd hxw c0 c1 c2 c5
    skip
    have HP:=ah (ag2 (n:=n) (x:=x) (p:=nth ps k));obtain ⟨r,hr⟩:∃ r,(nth ps k).nodes.any (isNum n)=r:=⟨_,rfl⟩
    have HCI:Hid (∀ V,Ext wr V→Calls prog 251 #[.slice A1 (nth ps k).nodes.length d1,.int .i64 n] V fun e w'=>e=.returned (.bool r)∧Ext V w'):=ah fun V hV=>by rw [← hr];exact aap (S:=S') _ _ _ V (uQ.out.ext hV)
    rw [hr] at HP;clear hr;go_upto_region 4 with (fail)
    by_cases h1:(nth ps k).from_ < x.jA
    · by_cases h2:x.from_ < (nth ps k).jA
      · cases r with
        | true =>
          have HV:Hid (ED n x (nth ps k)=true):=ah (by rw [HP.out];simp [h1,h2]);refine ak (by kernel_rfl) (by kernel_rfl) ?_;repeat (
           (refine wpQuiet_step (fun K hK=>?_)
            go_simp;first
             | (refine hK _ ?_;clear hK K)
             | (apply Exists.intro
                refine ⟨fun bH aj=>?_,hK _ ?_⟩
                · have Jy:=Ext.some aj c3;have agR:=Ext.some aj c4;have agS:=Ext.some aj c6;have acK:=Ext.some aj x0;have acL:=Ext.some aj x1;first | exact rfl | (go_simp;done) | (go_simp;exact rfl) | (go_at_call 251;exact aJ aj (HCI.out _ aj))
                clear hK K)))
          refine wpQuiet_nil ?_;intro w1 hx1;go_wp2_with fail;go_ret;exact ⟨au (abP hlt HV.out).symm,HX.out.trans hx1⟩
        | false =>
          have HV:Hid (ED n x (nth ps k)=false):=ah (by rw [HP.out];simp [h1,h2]);refine ak (by kernel_rfl) (by kernel_rfl) ?_;repeat (
           (refine wpQuiet_step (fun K hK=>?_)
            go_simp;first
             | (refine hK _ ?_;clear hK K)
             | (apply Exists.intro
                refine ⟨fun bH aj=>?_,hK _ ?_⟩
                · have Jy:=Ext.some aj c3;have agR:=Ext.some aj c4;have agS:=Ext.some aj c6;have acK:=Ext.some aj x0;have acL:=Ext.some aj x1;first | exact rfl | (go_simp;done) | (go_simp;exact rfl) | (go_at_call 251;exact aJ aj (HCI.out _ aj))
                clear hK K)))
          refine wpQuiet_nil ?_;intro w1 hx1;have HM:=ah (Ia hlt HNO.out HV.out);go_wp2_with fail;go_roundw;case rel=>exact ⟨k+1,by omega,by go_num,HM.out,jf.out.trans hx1⟩
          case measure=>simp [intOf];omega
      · skip
        have HV:Hid (ED n x (nth ps k)=false):=ah (by rw [HP.out];simp [h2]);refine ak (by kernel_rfl) (by kernel_rfl) ?_;repeat (
         (refine wpQuiet_step (fun K hK=>?_)
          go_simp;first
           | (refine hK _ ?_;clear hK K)
           | (apply Exists.intro
              refine ⟨fun bH aj=>?_,hK _ ?_⟩
              · have Jy:=Ext.some aj c3;have agR:=Ext.some aj c4;have agS:=Ext.some aj c6;have acK:=Ext.some aj x0;have acL:=Ext.some aj x1;first | exact rfl | (go_simp;done) | (go_simp;exact rfl)
              clear hK K)))
        refine wpQuiet_nil ?_;intro w1 hx1;have HM:=ah (Ia hlt HNO.out HV.out);go_wp2_with fail;go_roundw;case rel=>exact ⟨k+1,by omega,by go_num,HM.out,jf.out.trans hx1⟩
        case measure=>simp [intOf];omega
    · skip
      have HV:Hid (ED n x (nth ps k)=false):=ah (by rw [HP.out];simp [h1]);refine ak (by kernel_rfl) (by kernel_rfl) ?_;repeat (
       (refine wpQuiet_step (fun K hK=>?_)
        go_simp;first
         | (refine hK _ ?_;clear hK K)
         | (apply Exists.intro
            refine ⟨fun bH aj=>?_,hK _ ?_⟩
            · have Jy:=Ext.some aj c3;have agR:=Ext.some aj c4;have agS:=Ext.some aj c6;have acK:=Ext.some aj x0;have acL:=Ext.some aj x1;first | exact rfl | (go_simp;done) | (go_simp;exact rfl)
            clear hK K)))
      refine wpQuiet_nil ?_;intro w1 hx1;have HM:=ah (Ia hlt HNO.out HV.out);go_wp2_with fail;go_roundw;case rel=>exact ⟨k+1,by omega,by go_num,HM.out,jf.out.trans hx1⟩
      case measure=>simp [intOf];omega
  · obtain rfl:k=ps.length:=by omega
    go_wp2_with (go_at_call 252;(with_reducible refine (Vw (S:=S) base x _ _ (HB.out.ext HX.out)).mono ?_);rintro e w8 ⟨rfl,eu⟩;have X8:=ah (HX.out.trans eu);clear eu);go_ret;exact ⟨au (by have h:=HNO.out;rw [List.take_length] at h;rw [EC,h];rfl),X8.out⟩
def dY (n0:Nat) (w:World) (v:Value) (ps:List Place) (F:List Nat):Prop :=
 ∃ m:List PV,m.map PV.x=ps∧aW DZ 78 w v m F∧(∀ e∈m,aW jD 2 w e.v e.x.nodes e.F)∧∀ b∈F,n0≤b
def Rj (ps:List Place) (w:World) (e:Ending) (w':World):Prop:=∃ v F,e=.returned v∧dY w.heap.size w' v ps F∧Ext w w'
theorem dY.rd {n0:Nat} {w:World} {v:Value} {ps:List Place} {F:List Nat} (h:dY n0 w v ps F):Rd dG (fun _=>True) w v ps:=by
 obtain ⟨m,hm,ho,hn,_⟩:=h;exact hm ▸ QF (ho.rd.sub fun _ _=>trivial) fun e he=>(hn e he).rd.sub fun _ _=>trivial
theorem dY.ext {n0:Nat} {w w':World} {v:Value} {ps:List Place} {F:List Nat} (h:dY n0 w v ps F) (hx:Ext w w'):dY n0 w' v ps F:=by
 obtain ⟨m,hm,ho,hn,hf⟩:=h;exact ⟨m,hm,ho.ext hx,fun e he=>(hn e he).ext hx,hf⟩
theorem dY.form {n0:Nat} {w:World} {v:Value} {ps:List Place} {F:List Nat} (h:dY n0 w v ps F):∃ A c,v=.slice A ps.length c:=by
 obtain ⟨m,hm,ho,hn,hf⟩:=h;obtain ⟨A,c,rfl,_⟩:=ho.form;exact ⟨A,c,by rw [← hm,List.length_map]⟩
theorem dY.low {n0 n1:Nat} {w:World} {v:Value} {ps:List Place} {F:List Nat} (h:dY n0 w v ps F) (hn:n1≤n0):dY n1 w v ps F:=by
 obtain ⟨m,hm,ho,hx,hf⟩:=h;exact ⟨m,hm,ho,hx,fun b hb=>Nat.le_trans hn (hf b hb)⟩
theorem dY.nil {n0:Nat} {w:World} {B:Nat} (hb:aF w B 78 #[]) (h:n0≤B):dY n0 w (.slice (some ⟨B,0,none⟩) 0 0) [] [B] :=
 ⟨[],rfl,.inr ⟨B,0,#[],[],rfl,hb,Nat.le_refl _,Nat.zero_le _,rfl,rfl,rfl,by simp,fun k hk=>absurd hk (Nat.not_lt_zero _)⟩,by simp,fun b hb=>by rw [List.mem_singleton.1 hb];exact h⟩
theorem dY.one {n0:Nat} {w:World} {B:Nat} {x:Place} {A:Option Addr} {n c:Nat} {G:List Nat} (hb:aF w B 78 (bY x (.slice A n c)).toArray) (hf:iQ x) (hn:aW jD 2 w (.slice A n c) x.nodes G) (h:n0≤B):dY n0 w (.slice (some ⟨B,0,none⟩) 1 1) [x] [B] :=
 ⟨[⟨x,A,n,c,G⟩],rfl,.inr ⟨B,1,_,[[]],rfl,hb,Nat.le_refl _,by decide,rfl,rfl,rfl,by simp,fun k hk=>by
   obtain rfl:k=0:=by simpa using hk
   exact ⟨_,⟨⟨rfl,hf⟩,rfl⟩,by have h:=hb.range;rw [Nat.zero_mul];exact h⟩⟩,fun e he=>by rw [List.mem_singleton.1 he];exact hn,fun b hb=>by rw [List.mem_singleton.1 hb];exact h⟩
theorem ab6 {y:aK} {ps:List Place} (hk:og y) (hok:∀ p∈ps,P7 p) (n:Int):∀ o∈kT (kU (dF y) n) ps n,o.from_≤o.jA:=by
 intro o ho;rcases List.mem_append.1 ho with ho | ho
 · have hr:dF y=y.nodes.map (dA 3):=by rw [dF,rowsOf,if_pos hk.nodes]
   rw [kU,hr] at ho;by_cases hlt:n.toNat < y.nodes.length
   · rw [sZ hlt,dA] at ho;split at ho
     · rw [List.mem_singleton.1 ho];decide
     · have:=(aao.1 (nS hk.nodes hlt).2).2.1 o ho;simp only [jw,Bool.and_eq_true,decide_eq_true_eq] at this;omega
   · simp [nth,List.getD_eq_getElem?_getD,List.getElem?_eq_none (show (y.nodes.map (dA 3)).length≤n.toNat by rw [List.length_map];omega)] at ho;simp [default] at ho
 · obtain ⟨p,hp,rfl⟩:=List.mem_map.1 ho;exact Int.le_of_lt (hok p (List.mem_filter.1 hp).1).ord
def uM (y:aK) (ps:List Place) (t:Task):List Place:=if jg (dF y) ps t.nodes ⟨y.now,y.now+1⟩=true then [lI y ps t] else []
theorem Eb {rows:List (List Span)} {ps:List Place} {l:List Int} {x:Span} {k:Nat} (hk:k < l.length) (h:jg rows ps (l.take k) x=true) (hp:jC (kU rows (nth l k)) ps (nth l k) x=true):jg rows ps (l.take (k+1)) x=true:=by
 rw [jg,aV hk,List.all_append];rw [jg] at h;rw [h];simp [hp]
theorem IE {rows:List (List Span)} {ps:List Place} {l:List Int} {x:Span} {k:Nat} (hk:k < l.length) (hp:jC (kU rows (nth l k)) ps (nth l k) x=false):jg rows ps l x=false:=List.all_eq_false.2 ⟨_,bG hk,by simp [hp]⟩
theorem acv {y:aK} {ps:List Place} {t:Task} {k:Nat} (hk:k < t.nodes.length):iZ y ps (t.nodes.take (k+1)) (endOf t)=iG y.now (kT (kU (dF y) (nth t.nodes k)) ps (nth t.nodes k)) (iZ y ps (t.nodes.take k) (endOf t)):=by
 rw [iZ,aV hk,List.foldl_append];rfl
theorem VA {S S' S2:Nat→Prop} (y:aK) (ps:List Place) (t:Task) (cs ct0:List Value) (vp:Value) (w:World) (hy:eF.rel S w cs y) (hp:Rd dG S' w vp ps) (ht:ETask.rel S2 w ct0 t) (hk:og y) (hf:iI y t) (hrun:dP t=true) (hok:∀ p∈ps,P7 p) :
 Calls prog 181 #[.agg cs.toArray,vp,.agg ct0.toArray] w (Rj (uM y ps t) w):=by
 obtain ⟨v1,v2,v3,v4,v5,v6,rfl,RY,h1,h2,h3,h4,h5,h6⟩:=hy;obtain ⟨A1,c1,rfl,-⟩:=h1.form;obtain ⟨A2,c2,rfl,-⟩:=h2.form;obtain ⟨A3,c3,rfl,-⟩:=h3.form;obtain ⟨A4,c4,rfl,-⟩:=h4.form;obtain ⟨A5,c5,rfl,-⟩:=h5.form;obtain ⟨A6,c6,rfl,-⟩:=h6.form;obtain ⟨u,rfl,hft,hrd⟩:=ht;obtain ⟨At,ct,rfl,tl,tm,hkt⟩:=hrd.open_;unfold maxLen at tm;have HKT:=ah hkt;have Uu:=ah hrd;have yC:=ah hft;have Jt:=ah hf;have Jv:=ah hk;have HP:=ah hp;obtain ⟨Ap,cp,rfl,-⟩:=hp.form;have Ur:Hid (∀ V,Ext w V→Calls prog 177 #[.slice A4 y.nodes.length c4,.int .i64 3] V (kX (pX ji 142) 149 (dF y) V)):=ah fun V hV=>by
  have e:dF y=y.nodes.map (dA 3):=by rw [dF,rowsOf,if_pos hk.nodes]
  rw [e];exact zl (S:=S) y.nodes 3 _ V (h4.ext hV) hk.nodes
 have FK:Hid (∀ V,Ext w V→Calls prog 61 #[.agg (Rt t (.slice At t.nodes.length ct))] V fun e w'=>e=.returned (.int .i64 (endOf t))∧Ext V w'):=ah fun V hV=>xB (S:=S2) t _ V (eU hft (hrd.ext hV)) hf.start.1 hf.start.2 hf.long.1 hf.long.2;have HOV:=ah (ab6 hk hok);have ac0:=ah hrun;have HE0:Hid (y.now < endOf t∧endOf t≤1000021):=ah ⟨(hf.run (by simpa [dP] using hrun)).2,by have:=hf.start;have:=hf.long;unfold endOf;omega⟩;have HSL:Hid ((dF y).length=y.config.nodes.length∧y.nodes.length=y.config.nodes.length):=ah ⟨hk.rows.h,hk.len⟩;have HFS:Hid (iQ (lI y ps t)):=ah (Dv (SL hf hrun));have Ib:=hk.rows.now;clear RY h1 h2 h3 h4 h5 h6 hft hrd hkt hk hf hp hok hrun;simp only [bV,aB];go_enter func181,ntmps181;go_upto_region 1 with (fail)
 obtain ⟨W,B,hW,hB,hx0,a0,b0⟩:=eY w (Ry y A1 c1 A2 c2 A3 c3 A4 c4 A5 c5 A6 c6) (Rt t (.slice At t.nodes.length ct)) 45 76;rw [← hW,← hB];have EB:=ah hB;have X:=ah hx0;have Q1:=ah a0;have Q2:=ah b0;clear hW hB hx0 a0 b0;have q1:=Q1.out.cell;have q2:=Q2.out.cell;go_upto_region 3 with (first
  | (go_at_call 177;(with_reducible refine (Ur.out _ X.out).mono ?_);rintro e w1 ⟨u1,F1,rfl,o1,g1,hx1⟩;have O1:=ah o1;replace X:=ah (X.out.trans hx1);replace Q1:=ah (Q1.out.ext hx1);replace Q2:=ah (Q2.out.ext hx1);obtain ⟨Ah,ch,rfl,-⟩:=aW.form o1;clear o1 g1 hx1 q1 q2;have q1:=Q1.out.cell;have q2:=Q2.out.cell)
  | (go_at_call 61;(with_reducible refine (FK.out _ X.out).mono ?_);rintro e w2 ⟨rfl,hx2⟩;replace O1:=ah (O1.out.ext hx2);replace X:=ah (X.out.trans hx2);replace Q1:=ah (Q1.out.ext hx2);replace Q2:=ah (Q2.out.ext hx2);clear hx2 q1 q2;have q1:=Q1.out.cell;have q2:=Q2.out.cell))
 clear Ur FK;obtain ⟨Ah2,ch2,hv,l1,m1,hkh⟩:=O1.out.rd.open_;injection hv with e1 e2 e3
 subst e1 e3;clear e2;unfold maxLen at m1;have HKH:=ah hkh;clear hkh q1 q2;go_wp2_with fail;go_loopw [8,9] (fun e i w'=>∃ k:Nat,k≤t.nodes.length∧i=.int .i64 k∧e=.int .i64 (iZ y ps (t.nodes.take k) (endOf t))∧jg (dF y) ps (t.nodes.take k) ⟨y.now,y.now+1⟩=true∧Ext w2 w') (fun _ i _=>t.nodes.length - (intOf i).toNat);case atStart=>exact ⟨0,Nat.zero_le _,rfl,by simp [iZ],by simp [jg],Ext.refl _⟩
 case round =>
  obtain ⟨k,hk1,rfl,rfl,hall,hx⟩:=hrel;have HA:=ah hall;have HX:=ah hx;have XX:=ah (X.out.trans hx);clear hall hx;obtain ⟨e0,he0⟩:∃ e0,iZ y ps (t.nodes.take k) (endOf t)=e0:=⟨_,rfl⟩
  have HE:=ah he0;have HEB:Hid (y.now < e0∧e0≤1000021):=ah (by rw [← he0];have h1:=DL y ps (t.nodes.take k) (endOf t) HE0.out.1;have h2:=DN y ps (t.nodes.take k) (endOf t);have h3:=HE0.out.2;omega);rw [he0];clear he0;have q1:=(Q1.out.ext HX.out).cell;have q2:=(Q2.out.ext HX.out).cell;by_cases hlt:k < t.nodes.length
  · obtain ⟨b,q,cs',rfl,_,⟨rfl,hfit⟩,hc⟩:=HKT.out k hlt;have c0:=Ext.some XX.out (hc 0 _ rfl);simp only [fC,Nat.mul_one,Nat.add_zero] at c0;have HN:=ah (Jt.out.nodes _ (bG hlt));obtain ⟨n,hn⟩:∃ n:Nat,nth t.nodes k=(n:Int):=⟨(nth t.nodes k).toNat,by have:=HN.out.1;omega⟩
    have HNE:=ah hn;have hnl:n < (dF y).length:=by have h1:=HN.out.2;have h2:=HSL.out;rw [hn] at h1;simp at h1;omega
    rw [hn] at c0;obtain ⟨bh,qh,csh,hAh,_,⟨uh,rfl,Ls⟩,hch⟩:=HKH.out n hnl;subst hAh;have d0:=Ext.some HX.out (hch 0 _ rfl);simp only [gU,Nat.mul_one,Nat.add_zero] at d0;have HRU:=ah (Ls.ext HX.out);obtain ⟨Au,cu,rfl,-⟩:=Ls.form;have agt:Hid (∀ V x,Ext wr V→Calls prog 178 #[.slice Au (nth (dF y) n).length cu,.slice Ap ps.length cp,.int .i64 (n:Int),.agg (Rs x)] V fun e w'=>e=.returned (.bool (jq (kT (kU (dF y) (n:Int)) ps (n:Int)) x))∧Ext V w'):=ah fun V x hV=>zq (S:=fun b=>b∈F1) (S':=S') (nth (dF y) n) ps (n:Int) x _ _ V (HRU.out.ext hV) (HP.out.ext (XX.out.trans hV));obtain ⟨oc,hoc⟩:∃ oc,kT (kU (dF y) (n:Int)) ps (n:Int)=oc:=⟨_,rfl⟩
    have XF:=ah hoc;rw [hoc] at agt;have HV:Hid (∀ o∈oc,o.from_≤o.jA):=ah (by rw [← hoc];exact HOV.out n);have hw1:IntKind.i64.wrap (y.now+1)=y.now+1:=IntWalk.i64_in _ (by omega);clear hc hfit hn hch Ls hoc;obtain ⟨r,hr⟩:∃ r,jq oc ⟨y.now,y.now+1⟩=r:=⟨_,rfl⟩
    have HRR:=ah hr;have HC1:Hid (∀ V,Ext wr V→Calls prog 178 #[.slice Au (nth (dF y) n).length cu,.slice Ap ps.length cp,.int .i64 (n:Int),.agg #[y.now,.int .i64 (y.now+1)]] V fun e w'=>e=.returned (.bool r)∧Ext V w'):=ah fun V hV=>by rw [← hr];exact agt.out V ⟨y.now,y.now+1⟩ hV
    clear hr;have y7:wr.cell? ⟨B,7,none⟩=some (.int .i64 y.now):=(Q1.out.ext HX.out).cell 7;go_upto_region 7 with (fail)
    clear q1 q2 c0;refine ak (by kernel_rfl) (by kernel_rfl) ?_;repeat (
     (refine wpQuiet_step (fun K hK=>?_)
      go_simp;first
       | (refine hK _ ?_;clear hK K)
       | (apply Exists.intro
          refine ⟨fun bH aj=>?_,hK _ ?_⟩
          · have jH:=Ext.some aj d0;have aaL:=Ext.some aj y7;first | exact rfl | (go_simp;done) | (go_simp;exact rfl) | (go_at_call 178;exact aJ aj (HC1.out _ aj))
          clear hK K)))
    refine wpQuiet_nil ?_;intro w1 hx1;have X1:=ah hx1;clear hx1;cases r with
    | false =>
      have HNO:Hid (uM y ps t = []):=ah (by rw [uM,if_neg];rw [IE hlt (by rw [HNE.out,jC,XF.out];exact HRR.out)];simp);go_wp2_with fail;go_ret;exact ⟨_,_,rfl,by rw [HNO.out];exact dY.nil (aF.new _ _ _) (XX.out.trans X1.out).size,(XX.out.trans X1.out).alloc _⟩
    | true =>
      have HAK:=ah (Eb hlt HA.out (by rw [HNE.out,jC,XF.out];exact HRR.out));have HEK:Hid (iZ y ps (t.nodes.take (k+1)) (endOf t)=iG y.now oc e0):=ah (by rw [acv hlt,HE.out,HNE.out,XF.out]);clear HC1;go_wp2_with fail;obtain ⟨wq,hwq⟩:∃ q,q=wr:=⟨_,rfl⟩
      subst hwq;go_loopw [8] (fun e w'=>∃ z:Int,e=.int .i64 z∧y.now < z∧z≤e0∧iG y.now oc z=iG y.now oc e0∧Ext w1 w') (fun e _=>(intOf e - y.now).toNat);case atStart=>exact ⟨e0,rfl,HEB.out.1,Int.le_refl _,rfl,Ext.refl _⟩
      case round =>
       obtain ⟨z,rfl,hz1,hz2,hst,hxz⟩:=hrel;have HST:=ah hst;have HXR:=ah hxz;have HXZ:=ah (X1.out.trans hxz);have hzb:z≤1000021:=by have:=HEB.out.2;omega
       clear hst hxz;obtain ⟨r2,hr2⟩:∃ r,jq oc ⟨y.now,z⟩=r:=⟨_,rfl⟩
       have HR2:=ah hr2;have HC2:Hid (∀ V,Ext wr V→Calls prog 178 #[.slice Au (nth (dF y) n).length cu,.slice Ap ps.length cp,.int .i64 (n:Int),.agg #[y.now,.int .i64 z]] V fun e w'=>e=.returned (.bool r2)∧Ext V w'):=ah fun V hV=>by rw [← hr2];exact agt.out V ⟨y.now,z⟩ (HXZ.out.trans hV)
       have d0z:=Ext.some HXZ.out d0;have y7z:=Ext.some HXZ.out y7;clear hr2;go_upto_region 9 with (fail)
       refine ak (by kernel_rfl) (by kernel_rfl) ?_;repeat (
        (refine wpQuiet_step (fun K hK=>?_)
         go_simp;first
          | (refine hK _ ?_;clear hK K)
          | (apply Exists.intro
             refine ⟨fun bH aj=>?_,hK _ ?_⟩
             · have aqr:=Ext.some aj d0z;have ari:=Ext.some aj y7z;first | exact rfl | (go_simp;done) | (go_simp;exact rfl) | (go_at_call 178;exact aJ aj (HC2.out _ aj))
             clear hK K)))
       refine wpQuiet_nil ?_;intro w1 hx1;have X2:=ah hx1;clear hx1;cases r2 with
       | true =>
         have HEQ:Hid (z=iG y.now oc e0):=ah (by rw [← HST.out,acs HV.out HR2.out]);go_wp2_with fail;go_roundw;case rel=>exact ⟨k+1,by omega,by go_num,by rw [HEK.out,← HEQ.out],HAK.out,HX.out.trans (HXZ.out.trans X2.out)⟩
         case measure=>simp [intOf];omega
       | false =>
         have HD:=ah (acr HRR.out HR2.out);have hd1:=HD.out.1;go_wp2_with fail;go_roundw;case rel=>exact ⟨_,_,_,_,_,_,_,_,_,_,_,_,_,_,_,⟨z - 1,by go_num,by omega,by omega,by rw [← HD.out.2];exact HST.out,HXR.out.trans X2.out⟩,rfl⟩
         case measure=>simp [intOf];omega
  · obtain rfl:k=t.nodes.length:=by omega
    have aor:Hid (uM y ps t = [lI y ps t]):=ah (by have h:=HA.out;rw [List.take_length] at h;rw [uM,if_pos h]);have HEE:Hid (iZ y ps t.nodes (endOf t)=e0):=ah (by have h:=HE.out;rwa [List.take_length] at h);clear q1;go_upto_region 11 with (fail)
    clear q2;have al:∀ V,Ext wr V→∀ i,V.cell? ⟨B,i,none⟩=_:=fun V hV=>((Q1.out.ext HX.out).ext hV).cell;have bl:∀ V,Ext wr V→∀ i,V.cell? ⟨B+1,i,none⟩=_:=fun V hV=>((Q2.out.ext HX.out).ext hV).cell;go_region_held3 (fun V=>Ext wr V) (repeat (first | with_reducible assumption | with_reducible exact Ext.refl _ | with_reducible refine Ext.alloc ?_ _ | with_reducible refine Ext.drew ?_ | with_reducible refine Ext.setCell ?_ (by first | exact Nat.le_refl _ | exact Ext.size (by assumption) | (simp;done) | (simp;omega) | (show _≤_;omega)) _ | with_reducible refine Ext.trans ?_ eu)) (first | (refine qP (E:=fC) (T:=2) (hfl:=fun h=>h) (l:=[]) (ys:=t.nodes) (F:=[]) (S:=S2) (by rfl) _ _ 74 (by rfl) (.int .i64 0) 1 8 underlying74 (by kernel_rfl) rfl rfl (by rfl) (aW.nil _) (by rfl) (Uu.out.ext (XX.out.trans (by repeat (first | with_reducible assumption | with_reducible exact Ext.refl _ | with_reducible refine Ext.alloc ?_ _ | with_reducible refine Ext.drew ?_ | with_reducible refine Ext.setCell ?_ (by first | exact Nat.le_refl _ | exact Ext.size (by assumption) | (simp;done) | (simp;omega) | (show _≤_;omega)) _ | with_reducible refine Ext.trans ?_ eu)))) (by have:=Jt.out.few;simp only [List.length_nil,maxLen];omega) (by have:=Jt.out.few;simp only [List.length_nil];omega) ?_;intro u9 w8 G9 q9 ao8 hf9;have eu:=ao8.ext (Ext.refl _) (fun b hb=>absurd hb (by simp));simp only [List.nil_append] at q9;obtain ⟨A9,c9,rfl,-⟩:=aW.form q9));all_goals
     clear al bl;go_wp2_with fail;go_ret;exact ⟨_,_,rfl,by rw [aor.out];exact dY.one (x:=lI y ps t) (by have h:=aF.new w8 78 (bY (lI y ps t) (.slice A9 t.nodes.length c9)).toArray;simpa [lI,HEE.out,bY] using h) HFS.out (aW.ext q9 ((Ext.refl _).alloc _)) (Ext.size (XX.out.trans (by repeat (first | with_reducible assumption | with_reducible exact Ext.refl _ | with_reducible refine Ext.alloc ?_ _ | with_reducible refine Ext.drew ?_ | with_reducible refine Ext.setCell ?_ (by first | exact Nat.le_refl _ | exact Ext.size (by assumption) | (simp;done) | (simp;omega) | (show _≤_;omega)) _ | with_reducible refine Ext.trans ?_ eu)))),(XX.out.trans (by repeat (first | with_reducible assumption | with_reducible exact Ext.refl _ | with_reducible refine Ext.alloc ?_ _ | with_reducible refine Ext.drew ?_ | with_reducible refine Ext.setCell ?_ (by first | exact Nat.le_refl _ | exact Ext.size (by assumption) | (simp;done) | (simp;omega) | (show _≤_;omega)) _ | with_reducible refine Ext.trans ?_ eu))).alloc _⟩
end Go.Proofs.YtbdicafambkhdaaGreat
