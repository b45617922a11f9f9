/- What the planner needs of a yard, and that a valid one has it; the plan over the labels, in order; in plain Lean. No program in sight. -/
import Derived.Test.YtbdicafambkhdaaGreatPlanI
import Derived.Test.YtbdicafambkhdaaGreatOrderI
import Derived.Test.YtbdicafambkhdaaGreatPlanLe
import Derived.Deep.RegionHeld3
set_option maxHeartbeats 32000000
set_option maxRecDepth 100000
namespace Go.Proofs.YtbdicafambkhdaaGreat
open Go.Proofs.Tryz
open Go.RowKit
structure og (y:aK):Prop where
 ord:Uw y
 rows:CW y
 fit:∀ t∈y.tasks,iI y t
 len:y.nodes.length=y.config.nodes.length
 nodes:bT y.nodes=true
 conf:fJ y.config.nodes=true
 ahw:(labelsIn y.config.nodes).length≤8
def qN (y:aK) (s:Int):List Label:=(labelsIn y.config.nodes).takeWhile fun a=>decide (keyOf a≤s)
def nG (y:aK) (s:Int):List Place:=dO (dL y) (jQ y) (qN y s)
theorem aej {x:Node} {sh:Int} (h:x.books.length≤4):(dA sh x).length≤4:=by
 unfold dA;split
 · simp
 · exact h
theorem rows_ok {y:aK} (hn:bT y.nodes=true) (hl:y.nodes.length=y.config.nodes.length) (h0:0≤y.now∧y.now≤999900):CW y:=by
 have h1:=qw hn;have few:∀ sh,Uk (rowsOf y.nodes sh):=fun sh r hr=>by
  rw [rowsOf,if_pos hn] at hr;obtain ⟨x,hx,rfl⟩:=List.mem_map.1 hr;obtain ⟨k,hk,e⟩:=List.getElem_of_mem hx;have hb:=(nS hn hk).1;rw [aO hk,e] at hb;exact Nat.le_trans (aej hb) (by decide)
 have len:∀ sh,(rowsOf y.nodes sh).length=y.config.nodes.length:=fun sh=>by rw [rowsOf,if_pos hn,List.length_map,hl]
 exact ⟨len 2,len 3,few 2,few 3,by omega,by omega,h0⟩
theorem aeD {y:aK} {t:Task} (hr:bJ t=true) (hn:∀ n∈t.nodes,0≤n∧n.toNat < y.nodes.length) (hrun:t.state=2→t.start≤y.now∧y.now < endOf t) (hw:t.state=1→0 < t.nodes.length→y.now≤t.start) (h0:0≤y.now∧y.now≤999900):iI y t:=by
 have hl:=dQ hr;have hi:=x9 hr;have hr':=hr;simp only [bJ,Bool.and_eq_true,xu,jG,decide_eq_true_eq] at hr';have hwk:=hr'.1.1.1.1.2;have hp:=hr'.2;have hq:t.nodes.length≤6∧0≤t.start∧t.start≤1000000:=by
  unfold xQ at hp;split at hp <;> simp only [Bool.and_eq_true,oD,jG,decide_eq_true_eq] at hp <;> omega
 exact ⟨hl,hi,hwk.1.2,hwk.1.1,hq.1,hq.2,hn,hrun,hw,h0⟩
theorem YG {y:aK} (h:bD y=true) {k:Nat} (hk:k < y.tasks.length):lu y.config.nodes y.now (nth y.tasks k)=true:=by
 simp only [bD,Bool.and_eq_true] at h;have h1:=List.all_eq_true.1 h.1.1.2 k (List.mem_range.2 hk);simp only [kG,Bool.and_eq_true] at h1;exact h1.1
theorem Iu {y:aK} (h:bD y=true):y.nodes.length=y.config.nodes.length:=by
 simp only [bD,fF,Bool.and_eq_true,decide_eq_true_eq] at h;exact h.1.1.1.1.1.1.1.2
theorem Ji {y:aK} (h:bD y=true):bT y.nodes=true:=by
 simp only [bD,fF,Bool.and_eq_true] at h;exact h.1.1.1.1.1.1.2
theorem aci {y:aK} (h:bD y=true):0≤y.now∧y.now≤999900:=by
 simp only [bD,fF,Bool.and_eq_true] at h;exact dR h.1.1.1.2
theorem rP {c:Config} (h:aU c=true):fJ c.nodes=true∧(labelsIn c.nodes).length≤8:=by
 simp only [aU,Bool.and_eq_true,decide_eq_true_eq] at h;exact ⟨h.1.1,h.2.1.1⟩
theorem YH {y:aK} (h:bD y=true) {t:Task} (ht:t∈y.tasks):bJ t=true∧(∀ n∈t.nodes,0≤n∧n.toNat < y.nodes.length)∧(t.state=2→t.start≤y.now∧y.now < endOf t)∧(t.state≠2→0 < t.nodes.length→y.now+1≤t.start∧t.start≤y.now+40):=by
 obtain ⟨k,hk,e⟩:=List.getElem_of_mem ht;have h1:=YG h hk;have h2:=qF (Jj h) hk;rw [aO hk,e] at h1 h2;simp only [lu,Bool.and_eq_true] at h1;refine ⟨h2,fun n hn=>?_,fun hs=>?_,fun hs hl=>?_⟩
 · have:=List.all_eq_true.1 h1.1.2 n hn;simp only [mJ,Bool.and_eq_true,decide_eq_true_eq] at this;rw [Iu h];exact this.1
 · have:=h1.2;rw [Dz hs] at this;simpa using this
 · have:=h1.2;rw [zF hs hl] at this;exact dR this
theorem tY {y:aK} (h:bD y=true):og y:=by
 have h0:=aci h;have hc:=rP (qA h);exact ⟨ahB h,rows_ok (Ji h) (Iu h) h0,fun t ht=>by
  obtain ⟨a,b,c,d⟩:=YH h ht;exact aeD a b c (fun hs hl=>by have:=d (by omega) hl;omega) h0,Iu h,Ji h,hc.1,hc.2⟩
theorem abS {l:List Task} (h:bn l=true):l.Pairwise fun s t=>s.label=t.label→s.id≠t.id:=by
 rw [List.pairwise_iff_getElem];intro i j hi hj hij hl e;rw [← aO hi,← aO hj] at hl e;have ho:=(Nh hj (fun k hk=>by
  simp only [bn,Bool.and_eq_true,List.all_eq_true,List.mem_range] at h;exact h.2 k hk) (Nat.le_of_lt hij)).2 hl
 omega
theorem Yd {y:aK} {t:Task} (h:iq y t=true):t.state=2∨t.state=1:=by
 simp only [iq,Bool.or_eq_true,decide_eq_true_eq] at h;rcases h with h | h
 · exact .inl h
 · refine .inr (Classical.byContradiction fun hs=>?_);rw [sG,if_pos (.inl hs)] at h;simp [hs] at h
section
variable {y:aK}
theorem Qz {t:Task} (h:t∈jQ y):t∈y.tasks∧iq y t=true:=List.mem_filter.1 (QH.1 h)
theorem Il (h:og y):(jQ y).length≤96:=by
 have h1:=List.length_filter_le (iq y) y.tasks;have h2:=zZ h.ord.tasks;rw [jQ,EY];omega
theorem Io (h:og y):∀ t∈jQ y,iI y t∧(t.state=2∨t.state=1):=fun t ht=>⟨h.fit t (Qz ht).1,Yd (Qz ht).2⟩
theorem acd (h:og y):∀ a,(dh (jQ y) a).Pairwise fun s t=>s.id≠t.id:=fun a=>by
 have h1:(jQ y).Pairwise fun s t=>s.label=t.label→s.id≠t.id :=
  ((NK (EG y) (Ky h.ord.tasks (iq y))).symm.pairwise ((abS h.ord.tasks).filter (iq y)) fun hs hl=>Ne.symm (hs hl.symm))
 unfold dh;have h2:=h1.filter fun t=>decide (t.label=a);refine List.Pairwise.imp_of_mem (fun {s t} hs ht hst=>?_) h2;have e1:=(List.mem_filter.1 hs).2;have e2:=(List.mem_filter.1 ht).2;simp only [decide_eq_true_eq] at e1 e2;exact hst (e1.trans e2.symm)
theorem xE (ns:List (List Label)):(labelsIn ns).Nodup:=List.Pairwise.imp (fun {a b} h e=>by rw [e] at h;omega) (Ue ns 32)
theorem MH (s:Int):(qN y s).Sublist (labelsIn y.config.nodes):=List.takeWhile_sublist _
theorem ER (h:og y) {ls:List Label} (hs:ls.Sublist (labelsIn y.config.nodes)) :
 dO (dL y) (jQ y) ls=dO (uF y) (jQ y) ls∧(∀ p∈dO (dL y) (jQ y) ls,P7 p)∧(dO (dL y) (jQ y) ls).length≤3072∧∀ a,a∉ls→Turn y a (dO (dL y) (jQ y) ls) (dh (jQ y) a):=by
 obtain ⟨h1,h2,h3⟩:=Wn (Io h) (acd h) ls ((xE _).sublist hs);refine ⟨h1,fun p hp=>(h2 p hp).1,?_,h3⟩;have h4:=adX (y:=y) (order:=jQ y) ls;have h5:=Il h;have h6:=hs.length_le;have h7:=h.ahw
 calc (dO (dL y) (jQ y) ls).length≤ls.length * (4 * (jQ y).length):=h4
  _≤8 * (4 * 96):=Nat.mul_le_mul (by omega) (by omega)
  _≤3072:=by decide
theorem QC (f:List Place→List Task→List Place) (order:List Task) {ls:List Label} {k:Nat} (hk:k < ls.length):dO f order (ls.take (k+1))=f (dO f order (ls.take k)) (dh order (nth ls k)):=by
 rw [dO,aV hk,List.foldl_append];rfl
theorem NW {ls:List Label} (h:ls.Nodup) {k:Nat} (hk:k < ls.length):nth ls k∉ls.take k:=fun hm=>by
 rw [← List.take_append_drop k ls] at h;refine (List.nodup_append.1 h).2.2 _ hm (nth ls k) ?_ rfl;rw [ni hk];exact List.mem_cons_self ..
theorem Ae {s:Int} {k:Nat} (hk:k≤(labelsIn y.config.nodes).length) (h:∀ j,j < k→keyOf (nth (labelsIn y.config.nodes) j)≤s) (he:k=(labelsIn y.config.nodes).length∨s < keyOf (nth (labelsIn y.config.nodes) k)):qN y s=(labelsIn y.config.nodes).take k:=by
 unfold qN;generalize labelsIn y.config.nodes=l at *;induction l generalizing k with
 | nil=>simp
 | cons a l ih =>
   cases k with
   | zero =>
     rcases he with he | he
     · simp at he
     · have:¬ keyOf a≤s:=by simpa [nth] using he
       rw [List.takeWhile_cons,if_neg (by simpa using this)];rfl
   | succ k =>
     have h0:keyOf a≤s:=by simpa [nth] using h 0 (by omega)
     rw [List.takeWhile_cons,if_pos (by simpa using h0),List.take_succ_cons];congr 1;refine ih (by simpa using hk) (fun j hj=>by simpa [nth] using h (j+1) (by omega)) ?_;rcases he with he | he
     · exact .inl (by simpa using he)
     · exact .inr (by simpa [nth] using he)
end
end Go.Proofs.YtbdicafambkhdaaGreat
/- The walks of the program's planTo,YardPlan and Least. Printed by wip/plant.py. -/
namespace Go.Proofs.YtbdicafambkhdaaGreat
open Go.Proofs.Tryz
open Go.RowKit
attribute [local irreducible] wpQuiet
def Lo (S:Nat→Prop) (w:World) (b:Nat):Prop:=S b∧b < w.heap.size
theorem Rd.low {α:Type} {E:Elem α} {S:Nat→Prop} {w:World} {v:Value} {l:List α} (hE:∀ {cs x},E.rel S w cs x→E.rel (Lo S w) w cs x) (h0:0 < E.size) (h:Rd E S w v l):Rd E (Lo S w) w v l:=by
 obtain ⟨A,c,hv,h1,h2,hk⟩:=h;refine ⟨A,c,hv,h1,h2,fun k x hkx=>?_⟩;obtain ⟨b,o,cs,hA,hs,hr,hc⟩:=hk k x hkx;refine ⟨b,o,cs,hA,⟨hs,?_⟩,hE hr,hc⟩;have hl:=E.len hr;have hg:cs[0]? = some (cs[0]'(by omega)):=List.getElem?_eq_getElem _;exact World.block_lt_of_cell? w _ (hc 0 _ hg)
theorem VJ {S:Nat→Prop} {w:World} {cs:List Value} {y:aK} (h:eF.rel S w cs y):eF.rel (Lo S w) w cs y:=by
 obtain ⟨v1,v2,v3,v4,v5,v6,rfl,hf,h1,h2,h3,h4,h5,h6⟩:=h;refine gB hf (h1.low ?_ (by decide)) (h2.low (fun h=>h) (by decide)) (h3.low (fun h=>h) (by decide)) (h4.low ?_ (by decide)) (h5.low ?_ (by decide)) (h6.low (fun h=>h) (by decide))
 · rintro _ _ ⟨u,rfl,h⟩;exact ⟨u,rfl,h.low (fun h=>h) (by decide)⟩
 · rintro _ _ ⟨u,rfl,hf,h⟩;exact ⟨u,rfl,hf,h.low (fun h=>h) (by decide)⟩
 · rintro _ _ ⟨u,rfl,hf,h⟩;exact ⟨u,rfl,hf,h.low (fun h=>h) (by decide)⟩
theorem afn {a:Label} (h:aA a=true):aP a:=by
 simp only [aA,Bool.and_eq_true] at h;have h1:=dR h.1;have h2:=dR h.2;unfold aP I64;omega
def XH (w0:World) (B:Nat) (y:aK) (v1 v2 v3 v4 v5 v6 vs vh:Value) (w:World) (ps:List Place):Prop :=
 ∃ (vp:Value) (m:List PV) (F:List Nat),Uh w B y v1 v2 v3 v4 v5 v6 vs vh vp∧m.map PV.x=ps∧aW DZ 78 w vp m F∧(∀ b∈F,w0.heap.size≤b)∧(∀ e∈m,aW jD 2 w e.v e.x.nodes e.F)∧((m.map PV.F).flatten).Nodup∧(∀ b∈(m.map PV.F).flatten,w0.heap.size≤b)
theorem XH.ext {w0:World} {B:Nat} {y:aK} {v1 v2 v3 v4 v5 v6 vs vh:Value} {w w':World} {ps:List Place} (h:XH w0 B y v1 v2 v3 v4 v5 v6 vs vh w ps) (hx:Ext w w'):XH w0 B y v1 v2 v3 v4 v5 v6 vs vh w' ps:=by
 obtain ⟨vp,m,F,hC,hm,ho,hF,hn,hnd,hg⟩:=h;exact ⟨vp,m,F,hC.ext hx,hm,ho.ext hx,hF,fun e he=>(hn e he).ext hx,hnd,hg⟩
theorem XH.rd {w0:World} {B:Nat} {y:aK} {v1 v2 v3 v4 v5 v6 vs vh:Value} {w:World} {ps:List Place} (h:XH w0 B y v1 v2 v3 v4 v5 v6 vs vh w ps):∃ vp,Uh w B y v1 v2 v3 v4 v5 v6 vs vh vp∧Rd dG (fun _=>True) w vp ps:=by
 obtain ⟨vp,m,F,hC,hm,ho,hF,hn,hnd,hg⟩:=h;exact ⟨vp,hC,pR hm ho hn⟩
theorem XH.low {w0 w1:World} {B:Nat} {y:aK} {v1 v2 v3 v4 v5 v6 vs vh:Value} {w:World} {ps:List Place} (h:XH w0 B y v1 v2 v3 v4 v5 v6 vs vh w ps) (hx:w1.heap.size≤w0.heap.size):XH w1 B y v1 v2 v3 v4 v5 v6 vs vh w ps:=by
 obtain ⟨vp,m,F,hC,hm,ho,hF,hn,hnd,hg⟩:=h;exact ⟨vp,m,F,hC,hm,ho,fun b hb=>Nat.le_trans hx (hF b hb),hn,hnd,fun b hb=>Nat.le_trans hx (hg b hb)⟩
theorem XH.turn {w0:World} {B:Nat} {y:aK} {v1 v2 v3 v4 v5 v6 vs vh:Value} {w:World} {ps:List Place} (h:XH w0 B y v1 v2 v3 v4 v5 v6 vs vh w ps) (hx:w0.heap.size≤w.heap.size) :
 ∃ F0 G0,tV w B F0 G0 y v1 v2 v3 v4 v5 v6 vs vh w ps∧(∀ b∈F0,w0.heap.size≤b∧∃ C,aF w b 78 C)∧∀ {w' ps'},tV w B F0 G0 y v1 v2 v3 v4 v5 v6 vs vh w' ps'→XH w0 B y v1 v2 v3 v4 v5 v6 vs vh w' ps'∧Kept (B :: F0) w w':=by
 obtain ⟨vp,m,F,hC,hm,ho,hF,hn,hnd,hg⟩:=h;refine ⟨F,(m.map PV.F).flatten,⟨vp,m,F,hC,hm,ho,fun b hb=>.inl hb,hn,hnd,fun b hb=>.inl hb,Kept.refl _ _⟩,fun b hb=>⟨hF b hb,ho.tag b hb⟩,?_⟩;rintro w' ps' ⟨vp',m',F',hC',hm',ho',hF',hn',hnd',hg',hk'⟩;refine ⟨⟨vp',m',F',hC',hm',ho',fun b hb=>?_,hn',hnd',fun b hb=>?_⟩,hk'⟩
 · rcases hF' b hb with h | h
   · exact hF b h
   · exact Nat.le_trans hx h
 · rcases hg' b hb with h | h
   · exact hg b h
   · exact Nat.le_trans hx h
def adf (y:aK) (ps:List Place) (w:World) (e:Ending) (w':World):Prop :=
 ∃ (B:Nat) (v1 v2 v3 v4 v5 v6 vs vh:Value),e=.returned (.pointer (some ⟨B,0,none⟩))∧XH w B y v1 v2 v3 v4 v5 v6 vs vh w' ps∧PlR (fun _=>True) w' y v1 v2 v3 v4 v5 v6 vs vh∧w.heap.size≤B∧Ext w w'
theorem Ee:∀ (args:Array Value) (W:World),(callFunc 121 args).run prog W=.ok (.enter 121 args) W:=by
 intro args W;go_simp
theorem Ws (e:TV) (a:Label) (cs:List Value) (B:Nat) (w:World) (h:FC.rel (fun _=>False) w cs e) (c0:w.cell? ⟨B,0,none⟩=some (.int .i64 a.level)) (c1:w.cell? ⟨B,1,none⟩=some (.int .i64 a.set)) :
 Calls prog 121 #[.agg cs.toArray,.pointer (some ⟨B,0,none⟩)] w fun r w'=>r=.returned (.bool (!decide (e.x.label=a)))∧Ext w w':=by
 obtain ⟨rfl,hf⟩:=h;have d0:=fun ob:Obj=>Ext.some ((Ext.refl w).alloc ob) c0;have d1:=fun ob:Obj=>Ext.some ((Ext.refl w).alloc ob) c1;clear hf;simp only [aB];have hl:(e.x.label=a)↔(e.x.label.level=a.level∧e.x.label.set=a.set):=⟨fun h=>by rw [h];exact ⟨rfl,rfl⟩,fun h=>Label.ext h.1 h.2⟩
 have HL:=ah hl;clear hl;by_cases he:e.x.label.level=a.level∧e.x.label.set=a.set
 · obtain ⟨he1,he2⟩:=he;go_enter func121,ntmps121;go_wp2_with fail;all_goals (go_ret;exact ⟨au (by rw [decide_eq_true (HL.out.2 ⟨he1,he2⟩)];simp_all),(Ext.refl _).alloc _⟩)
 · have hd:decide (e.x.label=a)=false:=decide_eq_false fun h=>he (HL.out.1 h);have HD:=ah hd;clear hd;go_enter func121,ntmps121;go_wp2_with fail;all_goals (go_ret;exact ⟨au (by rw [HD.out];simp_all),(Ext.refl _).alloc _⟩)
theorem abW {m:List TV} {order:List Task} (hm:m.map TV.x=order) (a:Label):(m.filter fun e=>!!decide (e.x.label=a)).map TV.x=dh order a:=by
 rw [← hm,dh,List.filter_map];congr 1;apply List.filter_congr;intro e _;simp
theorem Nl {S:Nat→Prop} (y:aK) (last:Label) (cs:List Value) (w:World) (hy0:eF.rel S w cs y) (hk:og y) (hlast:aA last=true) :
 Calls prog 43 #[.agg cs.toArray,.agg (Rl last)] w (adf y (nG y (keyOf last)) w):=by
 have hy:=VJ hy0;have HY:=ah hy;clear hy0;obtain ⟨v1,v2,v3,v4,v5,v6,rfl,RY,h1,h2,h3,h4,h5,h6⟩:=hy;obtain ⟨A1,c1,rfl,-⟩:=h1.form;obtain ⟨A2,c2,rfl,-⟩:=h2.form;obtain ⟨A3,c3,rfl,-⟩:=h3.form;obtain ⟨A4,c4,rfl,-⟩:=h4.form;obtain ⟨A5,c5,rfl,-⟩:=h5.form;obtain ⟨A6,c6,rfl,-⟩:=h6.form;have Jv:=ah hk;have HFY:=ah RY;have H1:=ah h1;have H2:=ah h2;have H3:=ah h3;have H4:=ah h4;have H5:=ah h5;have H6:=ah h6;have QV:=ah hlast;have Oq:Hid (aP last):=ah (afn hlast);have HTO:Hid (∀ V,Ext w V→Calls prog 116 #[.agg (Ry y A1 c1 A2 c2 A3 c3 A4 c4 A5 c5 A6 c6)] V (kX iW 76 (jQ y) V)):=ah fun V hV=>PK (S:=Lo S w) y _ V (eF.keep (hV.same _) HY.out) hk.ord;have XC:Hid (∀ V,Ext w V→Calls prog 105 #[.agg #[.slice A1 y.config.nodes.length c1,.slice A2 y.config.pairs.length c2,.slice A3 y.config.ay.length c3,y.config.half]] V (kX eX 47 (labelsIn y.config.nodes) V)):=ah fun V hV=>qM (S:=Lo S w) y.config _ V (aY RY.1 (h1.ext hV) (h2.ext hV) (h3.ext hV)) hk.conf;have HOF:=ah (Il hk);have HOO:=ah (Io hk);clear RY h1 h2 h3 h4 h5 h6 hk hlast HY;obtain ⟨od,hod⟩:∃ od,jQ y=od:=⟨_,rfl⟩
 obtain ⟨ls,hls⟩:∃ ls,labelsIn y.config.nodes=ls:=⟨_,rfl⟩
 have HOD:=ah hod;have tN:=ah hls;rw [hod] at HTO HOF HOO;rw [hls] at XC;have HL8:Hid (ls.length≤8):=ah (by rw [← hls];exact Jv.out.ahw);have Ol:Hid (∀ k,k < ls.length→aA (nth ls k)=true):=ah fun k hk=>kS (by rw [tN.out];exact bG hk);have Ju:Hid ls.Nodup:=ah (by rw [← hls];exact xE _);clear hod hls;simp only [bV];go_enter func43,ntmps43;go_upto_region 1 with (fail)
 obtain ⟨W,B0,hW,hB,hx0,a0,b0⟩:=eY w (Ry y A1 c1 A2 c2 A3 c3 A4 c4 A5 c5 A6 c6) (Rl last) 45 47;rw [← hW,← hB];have X:=ah hx0;have Q1:=ah a0;have Q2:=ah b0;clear hW hB hx0 a0 b0;have al:∀ V,Ext W V→∀ i,V.cell? ⟨B0,i,none⟩=_:=fun V hV=>(Q1.out.ext hV).cell;go_cut [5] (fun u wc=>∃ (B:Nat) (As Ah:Option Addr) (cs ch:Nat) (Fs Fh:List Nat),u=.pointer (some ⟨B,0,none⟩)∧aF wc B 94 #[.slice A1 y.config.nodes.length c1,.slice A2 y.config.pairs.length c2,.slice A3 y.config.ay.length c3,y.config.half,.slice A4 y.nodes.length c4,.slice A5 y.tasks.length c5,.slice A6 y.uses.length c6,y.now,.slice As (bg y).length cs,.slice Ah (dF y).length ch,.slice none 0 0]∧aW (pX ji 142) 149 wc (.slice As (bg y).length cs) (bg y) Fs∧aW (pX ji 142) 149 wc (.slice Ah (dF y).length ch) (dF y) Fh∧(∀ b∈Fs,b < B)∧(∀ b∈Fh,b < B)∧W.heap.size≤B∧Ext W wc);case first =>
  go_region_held3 (fun V=>Ext W V) (repeat (first | with_reducible assumption | with_reducible exact Ext.refl _ | with_reducible refine Ext.alloc ?_ _ | with_reducible refine Ext.drew ?_ | with_reducible refine Ext.setCell ?_ (by first | exact Nat.le_refl _ | exact Ext.size (by assumption) | (simp;done) | (simp;omega) | (show _≤_;omega)) _ | with_reducible refine Ext.trans ?_ eu | with_reducible refine Ext.trans ?_ jO)) (first
   | (go_at_call 114;(with_reducible refine (WW (S:=Lo S w) y.nodes _ _ (H4.out.ext (X.out.trans (by repeat (first | with_reducible assumption | with_reducible exact Ext.refl _ | with_reducible refine Ext.alloc ?_ _ | with_reducible refine Ext.drew ?_ | with_reducible refine Ext.setCell ?_ (by first | exact Nat.le_refl _ | exact Ext.size (by assumption) | (simp;done) | (simp;omega) | (show _≤_;omega)) _ | with_reducible refine Ext.trans ?_ eu | with_reducible refine Ext.trans ?_ jO))))).mono ?_);rintro e w8 ⟨u8,F8,rfl,q8,g8,eu⟩;obtain ⟨A8,c8,rfl,-⟩:=aW.form q8)
   | (go_at_call 115;(with_reducible refine (Tv (S:=Lo S w) y.nodes _ _ (H4.out.ext (X.out.trans (by repeat (first | with_reducible assumption | with_reducible exact Ext.refl _ | with_reducible refine Ext.alloc ?_ _ | with_reducible refine Ext.drew ?_ | with_reducible refine Ext.setCell ?_ (by first | exact Nat.le_refl _ | exact Ext.size (by assumption) | (simp;done) | (simp;omega) | (show _≤_;omega)) _ | with_reducible refine Ext.trans ?_ eu | with_reducible refine Ext.trans ?_ jO))))).mono ?_);rintro e w9 ⟨u9,F9,rfl,q9,g9,jO⟩;obtain ⟨A9,c9,rfl,-⟩:=aW.form q9))
  all_goals
   go_wp2_with fail;go_meet;have z8:aW (pX ji 142) 149 _ _ (bg y) F8:=q8;have z9:aW (pX ji 142) 149 _ _ (dF y) F9:=q9;first
    | exact ⟨_,A8,A9,c8,c9,F8,F9,rfl,aF.new _ _ _,(z8.ext (Ext.trans (by repeat (first | with_reducible assumption | with_reducible exact Ext.refl _ | with_reducible refine Ext.alloc ?_ _ | with_reducible refine Ext.drew ?_ | with_reducible refine Ext.setCell ?_ (by first | exact Nat.le_refl _ | exact Ext.size (by assumption) | (simp;done) | (simp;omega) | (show _≤_;omega)) _ )) jO)).ext ((Ext.refl _).alloc _),z9.ext ((Ext.refl _).alloc _),fun b hb=>(z8.ext (Ext.trans (by repeat (first | with_reducible assumption | with_reducible exact Ext.refl _ | with_reducible refine Ext.alloc ?_ _ | with_reducible refine Ext.drew ?_ | with_reducible refine Ext.setCell ?_ (by first | exact Nat.le_refl _ | exact Ext.size (by assumption) | (simp;done) | (simp;omega) | (show _≤_;omega)) _ )) jO)).lt b hb,z9.lt,Ext.size (Ext.trans (by repeat (first | with_reducible assumption | with_reducible exact Ext.refl _ | with_reducible refine Ext.alloc ?_ _ | with_reducible refine Ext.drew ?_ | with_reducible refine Ext.setCell ?_ (by first | exact Nat.le_refl _ | exact Ext.size (by assumption) | (simp;done) | (simp;omega) | (show _≤_;omega)) _ | with_reducible refine Ext.trans ?_ eu | with_reducible refine Ext.trans ?_ jO)) jO),Ext.alloc (Ext.trans (by repeat (first | with_reducible assumption | with_reducible exact Ext.refl _ | with_reducible refine Ext.alloc ?_ _ | with_reducible refine Ext.drew ?_ | with_reducible refine Ext.setCell ?_ (by first | exact Nat.le_refl _ | exact Ext.size (by assumption) | (simp;done) | (simp;omega) | (show _≤_;omega)) _ | with_reducible refine Ext.trans ?_ eu | with_reducible refine Ext.trans ?_ jO)) jO) _⟩
    | exact ⟨_,A8,A9,c8,c9,F8,F9,rfl,aF.new _ _ _,z8.ext ((Ext.refl _).alloc _),(z9.ext (Ext.trans (by repeat (first | with_reducible assumption | with_reducible exact Ext.refl _ | with_reducible refine Ext.alloc ?_ _ | with_reducible refine Ext.drew ?_ | with_reducible refine Ext.setCell ?_ (by first | exact Nat.le_refl _ | exact Ext.size (by assumption) | (simp;done) | (simp;omega) | (show _≤_;omega)) _ )) eu)).ext ((Ext.refl _).alloc _),z8.lt,fun b hb=>(z9.ext (Ext.trans (by repeat (first | with_reducible assumption | with_reducible exact Ext.refl _ | with_reducible refine Ext.alloc ?_ _ | with_reducible refine Ext.drew ?_ | with_reducible refine Ext.setCell ?_ (by first | exact Nat.le_refl _ | exact Ext.size (by assumption) | (simp;done) | (simp;omega) | (show _≤_;omega)) _ )) eu)).lt b hb,Ext.size (Ext.trans (by repeat (first | with_reducible assumption | with_reducible exact Ext.refl _ | with_reducible refine Ext.alloc ?_ _ | with_reducible refine Ext.drew ?_ | with_reducible refine Ext.setCell ?_ (by first | exact Nat.le_refl _ | exact Ext.size (by assumption) | (simp;done) | (simp;omega) | (show _≤_;omega)) _ | with_reducible refine Ext.trans ?_ eu | with_reducible refine Ext.trans ?_ jO)) eu),Ext.alloc (Ext.trans (by repeat (first | with_reducible assumption | with_reducible exact Ext.refl _ | with_reducible refine Ext.alloc ?_ _ | with_reducible refine Ext.drew ?_ | with_reducible refine Ext.setCell ?_ (by first | exact Nat.le_refl _ | exact Ext.size (by assumption) | (simp;done) | (simp;omega) | (show _≤_;omega)) _ | with_reducible refine Ext.trans ?_ eu | with_reducible refine Ext.trans ?_ jO)) eu) _⟩
 case rest =>
 generalize wc=W1 at hcut ⊢;obtain ⟨B,As,Ah,cs,ch,Fs,Fh,rfl,hb,hs,hh,ls1,lh1,hBW,hx1⟩:=hcut;have BB:=ah (Nat.le_trans X.out.size hBW);have X1:=ah (X.out.trans hx1);have QA:=ah (Q1.out.ext hx1);have QL:=ah (Q2.out.ext hx1);have OS:=ah hs;have OH:=ah hh;have BN:Hid (B0+1 < B):=ah (Nat.lt_of_lt_of_le Q2.out.lt hBW);have BW1:Hid (B < W1.heap.size):=ah (aF.lt hb);have NS:Hid (∀ b∈Fs,b≠B):=ah fun b hb e=>by have:=ls1 b hb;omega
 have NH:Hid (∀ b∈Fh,b≠B):=ah fun b hb e=>by have:=lh1 b hb;omega
 have QPB:=ah hb;have QP:Hid (XH W1 B y (.slice A1 y.config.nodes.length c1) (.slice A2 y.config.pairs.length c2) (.slice A3 y.config.ay.length c3) (.slice A4 y.nodes.length c4) (.slice A5 y.tasks.length c5) (.slice A6 y.uses.length c6) (.slice As (bg y).length cs) (.slice Ah (dF y).length ch) W1 []):=ah ⟨_,[],[],hb,rfl,aW.nil _,by simp,by simp,by simp,by simp⟩;clear al hb hs hh ls1 lh1 hBW hx1;have qa:=QA.out.cell;go_upto_region 3 with (go_at_call 116;(with_reducible refine (HTO.out _ X1.out).mono ?_);rintro e w2 ⟨u2,F2,rfl,o2,g2,hx2⟩;obtain ⟨A2t,c2t,rfl,-⟩:=aW.form o2;have O2:=ah o2;have G2:=ah g2;have X2:=ah hx2;clear o2 g2 hx2)
 replace QA:=ah (QA.out.ext X2.out);clear qa;have qa:=QA.out.cell;go_upto_region 4 with (go_at_call 105;(with_reducible refine (XC.out _ (X1.out.trans X2.out)).mono ?_);rintro e w3 ⟨u3,F3,rfl,o3,g3,hx3⟩;obtain ⟨A3t,c3t,rfl,-⟩:=aW.form o3;have O3:=ah o3;have G3:=ah g3;have X3:=ah hx3;clear o3 g3 hx3)
 clear qa;have yj:=ah (X2.out.trans X3.out);obtain ⟨mt,hmt,hrt,hnt⟩:=Xf O2.out.rd;have HMT:=ah hmt;have Uu:=ah (hrt.ext X3.out);have HNT:=ah (hnt.keep (X3.out.same _));obtain ⟨A3x,c3x,hv3,y1,y2,hk3⟩:=O3.out.rd.open_;injection hv3 with e1 e2 e3
 subst e1 e3;clear e2;unfold maxLen at y2;have HK3:=ah hk3;have BP:Hid (mt.length=od.length):=ah (by rw [← hmt,List.length_map]);clear hmt hrt hnt hk3;go_wp2_with fail;go_loopw [24] (fun i w'=>∃ k:Nat,k≤ls.length∧i=.int .i64 k∧(∀ j,j < k→keyOf (nth ls j)≤keyOf last)∧XH w3 B y (.slice A1 y.config.nodes.length c1) (.slice A2 y.config.pairs.length c2) (.slice A3 y.config.ay.length c3) (.slice A4 y.nodes.length c4) (.slice A5 y.tasks.length c5) (.slice A6 y.uses.length c6) (.slice As (bg y).length cs) (.slice Ah (dF y).length ch) w' (dO (dL y) od (ls.take k))∧Kept [B] w3 w') (fun i _=>ls.length - (intOf i).toNat);case atStart=>exact ⟨0,Nat.zero_le _,rfl,by omega,by
  exact ⟨.slice none 0 0,[],[],QPB.out.ext yj.out,rfl,aW.nil _,by simp,by simp,by simp,by simp⟩,Kept.refl _ _⟩
 case round =>
  obtain ⟨k,hk1,rfl,hlow,hq,hkp⟩:=hrel;have XD:=ah hlow;have HQ:=ah hq;have lJ:=ah hkp;have Om:Hid (Ext w wr):=ah (hkp.ext (X1.out.trans yj.out) fun b hb=>by rw [List.mem_singleton.1 hb];exact BB.out);have QLr:Hid (aF wr (B0+1) 47 (Rl last)):=ah (by
   have h3:=QL.out.ext yj.out;exact (lJ.out.block _ h3.lt (by have:=BN.out;simp;omega)).trans h3)
  have HPR:Hid (∀ S0:Nat→Prop,(∀ b,b < W1.heap.size→b≠B→S0 b)→PlR S0 wr y (.slice A1 y.config.nodes.length c1) (.slice A2 y.config.pairs.length c2) (.slice A3 y.config.ay.length c3) (.slice A4 y.nodes.length c4) (.slice A5 y.tasks.length c5) (.slice A6 y.uses.length c6) (.slice As (bg y).length cs) (.slice Ah (dF y).length ch)):=ah fun S0 hS0=>by
   have hlo:∀ b,Lo S w b→S0 b:=fun b hb=>hS0 b (Nat.lt_of_lt_of_le hb.2 X1.out.size) (fun e=>by have:=BB.out;have:=hb.2;omega);have hsm:∀ F:List Nat,(∀ b∈F,b≠B)→Same (fun b=>b∈F) w3 wr:=fun F hF=>lJ.out.same fun b hb hm=>hF b hb (List.mem_singleton.1 hm);refine ⟨HFY.out,(H1.out.ext Om.out).sub hlo,(H2.out.ext Om.out).sub hlo,(H3.out.ext Om.out).sub hlo,(H4.out.ext Om.out).sub hlo,(H5.out.ext Om.out).sub hlo,(H6.out.ext Om.out).sub hlo,?_,?_⟩
   · exact ((OS.out.rd.ext yj.out).keep (hsm Fs NS.out)).sub fun b hb=>hS0 b (OS.out.lt b hb) (NS.out b hb)
   · exact ((OH.out.rd.ext yj.out).keep (hsm Fh NH.out)).sub fun b hb=>hS0 b (OH.out.lt b hb) (NH.out b hb)
  clear hlow hq hkp;by_cases hlt:k < ls.length
  · obtain ⟨b,q,cs',rfl,hbF,⟨rfl,hfit⟩,hc⟩:=HK3.out k hlt;have hbB:b∉[B]:=fun hm=>by have h1:=G3.out b hbF;have h2:=BW1.out;have h3:=X2.out.size;rw [List.mem_singleton.1 hm] at h1;omega
    have c0:=lJ.out.cell hbB (hc 0 _ rfl);have c1:=lJ.out.cell hbB (hc 1 _ rfl);simp only [aH,Nat.add_zero] at c0 c1;have HFK:=ah hfit;clear hc hfit hbB;go_upto_region 6 with (fail)
    obtain ⟨W5,B5,aX,aT,aj,fQ⟩:=iK wr (Rl (nth ls k)) 47;rw [← aX,← aT];have vO:=ah aj;have DX:=ah fQ;have EB5:=ah aT;clear aX aT aj fQ;clear c0 c1;have q5:=DX.out.cell;have ql:=(QLr.out.ext vO.out).cell;obtain ⟨r,hr⟩:∃ r,bW (nth ls k) last=r:=⟨_,rfl⟩
    have HCM:Hid (Calls prog 117 #[.agg (Rl (nth ls k)),.agg (Rl last)] W5 fun e w'=>e=.returned (.int .i64 r)∧Ext W5 w'):=ah (CY (S:=fun _=>True) (S':=fun _=>True) _ _ _ _ W5 (aC HFK.out) (aC Oq.out) r hr);have acU:=qX (Ol.out k hlt) QV.out;rw [hr] at acU;have HKEY:=ah acU;clear hr acU;by_cases atK:0 < r
    · have HST:Hid (qN y (keyOf last)=ls.take k):=ah (by
       have h:=Ae (y:=y) (s:=keyOf last) (k:=k) (by rw [tN.out];exact hk1) (by rw [tN.out];exact XD.out) (by rw [tN.out];refine .inr ?_;rcases HKEY.out with h | h | h <;> omega);rw [tN.out] at h;exact h)
      go_wp2_with (go_at_call 117;(with_reducible refine HCM.out.mono ?_);rintro e w6 ⟨rfl,hx6⟩;have X6:=ah (vO.out.trans hx6);clear hx6 q5 ql);go_ret;exact ⟨B,_,_,_,_,_,_,_,_,rfl,by rw [nG,HST.out,HOD.out];exact (HQ.out.low (X1.out.trans yj.out).size).ext X6.out,(HPR.out (fun _=>True) fun _ _ _=>trivial).ext X6.out,BB.out,Om.out.trans X6.out⟩
    · have HLE:Hid (keyOf (nth ls k)≤keyOf last):=ah (by rcases HKEY.out with h | h | h;omega;rw [h.1];exact Int.le_refl _;omega);have HPA:=ah (ER Jv.out (ls:=ls.take k) (by rw [tN.out];exact List.take_sublist _ _));have HPN:=ah (QC (dL y) od hlt);have HNI:=ah (NW Ju.out hlt);rw [HOD.out] at HPA;obtain ⟨pk,hpk⟩:∃ pk,dO (dL y) od (ls.take k)=pk:=⟨_,rfl⟩
      have HPK:=ah hpk;rw [hpk] at HQ HPA HPN;clear hpk;have akQ:Hid (Rd FC (fun b=>b∈F2) wr (.slice A2t od.length c2t) mt∧Rw (fun b=>b∈F2) wr mt):=ah (by
       have hs:Same (fun b=>b∈F2) w3 wr:=lJ.out.same fun b hb hm=>by have h1:=G2.out b hb;have h2:=BW1.out;rw [List.mem_singleton.1 hm] at h1;omega
       exact ⟨Uu.out.keep hs,HNT.out.keep hs⟩)
      have anV:Hid (∀ V,Ext wr V→Calls prog 120 #[.slice A2t od.length c2t] V (kX sK 76 mt V)):=ah fun V hV=>UK (S:=fun b=>b∈F2) mt _ V (akQ.out.1.ext hV) (by have:=BP.out;have:=HOF.out;omega);have an7:Hid (∀ (V:World) (v:Value) (F8:List Nat),Ext wr V→aW sK 76 V v (mt.filter fun e=>!!decide (e.x.label=nth ls k)) F8→(∀ b∈F8,wr.heap.size≤b)→Calls prog 118 #[.pointer (some ⟨B,0,none⟩),v] V fun e w'=>e=.returned (.tuple #[])∧XH w3 B y (.slice A1 y.config.nodes.length c1) (.slice A2 y.config.pairs.length c2) (.slice A3 y.config.ay.length c3) (.slice A4 y.nodes.length c4) (.slice A5 y.tasks.length c5) (.slice A6 y.uses.length c6) (.slice As (bg y).length cs) (.slice Ah (dF y).length ch) w' (dL y pk (dh od (nth ls k)))∧Kept [B] w3 w'):=ah fun V v F8 hV ho hF=>by
       have hw3:w3.heap.size≤V.heap.size:=Nat.le_trans lJ.out.size hV.size;obtain ⟨F0,G0,hP,hF0,hnext⟩:=(HQ.out.ext hV).turn hw3;have hlow:∀ b,b < w3.heap.size→b≠B→b < V.heap.size∧b∉B :: F0:=fun b hb hne=>⟨Nat.lt_of_lt_of_le hb hw3,fun hm=>by
        rcases List.mem_cons.1 hm with h | h
        · exact hne h
        · have:=(hF0 b h).1;omega⟩
       have hpr:=(HPR.out (fun b=>b < V.heap.size∧b∉B :: F0) fun b hb hne=>hlow b (Nat.lt_of_lt_of_le hb yj.out.size) hne).ext hV;have hrt:Rd ETask (fun b=>b < V.heap.size∧b∉B :: F0) V v (dh od (nth ls k)):=by
        rw [← abW HMT.out];refine Nu (ho.rd.sub fun b hb=>⟨ho.lt b hb,fun hm=>?_⟩) fun e he=>?_
        · rcases List.mem_cons.1 hm with h | h
          · have h1:=hF b hb;have h2:=BW1.out;have h3:=yj.out.size;have h4:=lJ.out.size;omega
          · obtain ⟨C,hC⟩:=(hF0 b h).2;exact ho.apart hC (by decide) hb
        · refine ((akQ.out.2 e (List.mem_filter.1 he).1).ext hV).sub fun b hb=>hlow b (Nat.lt_of_lt_of_le (O2.out.lt b hb) X3.out.size) fun e=>?_;have h1:=G2.out b hb;have h2:=BW1.out;omega
       have hmem:∀ t∈dh od (nth ls k),t∈od:=fun t ht=>(List.mem_filter.1 ht).1;refine (Pj (S:=fun b=>b < V.heap.size∧b∉B :: F0) y pk (dh od (nth ls k)) (nth ls k) _ _ _ _ _ _ _ _ v B F0 G0 V hP hpr hrt (fun b hb=>hb) Jv.out.rows (fun t ht=>(HOO.out t (hmem t ht)).1) Jv.out.len HPA.out.2.1 (by have:=HPA.out.2.2.1;omega) (by have h1:=List.length_filter_le (fun t=>decide (t.label=nth ls k)) od;have h2:=HOF.out;unfold dh;omega) (HPA.out.2.2.2 _ HNI.out)).mono ?_;rintro e w' ⟨rfl,h⟩;obtain ⟨hq,hk⟩:=hnext h;refine ⟨rfl,hq,(lJ.out.trans (Kept.dw hV)).step hk fun b hb=>?_⟩;rcases List.mem_cons.1 hb with h | h
       · exact .inl (by simp [h])
       · exact .inr (hF0 b h).1
      have hcf:=Ee;go_upto_region 7 with (go_at_call 117;(with_reducible refine HCM.out.mono ?_);rintro e w6 ⟨rfl,hx6⟩;have X6:=ah (vO.out.trans hx6);have Q56:=ah (DX.out.ext hx6);clear hx6 q5 ql)
      go_wp2_with (first
       | (go_at_call 120;(with_reducible refine (anV.out _ X6.out).mono ?_);rintro e w7 ⟨u7,F7,rfl,o7,g7,hx7⟩;obtain ⟨A7,c7,rfl,-⟩:=aW.form o7;have O7:=ah o7;have G7:Hid (∀ b∈F7,wr.heap.size≤b):=ah (fun b hb=>Nat.le_trans X6.out.size (g7 b hb));have X7:=ah (X6.out.trans hx7);have Q57:=ah (Q56.out.ext hx7);have N57:Hid (B5∉F7):=ah (fun hm=>by have h1:=g7 _ hm;have h2:=Q56.out.lt;omega);clear o7 g7 hx7)
       | (go_at_call 119;(with_reducible refine (OC mt (fun e=>!decide (e.x.label=nth ls k)) _ _ _ F7 _ O7.out (by have:=BP.out;have:=HOF.out;omega) Ee ?hcl).mono ?_);rotate_right;rintro e w8 ⟨u8,F8,rfl,o8,f8,k8⟩;have O8:Hid (aW sK 76 w8 u8 (mt.filter fun e=>!!decide (e.x.label=nth ls k)) F8):=ah o8;have F8h:Hid (∀ b∈F8,wr.heap.size≤b):=ah (fun b hb=>G7.out b (f8 b hb));have X8:Hid (Ext wr w8):=ah (k8.ext X7.out G7.out);clear o8 f8 k8)
       | (go_at_call 118;(with_reducible refine (an7.out _ _ F8 X8.out O8.out F8h.out).mono ?_);rintro e w9 ⟨rfl,hq9,hk9⟩))
      case hcl =>
       intro cs0 e V hV he;exact Ws e (nth ls k) cs0 B5 V he (hV.cell N57.out (Q57.out.cell 0)) (hV.cell N57.out (Q57.out.cell 1))
      go_roundw;case rel=>exact ⟨k+1,by omega,by go_num,all_succ (p:=fun j=>keyOf (nth ls j)≤keyOf last) XD.out HLE.out,by rw [HPN.out];exact hq9,hk9⟩
      case measure=>simp [intOf];omega
  · obtain rfl:k=ls.length:=by omega
    have HST:Hid (qN y (keyOf last)=ls):=ah (by
     have h:=Ae (y:=y) (s:=keyOf last) (k:=ls.length) (by rw [tN.out];exact Nat.le_refl _) (by rw [tN.out];exact XD.out) (by rw [tN.out];exact .inl rfl);rw [tN.out,List.take_length] at h;exact h)
    go_wp2_with fail;go_ret;exact ⟨B,_,_,_,_,_,_,_,_,rfl,by have h:=HQ.out;rw [List.take_length] at h;rw [nG,HST.out,HOD.out];exact h.low (X1.out.trans yj.out).size,HPR.out (fun _=>True) fun _ _ _=>trivial,BB.out,Om.out⟩
end Go.Proofs.YtbdicafambkhdaaGreat
