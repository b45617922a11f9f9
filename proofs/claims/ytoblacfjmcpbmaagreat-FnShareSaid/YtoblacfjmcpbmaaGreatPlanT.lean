/- The walks of the program's planTo, YardPlan and Least. Printed by wip/plant.py. -/
import Derived.Test.YtoblacfjmcpbmaaGreatPlanLe
import Derived.Test.YtoblacfjmcpbmaaGreatHalf
import Derived.Deep.RegionHeld3
set_option maxHeartbeats 32000000
set_option maxRecDepth 100000
namespace Go.Proofs.YtoblacfjmcpbmaaGreat
open Go.RowKit
attribute [local irreducible] wpQuiet
def Lo (S:Nat→Prop) (w:World) (b:Nat):Prop:=S b∧b < w.heap.size
theorem Rd.low {α:Type} {E:Elem α} {S:Nat→Prop} {w:World} {v:Value} {l:List α} (hE:∀ {cs x},E.rel S w cs x→E.rel (Lo S w) w cs x) (h0:0 < E.size) (h:Rd E S w v l):Rd E (Lo S w) w v l:=by
 obtain ⟨A,c,hv,h1,h2,hk⟩:=h
 refine ⟨A,c,hv,h1,h2,fun k x hkx=>?_⟩
 obtain ⟨b,o,cs,hA,hs,hr,hc⟩:=hk k x hkx
 refine ⟨b,o,cs,hA,⟨hs,?_⟩,hE hr,hc⟩
 have hl:=E.len hr
 have hg:cs[0]? = some (cs[0]'(by omega)):=List.getElem?_eq_getElem _
 exact World.block_lt_of_cell? w _ (hc 0 _ hg)
theorem low_yard {S:Nat→Prop} {w:World} {cs:List Value} {y:Yard} (h:EYard.rel S w cs y):EYard.rel (Lo S w) w cs y:=by
 obtain ⟨v1,v2,v3,v4,v5,v6,rfl,hf,h1,h2,h3,h4,h5,h6⟩:=h
 refine rel_Yard hf (h1.low ?_ (by decide)) (h2.low (fun h=>h) (by decide)) (h3.low (fun h=>h) (by decide)) (h4.low ?_ (by decide)) (h5.low ?_ (by decide)) (h6.low (fun h=>h) (by decide))
 · rintro _ _ ⟨u,rfl,h⟩
   exact ⟨u,rfl,h.low (fun h=>h) (by decide)⟩
 · rintro _ _ ⟨u,rfl,hf,h⟩
   exact ⟨u,rfl,hf,h.low (fun h=>h) (by decide)⟩
 · rintro _ _ ⟨u,rfl,hf,h⟩
   exact ⟨u,rfl,hf,h.low (fun h=>h) (by decide)⟩
theorem fit_lab {a:Label} (h:labelRight a=true):FitLabel a:=by
 simp only [labelRight,Bool.and_eq_true] at h
 have h1:=isB_true h.1
 have h2:=isB_true h.2
 unfold FitLabel I64
 omega
def PlQ (w0:World) (B:Nat) (y:Yard) (v1 v2 v3 v4 v5 v6 vs vh:Value) (w:World) (ps:List Place):Prop :=
 ∃ (vp:Value) (m:List PV) (F:List Nat),PlC w B y v1 v2 v3 v4 v5 v6 vs vh vp∧m.map PV.x=ps∧OwS OPV 138 w vp m F∧(∀ b∈F,w0.heap.size≤b)∧(∀ e∈m,OwS OInt 2 w e.v e.x.nodes e.F)∧((m.map PV.F).flatten).Nodup∧(∀ b∈(m.map PV.F).flatten,w0.heap.size≤b)
theorem PlQ.ext {w0:World} {B:Nat} {y:Yard} {v1 v2 v3 v4 v5 v6 vs vh:Value} {w w':World} {ps:List Place} (h:PlQ w0 B y v1 v2 v3 v4 v5 v6 vs vh w ps) (hx:Ext w w'):PlQ w0 B y v1 v2 v3 v4 v5 v6 vs vh w' ps:=by
 obtain ⟨vp,m,F,hC,hm,ho,hF,hn,hnd,hg⟩:=h
 exact ⟨vp,m,F,hC.ext hx,hm,ho.ext hx,hF,fun e he=>(hn e he).ext hx,hnd,hg⟩
theorem PlQ.rd {w0:World} {B:Nat} {y:Yard} {v1 v2 v3 v4 v5 v6 vs vh:Value} {w:World} {ps:List Place} (h:PlQ w0 B y v1 v2 v3 v4 v5 v6 vs vh w ps):∃ vp,PlC w B y v1 v2 v3 v4 v5 v6 vs vh vp∧Rd EPlace (fun _=>True) w vp ps:=by
 obtain ⟨vp,m,F,hC,hm,ho,hF,hn,hnd,hg⟩:=h
 exact ⟨vp,hC,places_read hm ho hn⟩
theorem PlQ.low {w0 w1:World} {B:Nat} {y:Yard} {v1 v2 v3 v4 v5 v6 vs vh:Value} {w:World} {ps:List Place} (h:PlQ w0 B y v1 v2 v3 v4 v5 v6 vs vh w ps) (hx:w1.heap.size≤w0.heap.size):PlQ w1 B y v1 v2 v3 v4 v5 v6 vs vh w ps:=by
 obtain ⟨vp,m,F,hC,hm,ho,hF,hn,hnd,hg⟩:=h
 exact ⟨vp,m,F,hC,hm,ho,fun b hb=>Nat.le_trans hx (hF b hb),hn,hnd,fun b hb=>Nat.le_trans hx (hg b hb)⟩
theorem PlQ.turn {w0:World} {B:Nat} {y:Yard} {v1 v2 v3 v4 v5 v6 vs vh:Value} {w:World} {ps:List Place} (h:PlQ w0 B y v1 v2 v3 v4 v5 v6 vs vh w ps) (hx:w0.heap.size≤w.heap.size) :
 ∃ F0 G0,PlS w B F0 G0 y v1 v2 v3 v4 v5 v6 vs vh w ps∧(∀ b∈F0,w0.heap.size≤b∧∃ C,Blk w b 138 C)∧∀ {w' ps'},PlS w B F0 G0 y v1 v2 v3 v4 v5 v6 vs vh w' ps'→PlQ w0 B y v1 v2 v3 v4 v5 v6 vs vh w' ps'∧Kept (B :: F0) w w':=by
 obtain ⟨vp,m,F,hC,hm,ho,hF,hn,hnd,hg⟩:=h
 refine ⟨F,(m.map PV.F).flatten,⟨vp,m,F,hC,hm,ho,fun b hb=>.inl hb,hn,hnd,fun b hb=>.inl hb,Kept.refl _ _⟩,fun b hb=>⟨hF b hb,ho.tag b hb⟩,?_⟩
 rintro w' ps' ⟨vp',m',F',hC',hm',ho',hF',hn',hnd',hg',hk'⟩
 refine ⟨⟨vp',m',F',hC',hm',ho',fun b hb=>?_,hn',hnd',fun b hb=>?_⟩,hk'⟩
 · rcases hF' b hb with h | h
   · exact hF b h
   · exact Nat.le_trans hx h
 · rcases hg' b hb with h | h
   · exact hg b h
   · exact Nat.le_trans hx h
def RetPl (y:Yard) (ps:List Place) (w:World) (e:Ending) (w':World):Prop :=
 ∃ (B:Nat) (v1 v2 v3 v4 v5 v6 vs vh:Value),e=.returned (.pointer (some ⟨B,0,none⟩))∧PlQ w B y v1 v2 v3 v4 v5 v6 vs vh w' ps∧PlR (fun _=>True) w' y v1 v2 v3 v4 v5 v6 vs vh∧w.heap.size≤B∧Ext w w'
theorem call_planTo1:∀ (args:Array Value) (W:World),(callFunc 99 args).run Tryz.prog W=.ok (.enter 99 args) W:=by
 intro args W
 go_simp
theorem planTo1_any (e:TV) (a:Label) (cs:List Value) (B:Nat) (w:World) (h:ETV.rel (fun _=>False) w cs e) (c0:w.cell? ⟨B,0,none⟩=some (.int .i64 a.level)) (c1:w.cell? ⟨B,1,none⟩=some (.int .i64 a.set)) :
 Calls Tryz.prog 99 #[.agg cs.toArray,.pointer (some ⟨B,0,none⟩)] w fun r w'=>r=.returned (.bool (!decide (e.x.label=a)))∧Ext w w':=by
 obtain ⟨rfl,hf⟩:=h
 have d0:=fun ob:Obj=>Ext.some ((Ext.refl w).alloc ob) c0
 have d1:=fun ob:Obj=>Ext.some ((Ext.refl w).alloc ob) c1
 clear hf
 simp only [cellsTask]
 have hl:(e.x.label=a)↔(e.x.label.level=a.level∧e.x.label.set=a.set):=⟨fun h=>by rw [h];exact ⟨rfl,rfl⟩,fun h=>Label.ext h.1 h.2⟩
 have HL:=Lib.hid hl
 clear hl
 by_cases he:e.x.label.level=a.level∧e.x.label.set=a.set
 · obtain ⟨he1,he2⟩:=he
   go_enter Tryz.func99,Tryz.ntmps99
   go_wp2_with fail
   all_goals (go_ret;exact ⟨ret_bool (by rw [decide_eq_true (HL.out.2 ⟨he1,he2⟩)];simp_all),(Ext.refl _).alloc _⟩)
 · have hd:decide (e.x.label=a)=false:=decide_eq_false fun h=>he (HL.out.1 h)
   have HD:=Lib.hid hd
   clear hd
   go_enter Tryz.func99,Tryz.ntmps99
   go_wp2_with fail
   all_goals (go_ret;exact ⟨ret_bool (by rw [HD.out];simp_all),(Ext.refl _).alloc _⟩)
theorem lab_tasks {m:List TV} {order:List Task} (hm:m.map TV.x=order) (a:Label):(m.filter fun e=>!!decide (e.x.label=a)).map TV.x=labTasks order a:=by
 rw [← hm,labTasks,List.filter_map]
 congr 1
 apply List.filter_congr
 intro e _
 simp
theorem planTo_any {S:Nat→Prop} (y:Yard) (last:Label) (cs:List Value) (w:World) (hy0:EYard.rel S w cs y) (hk:PlanOk y) (hlast:labelRight last=true) :
 Calls Tryz.prog 43 #[.agg cs.toArray,.agg #[.int .i64 last.level,.int .i64 last.set]] w (RetPl y (planTo y (keyOf last)) w):=by
 have hy:=low_yard hy0
 have HY:=Lib.hid hy
 clear hy0
 obtain ⟨v1,v2,v3,v4,v5,v6,rfl,hfy,h1,h2,h3,h4,h5,h6⟩:=hy
 obtain ⟨A1,c1,rfl,-⟩:=h1.form
 obtain ⟨A2,c2,rfl,-⟩:=h2.form
 obtain ⟨A3,c3,rfl,-⟩:=h3.form
 obtain ⟨A4,c4,rfl,-⟩:=h4.form
 obtain ⟨A5,c5,rfl,-⟩:=h5.form
 obtain ⟨A6,c6,rfl,-⟩:=h6.form
 have HPO:=Lib.hid hk
 have HFY:=Lib.hid hfy
 have H1:=Lib.hid h1
 have H2:=Lib.hid h2
 have H3:=Lib.hid h3
 have H4:=Lib.hid h4
 have H5:=Lib.hid h5
 have H6:=Lib.hid h6
 have HLA:=Lib.hid hlast
 have HFL:Hid (FitLabel last):=Lib.hid (fit_lab hlast)
 have HTO:Hid (∀ V,Ext w V→Calls Tryz.prog 35 #[.agg #[.slice A1 y.config.nodes.length c1,.slice A2 y.config.pairs.length c2,.slice A3 y.config.quotas.length c3,.int .i64 y.config.half,.slice A4 y.nodes.length c4,.slice A5 y.tasks.length c5,.slice A6 y.uses.length c6,.int .i64 y.now]] V (RetO OTask 46 (orderT y) V)):=Lib.hid fun V hV=>taskOrder_any (S:=Lo S w) y _ V (EYard.keep (hV.same _) HY.out) hk.ord
 have HLB:Hid (∀ V,Ext w V→Calls Tryz.prog 50 #[.agg #[.slice A1 y.config.nodes.length c1,.slice A2 y.config.pairs.length c2,.slice A3 y.config.quotas.length c3,.int .i64 y.config.half]] V (RetO OLabel 24 (labelsIn y.config.nodes) V)):=Lib.hid fun V hV=>labels_any (S:=Lo S w) y.config _ V (rel_Config hfy.1 (h1.ext hV) (h2.ext hV) (h3.ext hV)) hk.conf
 have HOF:=Lib.hid (order_few hk)
 have HOO:=Lib.hid (order_fit hk)
 clear hfy h1 h2 h3 h4 h5 h6 hk hlast HY
 obtain ⟨od,hod⟩:∃ od,orderT y=od:=⟨_,rfl⟩
 obtain ⟨ls,hls⟩:∃ ls,labelsIn y.config.nodes=ls:=⟨_,rfl⟩
 have HOD:=Lib.hid hod
 have HLS:=Lib.hid hls
 rw [hod] at HTO HOF HOO
 rw [hls] at HLB
 have HL8:Hid (ls.length≤8):=Lib.hid (by rw [← hls];exact HPO.out.labs)
 have HLR:Hid (∀ k,k < ls.length→labelRight (nth ls k)=true):=Lib.hid fun k hk=>labels_right (by rw [HLS.out];exact nth_mem hk)
 have HND:Hid ls.Nodup:=Lib.hid (by rw [← hls];exact labels_nodup _)
 clear hod hls
 simp only [cellsYard]
 go_enter Tryz.func43,Tryz.ntmps43
 go_upto_region 1 with (fail)
 obtain ⟨W,B0,hW,hB,hx0,a0,b0⟩:=boxes2 w #[.slice A1 y.config.nodes.length c1,.slice A2 y.config.pairs.length c2,.slice A3 y.config.quotas.length c3,.int .i64 y.config.half,.slice A4 y.nodes.length c4,.slice A5 y.tasks.length c5,.slice A6 y.uses.length c6,.int .i64 y.now] #[.int .i64 last.level,.int .i64 last.set] 35 24
 rw [← hW,← hB]
 have X:=Lib.hid hx0
 have Q1:=Lib.hid a0
 have Q2:=Lib.hid b0
 clear hW hB hx0 a0 b0
 have al:∀ V,Ext W V→∀ i,V.cell? ⟨B0,i,none⟩=_:=fun V hV=>(Q1.out.ext hV).cell
 go_cut [5] (fun u wc=>∃ (B:Nat) (As Ah:Option Addr) (cs ch:Nat) (Fs Fh:List Nat),u=.pointer (some ⟨B,0,none⟩)∧Blk wc B 87 #[.slice A1 y.config.nodes.length c1,.slice A2 y.config.pairs.length c2,.slice A3 y.config.quotas.length c3,.int .i64 y.config.half,.slice A4 y.nodes.length c4,.slice A5 y.tasks.length c5,.slice A6 y.uses.length c6,.int .i64 y.now,.slice As (startR y).length cs,.slice Ah (hardR y).length ch,.slice none 0 0]∧OwS (ORow OSpan 133) 105 wc (.slice As (startR y).length cs) (startR y) Fs∧OwS (ORow OSpan 133) 105 wc (.slice Ah (hardR y).length ch) (hardR y) Fh∧(∀ b∈Fs,b < B)∧(∀ b∈Fh,b < B)∧W.heap.size≤B∧Ext W wc)
 case first =>
  go_region_held3 (fun V=>Ext W V) (repeat (first | with_reducible assumption | with_reducible exact Ext.refl _ | with_reducible refine Ext.alloc ?_ _ | with_reducible refine Ext.drew ?_ | with_reducible refine Ext.setCell ?_ (by first | exact Nat.le_refl _ | exact Ext.size (by assumption) | (simp;done) | (simp;omega) | (show _≤_;omega)) _ | with_reducible refine Ext.trans ?_ hx8 | with_reducible refine Ext.trans ?_ hx9)) (first
   | (go_at_call 94;(with_reducible refine (rowsNew_any (S:=Lo S w) y.nodes _ _ (H4.out.ext (X.out.trans (by repeat (first | with_reducible assumption | with_reducible exact Ext.refl _ | with_reducible refine Ext.alloc ?_ _ | with_reducible refine Ext.drew ?_ | with_reducible refine Ext.setCell ?_ (by first | exact Nat.le_refl _ | exact Ext.size (by assumption) | (simp;done) | (simp;omega) | (show _≤_;omega)) _ | with_reducible refine Ext.trans ?_ hx8 | with_reducible refine Ext.trans ?_ hx9))))).mono ?_);rintro e w8 ⟨u8,F8,rfl,q8,g8,hx8⟩;obtain ⟨A8,c8,rfl,-⟩:=OwS.form q8)
   | (go_at_call 95;(with_reducible refine (rowsHard_any (S:=Lo S w) y.nodes _ _ (H4.out.ext (X.out.trans (by repeat (first | with_reducible assumption | with_reducible exact Ext.refl _ | with_reducible refine Ext.alloc ?_ _ | with_reducible refine Ext.drew ?_ | with_reducible refine Ext.setCell ?_ (by first | exact Nat.le_refl _ | exact Ext.size (by assumption) | (simp;done) | (simp;omega) | (show _≤_;omega)) _ | with_reducible refine Ext.trans ?_ hx8 | with_reducible refine Ext.trans ?_ hx9))))).mono ?_);rintro e w9 ⟨u9,F9,rfl,q9,g9,hx9⟩;obtain ⟨A9,c9,rfl,-⟩:=OwS.form q9))
  all_goals
   go_wp2_with fail
   go_meet
   have z8:OwS (ORow OSpan 133) 105 _ _ (startR y) F8:=q8
   have z9:OwS (ORow OSpan 133) 105 _ _ (hardR y) F9:=q9
   first
    | exact ⟨_,A8,A9,c8,c9,F8,F9,rfl,Blk.new _ _ _,(z8.ext (Ext.trans (by repeat (first | with_reducible assumption | with_reducible exact Ext.refl _ | with_reducible refine Ext.alloc ?_ _ | with_reducible refine Ext.drew ?_ | with_reducible refine Ext.setCell ?_ (by first | exact Nat.le_refl _ | exact Ext.size (by assumption) | (simp;done) | (simp;omega) | (show _≤_;omega)) _ )) hx9)).ext ((Ext.refl _).alloc _),z9.ext ((Ext.refl _).alloc _),fun b hb=>(z8.ext (Ext.trans (by repeat (first | with_reducible assumption | with_reducible exact Ext.refl _ | with_reducible refine Ext.alloc ?_ _ | with_reducible refine Ext.drew ?_ | with_reducible refine Ext.setCell ?_ (by first | exact Nat.le_refl _ | exact Ext.size (by assumption) | (simp;done) | (simp;omega) | (show _≤_;omega)) _ )) hx9)).lt b hb,z9.lt,Ext.size (Ext.trans (by repeat (first | with_reducible assumption | with_reducible exact Ext.refl _ | with_reducible refine Ext.alloc ?_ _ | with_reducible refine Ext.drew ?_ | with_reducible refine Ext.setCell ?_ (by first | exact Nat.le_refl _ | exact Ext.size (by assumption) | (simp;done) | (simp;omega) | (show _≤_;omega)) _ | with_reducible refine Ext.trans ?_ hx8 | with_reducible refine Ext.trans ?_ hx9)) hx9),Ext.alloc (Ext.trans (by repeat (first | with_reducible assumption | with_reducible exact Ext.refl _ | with_reducible refine Ext.alloc ?_ _ | with_reducible refine Ext.drew ?_ | with_reducible refine Ext.setCell ?_ (by first | exact Nat.le_refl _ | exact Ext.size (by assumption) | (simp;done) | (simp;omega) | (show _≤_;omega)) _ | with_reducible refine Ext.trans ?_ hx8 | with_reducible refine Ext.trans ?_ hx9)) hx9) _⟩
    | exact ⟨_,A8,A9,c8,c9,F8,F9,rfl,Blk.new _ _ _,z8.ext ((Ext.refl _).alloc _),(z9.ext (Ext.trans (by repeat (first | with_reducible assumption | with_reducible exact Ext.refl _ | with_reducible refine Ext.alloc ?_ _ | with_reducible refine Ext.drew ?_ | with_reducible refine Ext.setCell ?_ (by first | exact Nat.le_refl _ | exact Ext.size (by assumption) | (simp;done) | (simp;omega) | (show _≤_;omega)) _ )) hx8)).ext ((Ext.refl _).alloc _),z8.lt,fun b hb=>(z9.ext (Ext.trans (by repeat (first | with_reducible assumption | with_reducible exact Ext.refl _ | with_reducible refine Ext.alloc ?_ _ | with_reducible refine Ext.drew ?_ | with_reducible refine Ext.setCell ?_ (by first | exact Nat.le_refl _ | exact Ext.size (by assumption) | (simp;done) | (simp;omega) | (show _≤_;omega)) _ )) hx8)).lt b hb,Ext.size (Ext.trans (by repeat (first | with_reducible assumption | with_reducible exact Ext.refl _ | with_reducible refine Ext.alloc ?_ _ | with_reducible refine Ext.drew ?_ | with_reducible refine Ext.setCell ?_ (by first | exact Nat.le_refl _ | exact Ext.size (by assumption) | (simp;done) | (simp;omega) | (show _≤_;omega)) _ | with_reducible refine Ext.trans ?_ hx8 | with_reducible refine Ext.trans ?_ hx9)) hx8),Ext.alloc (Ext.trans (by repeat (first | with_reducible assumption | with_reducible exact Ext.refl _ | with_reducible refine Ext.alloc ?_ _ | with_reducible refine Ext.drew ?_ | with_reducible refine Ext.setCell ?_ (by first | exact Nat.le_refl _ | exact Ext.size (by assumption) | (simp;done) | (simp;omega) | (show _≤_;omega)) _ | with_reducible refine Ext.trans ?_ hx8 | with_reducible refine Ext.trans ?_ hx9)) hx8) _⟩
 case rest =>
 generalize wc=W1 at hcut ⊢
 obtain ⟨B,As,Ah,cs,ch,Fs,Fh,rfl,hb,hs,hh,ls1,lh1,hBW,hx1⟩:=hcut
 have BB:=Lib.hid (Nat.le_trans X.out.size hBW)
 have X1:=Lib.hid (X.out.trans hx1)
 have QA:=Lib.hid (Q1.out.ext hx1)
 have QL:=Lib.hid (Q2.out.ext hx1)
 have OS:=Lib.hid hs
 have OH:=Lib.hid hh
 have BN:Hid (B0+1 < B):=Lib.hid (Nat.lt_of_lt_of_le Q2.out.lt hBW)
 have BW1:Hid (B < W1.heap.size):=Lib.hid (Blk.lt hb)
 have NS:Hid (∀ b∈Fs,b≠B):=Lib.hid fun b hb e=>by have:=ls1 b hb;omega
 have NH:Hid (∀ b∈Fh,b≠B):=Lib.hid fun b hb e=>by have:=lh1 b hb;omega
 have QPB:=Lib.hid hb
 have QP:Hid (PlQ W1 B y (.slice A1 y.config.nodes.length c1) (.slice A2 y.config.pairs.length c2) (.slice A3 y.config.quotas.length c3) (.slice A4 y.nodes.length c4) (.slice A5 y.tasks.length c5) (.slice A6 y.uses.length c6) (.slice As (startR y).length cs) (.slice Ah (hardR y).length ch) W1 []):=Lib.hid ⟨_,[],[],hb,rfl,OwS.nil _,by simp,by simp,by simp,by simp⟩
 clear al hb hs hh ls1 lh1 hBW hx1
 have qa:=QA.out.cell
 go_upto_region 3 with (go_at_call 35;(with_reducible refine (HTO.out _ X1.out).mono ?_);rintro e w2 ⟨u2,F2,rfl,o2,g2,hx2⟩;obtain ⟨A2t,c2t,rfl,-⟩:=OwS.form o2;have O2:=Lib.hid o2;have G2:=Lib.hid g2;have X2:=Lib.hid hx2;clear o2 g2 hx2)
 replace QA:=Lib.hid (QA.out.ext X2.out)
 clear qa
 have qa:=QA.out.cell
 go_upto_region 4 with (go_at_call 50;(with_reducible refine (HLB.out _ (X1.out.trans X2.out)).mono ?_);rintro e w3 ⟨u3,F3,rfl,o3,g3,hx3⟩;obtain ⟨A3t,c3t,rfl,-⟩:=OwS.form o3;have O3:=Lib.hid o3;have G3:=Lib.hid g3;have X3:=Lib.hid hx3;clear o3 g3 hx3)
 clear qa
 have X13:=Lib.hid (X2.out.trans X3.out)
 obtain ⟨mt,hmt,hrt,hnt⟩:=tasks_rd O2.out.rd
 have HMT:=Lib.hid hmt
 have HRT:=Lib.hid (hrt.ext X3.out)
 have HNT:=Lib.hid (hnt.keep (X3.out.same _))
 obtain ⟨A3x,c3x,hv3,y1,y2,hk3⟩:=O3.out.rd.open_
 injection hv3 with e1 e2 e3
 subst e1 e3
 clear e2
 unfold maxLen at y2
 have HK3:=Lib.hid hk3
 have HML:Hid (mt.length=od.length):=Lib.hid (by rw [← hmt,List.length_map])
 clear hmt hrt hnt hk3
 go_wp2_with fail
 go_loopw [24] (fun i w'=>∃ k:Nat,k≤ls.length∧i=.int .i64 k∧(∀ j,j < k→keyOf (nth ls j)≤keyOf last)∧PlQ w3 B y (.slice A1 y.config.nodes.length c1) (.slice A2 y.config.pairs.length c2) (.slice A3 y.config.quotas.length c3) (.slice A4 y.nodes.length c4) (.slice A5 y.tasks.length c5) (.slice A6 y.uses.length c6) (.slice As (startR y).length cs) (.slice Ah (hardR y).length ch) w' (planOver (planLabel y) od (ls.take k))∧Kept [B] w3 w') (fun i _=>ls.length - (intOf i).toNat)
 case atStart=>exact ⟨0,Nat.zero_le _,rfl,by omega,by
  exact ⟨.slice none 0 0,[],[],QPB.out.ext X13.out,rfl,OwS.nil _,by simp,by simp,by simp,by simp⟩,Kept.refl _ _⟩
 case round =>
  obtain ⟨k,hk1,rfl,hlow,hq,hkp⟩:=hrel
  have HLOW:=Lib.hid hlow
  have HQ:=Lib.hid hq
  have HKP:=Lib.hid hkp
  have HXW:Hid (Ext w wr):=Lib.hid (hkp.ext (X1.out.trans X13.out) fun b hb=>by rw [List.mem_singleton.1 hb];exact BB.out)
  have QLr:Hid (Blk wr (B0+1) 24 #[.int .i64 last.level,.int .i64 last.set]):=Lib.hid (by
   have h3:=QL.out.ext X13.out
   exact (HKP.out.block _ h3.lt (by have:=BN.out;simp;omega)).trans h3)
  have HPR:Hid (∀ S0:Nat→Prop,(∀ b,b < W1.heap.size→b≠B→S0 b)→PlR S0 wr y (.slice A1 y.config.nodes.length c1) (.slice A2 y.config.pairs.length c2) (.slice A3 y.config.quotas.length c3) (.slice A4 y.nodes.length c4) (.slice A5 y.tasks.length c5) (.slice A6 y.uses.length c6) (.slice As (startR y).length cs) (.slice Ah (hardR y).length ch)):=Lib.hid fun S0 hS0=>by
   have hlo:∀ b,Lo S w b→S0 b:=fun b hb=>hS0 b (Nat.lt_of_lt_of_le hb.2 X1.out.size) (fun e=>by have:=BB.out;have:=hb.2;omega)
   have hsm:∀ F:List Nat,(∀ b∈F,b≠B)→Same (fun b=>b∈F) w3 wr:=fun F hF=>HKP.out.same fun b hb hm=>hF b hb (List.mem_singleton.1 hm)
   refine ⟨HFY.out,(H1.out.ext HXW.out).sub hlo,(H2.out.ext HXW.out).sub hlo,(H3.out.ext HXW.out).sub hlo,(H4.out.ext HXW.out).sub hlo,(H5.out.ext HXW.out).sub hlo,(H6.out.ext HXW.out).sub hlo,?_,?_⟩
   · exact ((OS.out.rd.ext X13.out).keep (hsm Fs NS.out)).sub fun b hb=>hS0 b (OS.out.lt b hb) (NS.out b hb)
   · exact ((OH.out.rd.ext X13.out).keep (hsm Fh NH.out)).sub fun b hb=>hS0 b (OH.out.lt b hb) (NH.out b hb)
  clear hlow hq hkp
  by_cases hlt:k < ls.length
  · obtain ⟨b,q,cs',rfl,hbF,⟨rfl,hfit⟩,hc⟩:=HK3.out k hlt
    have hbB:b∉[B]:=fun hm=>by have h1:=G3.out b hbF;have h2:=BW1.out;have h3:=X2.out.size;rw [List.mem_singleton.1 hm] at h1;omega
    have c0:=HKP.out.cell hbB (hc 0 _ rfl)
    have c1:=HKP.out.cell hbB (hc 1 _ rfl)
    simp only [ELabel,Nat.add_zero] at c0 c1
    have HFK:=Lib.hid hfit
    clear hc hfit hbB
    go_upto_region 6 with (fail)
    obtain ⟨W5,B5,hW__,hB__,hx__,hb__⟩:=new_box wr #[.int .i64 (nth ls k).level,.int .i64 (nth ls k).set] 24
    rw [← hW__,← hB__]
    have XW5:=Lib.hid hx__
    have QB5:=Lib.hid hb__
    have EB5:=Lib.hid hB__
    clear hW__ hB__ hx__ hb__
    clear c0 c1
    have q5:=QB5.out.cell
    have ql:=(QLr.out.ext XW5.out).cell
    obtain ⟨r,hr⟩:∃ r,cmpLabels (nth ls k) last=r:=⟨_,rfl⟩
    have HCM:Hid (Calls Tryz.prog 75 #[.agg #[.int .i64 (nth ls k).level,.int .i64 (nth ls k).set],.agg #[.int .i64 last.level,.int .i64 last.set]] W5 fun e w'=>e=.returned (.int .i64 r)∧Ext W5 w'):=Lib.hid (compare_is (S:=fun _=>True) (S':=fun _=>True) _ _ _ _ W5 (rel_Label HFK.out) (rel_Label HFL.out) r hr)
    have HKEY0:=cmp_key (HLR.out k hlt) HLA.out
    rw [hr] at HKEY0
    have HKEY:=Lib.hid HKEY0
    clear hr HKEY0
    by_cases hgt0:0 < r
    · have HST:Hid (labsTo y (keyOf last)=ls.take k):=Lib.hid (by
       have h:=labs_stop (y:=y) (s:=keyOf last) (k:=k) (by rw [HLS.out];exact hk1) (by rw [HLS.out];exact HLOW.out) (by rw [HLS.out];refine .inr ?_;rcases HKEY.out with h | h | h <;> omega)
       rw [HLS.out] at h;exact h)
      go_wp2_with (go_at_call 75;(with_reducible refine HCM.out.mono ?_);rintro e w6 ⟨rfl,hx6⟩;have X6:=Lib.hid (XW5.out.trans hx6);clear hx6 q5 ql)
      go_ret
      exact ⟨B,_,_,_,_,_,_,_,_,rfl,by rw [planTo,HST.out,HOD.out];exact (HQ.out.low (X1.out.trans X13.out).size).ext X6.out,(HPR.out (fun _=>True) fun _ _ _=>trivial).ext X6.out,BB.out,HXW.out.trans X6.out⟩
    · have HLE:Hid (keyOf (nth ls k)≤keyOf last):=Lib.hid (by rcases HKEY.out with h | h | h;omega;rw [h.1];exact Int.le_refl _;omega)
      have HPA:=Lib.hid (plan_at HPO.out (ls:=ls.take k) (by rw [HLS.out];exact List.take_sublist _ _))
      have HPN:=Lib.hid (plan_next (planLabel y) od hlt)
      have HNI:=Lib.hid (take_notin HND.out hlt)
      rw [HOD.out] at HPA
      obtain ⟨pk,hpk⟩:∃ pk,planOver (planLabel y) od (ls.take k)=pk:=⟨_,rfl⟩
      have HPK:=Lib.hid hpk
      rw [hpk] at HQ HPA HPN
      clear hpk
      have HRT2:Hid (Rd ETV (fun b=>b∈F2) wr (.slice A2t od.length c2t) mt∧TAt (fun b=>b∈F2) wr mt):=Lib.hid (by
       have hs:Same (fun b=>b∈F2) w3 wr:=HKP.out.same fun b hb hm=>by have h1:=G2.out b hb;have h2:=BW1.out;rw [List.mem_singleton.1 hm] at h1;omega
       exact ⟨HRT.out.keep hs,HNT.out.keep hs⟩)
      have HCLT:Hid (∀ V,Ext wr V→Calls Tryz.prog 98 #[.slice A2t od.length c2t] V (RetO OTV 46 mt V)):=Lib.hid fun V hV=>cloneTV_any (S:=fun b=>b∈F2) mt _ V (HRT2.out.1.ext hV) (by have:=HML.out;have:=HOF.out;omega)
      have HLAB:Hid (∀ (V:World) (v:Value) (F8:List Nat),Ext wr V→OwS OTV 46 V v (mt.filter fun e=>!!decide (e.x.label=nth ls k)) F8→(∀ b∈F8,wr.heap.size≤b)→Calls Tryz.prog 96 #[.pointer (some ⟨B,0,none⟩),v] V fun e w'=>e=.returned (.tuple #[])∧PlQ w3 B y (.slice A1 y.config.nodes.length c1) (.slice A2 y.config.pairs.length c2) (.slice A3 y.config.quotas.length c3) (.slice A4 y.nodes.length c4) (.slice A5 y.tasks.length c5) (.slice A6 y.uses.length c6) (.slice As (startR y).length cs) (.slice Ah (hardR y).length ch) w' (planLabel y pk (labTasks od (nth ls k)))∧Kept [B] w3 w'):=Lib.hid fun V v F8 hV ho hF=>by
       have hw3:w3.heap.size≤V.heap.size:=Nat.le_trans HKP.out.size hV.size
       obtain ⟨F0,G0,hP,hF0,hnext⟩:=(HQ.out.ext hV).turn hw3
       have hlow:∀ b,b < w3.heap.size→b≠B→b < V.heap.size∧b∉B :: F0:=fun b hb hne=>⟨Nat.lt_of_lt_of_le hb hw3,fun hm=>by
        rcases List.mem_cons.1 hm with h | h
        · exact hne h
        · have:=(hF0 b h).1;omega⟩
       have hpr:=(HPR.out (fun b=>b < V.heap.size∧b∉B :: F0) fun b hb hne=>hlow b (Nat.lt_of_lt_of_le hb X13.out.size) hne).ext hV
       have hrt:Rd ETask (fun b=>b < V.heap.size∧b∉B :: F0) V v (labTasks od (nth ls k)):=by
        rw [← lab_tasks HMT.out]
        refine rd_tasks (ho.rd.sub fun b hb=>⟨ho.lt b hb,fun hm=>?_⟩) fun e he=>?_
        · rcases List.mem_cons.1 hm with h | h
          · have h1:=hF b hb;have h2:=BW1.out;have h3:=X13.out.size;have h4:=HKP.out.size;omega
          · obtain ⟨C,hC⟩:=(hF0 b h).2
            exact ho.apart hC (by decide) hb
        · refine ((HRT2.out.2 e (List.mem_filter.1 he).1).ext hV).sub fun b hb=>hlow b (Nat.lt_of_lt_of_le (O2.out.lt b hb) X3.out.size) fun e=>?_
          have h1:=G2.out b hb;have h2:=BW1.out;omega
       have hmem:∀ t∈labTasks od (nth ls k),t∈od:=fun t ht=>(List.mem_filter.1 ht).1
       refine (planLabel_any (S:=fun b=>b < V.heap.size∧b∉B :: F0) y pk (labTasks od (nth ls k)) (nth ls k) _ _ _ _ _ _ _ _ v B F0 G0 V hP hpr hrt (fun b hb=>hb) HPO.out.rows (fun t ht=>(HOO.out t (hmem t ht)).1) HPO.out.len HPA.out.2.1 (by have:=HPA.out.2.2.1;omega) (by have h1:=List.length_filter_le (fun t=>decide (t.label=nth ls k)) od;have h2:=HOF.out;unfold labTasks;omega) (HPA.out.2.2.2 _ HNI.out)).mono ?_
       rintro e w' ⟨rfl,h⟩
       obtain ⟨hq,hk⟩:=hnext h
       refine ⟨rfl,hq,(HKP.out.trans (Kept.of_ext hV)).step hk fun b hb=>?_⟩
       rcases List.mem_cons.1 hb with h | h
       · exact .inl (by simp [h])
       · exact .inr (hF0 b h).1
      have hcf:=call_planTo1
      go_upto_region 7 with (go_at_call 75;(with_reducible refine HCM.out.mono ?_);rintro e w6 ⟨rfl,hx6⟩;have X6:=Lib.hid (XW5.out.trans hx6);have Q56:=Lib.hid (QB5.out.ext hx6);clear hx6 q5 ql)
      go_wp2_with (first
       | (go_at_call 98;(with_reducible refine (HCLT.out _ X6.out).mono ?_);rintro e w7 ⟨u7,F7,rfl,o7,g7,hx7⟩;obtain ⟨A7,c7,rfl,-⟩:=OwS.form o7;have O7:=Lib.hid o7;have G7:Hid (∀ b∈F7,wr.heap.size≤b):=Lib.hid (fun b hb=>Nat.le_trans X6.out.size (g7 b hb));have X7:=Lib.hid (X6.out.trans hx7);have Q57:=Lib.hid (Q56.out.ext hx7);have N57:Hid (B5∉F7):=Lib.hid (fun hm=>by have h1:=g7 _ hm;have h2:=Q56.out.lt;omega);clear o7 g7 hx7)
       | (go_at_call 97;(with_reducible refine (deleteFunc_TV mt (fun e=>!decide (e.x.label=nth ls k)) _ _ _ F7 _ O7.out (by have:=HML.out;have:=HOF.out;omega) call_planTo1 ?hcl).mono ?_);rotate_right;rintro e w8 ⟨u8,F8,rfl,o8,f8,k8⟩;have O8:Hid (OwS OTV 46 w8 u8 (mt.filter fun e=>!!decide (e.x.label=nth ls k)) F8):=Lib.hid o8;have F8h:Hid (∀ b∈F8,wr.heap.size≤b):=Lib.hid (fun b hb=>G7.out b (f8 b hb));have X8:Hid (Ext wr w8):=Lib.hid (k8.ext X7.out G7.out);clear o8 f8 k8)
       | (go_at_call 96;(with_reducible refine (HLAB.out _ _ F8 X8.out O8.out F8h.out).mono ?_);rintro e w9 ⟨rfl,hq9,hk9⟩))
      case hcl =>
       intro cs0 e V hV he
       exact planTo1_any e (nth ls k) cs0 B5 V he (hV.cell N57.out (Q57.out.cell 0)) (hV.cell N57.out (Q57.out.cell 1))
      go_roundw
      case rel=>exact ⟨k+1,by omega,by go_num,all_succ (p:=fun j=>keyOf (nth ls j)≤keyOf last) HLOW.out HLE.out,by rw [HPN.out];exact hq9,hk9⟩
      case measure=>simp [intOf];omega
  · obtain rfl:k=ls.length:=by omega
    have HST:Hid (labsTo y (keyOf last)=ls):=Lib.hid (by
     have h:=labs_stop (y:=y) (s:=keyOf last) (k:=ls.length) (by rw [HLS.out];exact Nat.le_refl _) (by rw [HLS.out];exact HLOW.out) (by rw [HLS.out];exact .inl rfl)
     rw [HLS.out,List.take_length] at h;exact h)
    go_wp2_with fail
    go_ret
    exact ⟨B,_,_,_,_,_,_,_,_,rfl,by have h:=HQ.out;rw [List.take_length] at h;rw [planTo,HST.out,HOD.out];exact h.low (X1.out.trans X13.out).size,HPR.out (fun _=>True) fun _ _ _=>trivial,BB.out,HXW.out⟩
end Go.Proofs.YtoblacfjmcpbmaaGreat
