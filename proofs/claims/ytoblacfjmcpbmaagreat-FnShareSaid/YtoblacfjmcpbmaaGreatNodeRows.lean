/- The walks of BookCut, the program's and the reference's. Printed by wip/bookcut.py. -/
import Derived.Test.YtoblacfjmcpbmaaGreatInsSpan
import Derived.Test.YtoblacfjmcpbmaaGreatNodeC
import Derived.Test.YtoblacfjmcpbmaaGreatGYardT
import Derived.BigQuiet
import Derived.Test.YtoblacfjmcpbmaaGreatYardTt
set_option maxHeartbeats 8000000
set_option maxRecDepth 100000
namespace Go.Proofs.YtoblacfjmcpbmaaGreat
open Go.RowKit
attribute [local irreducible] wpQuiet
theorem spans_up {l:List Span} (h:spansRight l=true) {i j:Nat} (hij:i < j) (hj:j < l.length):(nth l i).from_ < (nth l j).from_:=by
 have hall:∀ t,t < l.length→spanAt l t=true:=fun t ht=>by
  simp only [spansRight,Bool.and_eq_true,List.all_eq_true,List.mem_range] at h
  exact h.2 t ht
 have hr:∀ t,t < l.length→(nth l t).from_ < (nth l t).to_:=fun t ht=>by
  have:=hall t ht
  simp only [spanAt,spanRight,Bool.and_eq_true,decide_eq_true_eq] at this
  exact this.1.2
 induction j with
 | zero=>omega
 | succ j ih =>
   have h1:(nth l j).to_≤(nth l (j+1)).from_:=by
    have:=hall (j+1) hj
    rw [spanAt_succ] at this
    simp only [Bool.and_eq_true,decide_eq_true_eq] at this
    exact this.2
   have h2:=hr j (by omega)
   rcases Nat.lt_or_ge i j with h3 | h3
   · have:=ih h3 (by omega)
     omega
   · obtain rfl:i=j:=by omega
     omega
end Go.Proofs.YtoblacfjmcpbmaaGreat
/- SpanPut and what it stands on: the program's and the reference's. -/
namespace Go.Proofs.YtoblacfjmcpbmaaGreat
open Go.RowKit
attribute [local irreducible] wpQuiet
def laps (x o:Span):Bool:=decide (o.from_ < x.to_) && decide (x.from_ < o.to_)
def freeOf (l:List Span) (x:Span):Bool:=!(l.any (laps x))
def ahead (x o:Span):Bool:=decide (o.from_ < x.from_)
theorem Rd.drop {α:Type} {E:Elem α} {S:Nat→Prop} {w:World} {b o n c k:Nat} {l:List α} (h:Rd E S w (.slice (some ⟨b,o,none⟩) n c) l) (hk:k≤l.length):Rd E S w (.slice (some ⟨b,o+k * E.size,none⟩) (n - k) (c - k)) (l.drop k):=by
 obtain ⟨A,c',hv,h1,h2,hall⟩:=h
 injection hv with e1 e2 e3
 subst e1 e2 e3
 refine ⟨_,_,by rw [List.length_drop],by rw [List.length_drop];omega,by omega,fun j x hx=>?_⟩
 rw [List.getElem?_drop] at hx
 obtain ⟨b',o',cs,hA,hS,hr,hc⟩:=hall _ x hx
 injection hA with hA
 cases hA
 refine ⟨_,_,cs,rfl,hS,hr,?_⟩
 rw [show o+k * E.size+j * E.size=o+(k+j) * E.size by rw [Nat.add_mul];omega]
 exact hc
theorem call_isFree1:∀ (args:Array Value) (W:World),(callFunc 201 args).run Tryz.prog W=.ok (.enter 201 args) W:=by
 intro args W
 go_simp
theorem isFree1_any {S:Nat→Prop} (o x:Span) (cs:List Value) (B:Nat) (w:World) (h:ESpan.rel S w cs o) (d0:w.cell? ⟨B,0,none⟩=some (.int .i64 x.from_)) (d1:w.cell? ⟨B,1,none⟩=some (.int .i64 x.to_)) :
 Calls Tryz.prog 201 #[.agg cs.toArray,.pointer (some ⟨B,0,none⟩)] w fun e w'=>e=.returned (.bool (laps x o))∧Ext w w':=by
 obtain ⟨rfl,_⟩:=h
 have d0':=fun ob:Obj=>Ext.some ((Ext.refl w).alloc ob) d0
 have d1':=fun ob:Obj=>Ext.some ((Ext.refl w).alloc ob) d1
 simp only [cellsSpan]
 go_enter Tryz.func201,Tryz.ntmps201
 go_wp2_with fail
 all_goals (go_ret;exact ⟨ret_bool (by unfold laps;simp_all <;> omega),(Ext.refl _).alloc _⟩)
theorem isFree_any {S:Nat→Prop} (l:List Span) (x:Span) (v:Value) (w:World) (h:Rd ESpan S w v l) :
 Calls Tryz.prog 194 #[v,.agg #[.int .i64 x.from_,.int .i64 x.to_]] w fun e w'=>e=.returned (.bool (freeOf l x))∧Ext w w':=by
 have HR:=Lib.hid h
 obtain ⟨A,c,rfl,h1,h2⟩:=h.form
 clear h
 go_enter Tryz.func194,Tryz.ntmps194
 go_upto_region 1 with (fail)
 obtain ⟨W,B,hW,hB,hx0,b0⟩:∃ W B,W=w.alloc (.cells #[.int .i64 x.from_,.int .i64 x.to_] 133)∧B=w.heap.size∧Ext w W∧Blk W B 133 #[.int .i64 x.from_,.int .i64 x.to_]:=⟨_,_,rfl,rfl,(Ext.refl w).alloc _,Blk.new _ _ _⟩
 rw [← hW,← hB]
 have B0:=Lib.hid b0
 have X0:=Lib.hid hx0
 clear hW hB hx0 b0
 go_wp2_with fail
 refine (containsFunc_Span_1 (S:=S) l (laps x) _ 201 _ _ (HR.out.ext X0.out) call_isFree1 (fun cs o w3 hx hr=>isFree1_any o x cs _ w3 hr (Ext.some hx (B0.out.cell 0)) (Ext.some hx (B0.out.cell 1)))).mono ?_
 rintro e w2 ⟨rfl,hx2⟩
 have X2:=Lib.hid (X0.out.trans hx2)
 clear hx2
 go_wp2_with fail
 go_ret
 exact ⟨ret_bool (by rw [freeOf]),X2.out⟩
end Go.Proofs.YtoblacfjmcpbmaaGreat
/- The rows of spans of nodes: the program's and the reference's. Printed by wip/noderows.py. -/
namespace Go.Proofs.YtoblacfjmcpbmaaGreat
open Go.RowKit
attribute [local irreducible] wpQuiet
theorem ow_one {α:Type} [Inhabited α] {E:Elem α} {hfl:∀ {S S':Nat→Prop} {w w':World} {cs x},E.rel S w cs x→E.rel S' w' cs x} (T:TypeId) (w:World) (cs:List Value) (x:α) (h:E.rel (fun _=>False) w cs x) :
 OwS (OFlat E hfl) T (w.alloc (.cells cs.toArray T)) (.slice (some ⟨w.heap.size,0,none⟩) 1 1) [x] [w.heap.size]:=by
 refine .inr ⟨w.heap.size,1,cs.toArray,[[]],rfl,heap_alloc_new w _,Nat.le_refl _,(by decide),?_,rfl,rfl,by simp,fun k hk=>?_⟩
 · rw [List.size_toArray,E.len h,Nat.one_mul]
 · obtain rfl:k=0:=by simpa using hk
   exact ⟨cs,⟨hfl h,rfl⟩,by rw [Nat.zero_mul];exact (Blk.new w T cs.toArray).range⟩
theorem ow_span (T:TypeId) (w:World) (x:Span) (h:FitSpan x):OwS OSpan T (w.alloc (.cells #[.int .i64 x.from_,.int .i64 x.to_] T)) (.slice (some ⟨w.heap.size,0,none⟩) 1 1) [x] [w.heap.size] :=
 ow_one (E:=ESpan) (hfl:=fun h=>h) T w [.int .i64 x.from_,.int .i64 x.to_] x (rel_Span h)
theorem whole_any (w:World):Calls Tryz.prog 171 #[] w (RetO OSpan 133 [⟨0,1000000⟩] w):=by
 go_enter Tryz.func171,Tryz.ntmps171
 go_wp2_with fail
 go_ret
 exact ⟨_,_,rfl,ow_span 133 w ⟨0,1000000⟩ (by simp [FitSpan,I64]),fun b hb=>by rw [List.mem_singleton.1 hb];exact Nat.le_refl _,(Ext.refl _).alloc _⟩
theorem rowsOf_any {S:Nat→Prop} (l:List Node) (shut:Int) (v:Value) (w:World) (h:Rd ENode S w v l) :
 Calls Tryz.prog 133 #[v,.int .i64 shut] w (RetO (ORow OSpan 133) 105 (rowsOf l shut) w):=by
 have HR:=Lib.hid h
 obtain ⟨A,c,rfl,h1,h2,hk⟩:=h.open_
 unfold maxLen at h2
 have HK:=Lib.hid hk
 clear hk h
 cases ht:nodesRight l with
 | false =>
   have HE:Hid (rowsOf l shut = []):=Lib.hid (by rw [rowsOf,ht];rfl)
   go_enter Tryz.func133,Tryz.ntmps133
   go_wp2_with (go_at_call 57;(with_reducible refine (nodesRight_any (S:=S) l _ _ HR.out).mono ?_);rintro e w1 ⟨rfl,hx1⟩;have X1:=Lib.hid hx1;clear hx1)
   go_ret
   exact ⟨_,[],rfl,by rw [HE.out];exact OwS.nil _,fun b hb=>(by cases hb),X1.out⟩
 | true =>
 have HT:=Lib.hid ht
 have HE:Hid (rowsOf l shut=l.map (rowOfNode shut)):=Lib.hid (by rw [rowsOf,if_pos ht])
 have hl:=(nodesRight_length ht).2
 rw [HE.out]
 go_enter Tryz.func133,Tryz.ntmps133
 go_wp2_with (go_at_call 57;(with_reducible refine (nodesRight_any (S:=S) l _ _ HR.out).mono ?_);rintro e w0 ⟨rfl,hx1⟩;have XX:=Lib.hid hx1;clear hx1)
 clear ht
 obtain ⟨W,B,hW,hB,hx0,b0⟩:∃ W B,W=w0.alloc (.cells #[] 105)∧B=w0.heap.size∧Ext w0 W∧Blk W B 105 #[]:=⟨_,_,rfl,rfl,(Ext.refl _).alloc _,Blk.new _ _ _⟩
 rw [← hW,← hB]
 have HB:Hid (w.heap.size≤B):=Lib.hid (by have:=XX.out.size;omega)
 have B0:=Lib.hid b0
 have X0:=Lib.hid (XX.out.trans hx0)
 clear hW hB hx0 b0
 go_loopw [5,14] (fun v i w'=>∃ (k:Nat) (F:List Nat),k≤l.length∧i=.int .i64 k∧OwS (ORow OSpan 133) 105 w' v ((l.take k).map (rowOfNode shut)) F∧(∀ b∈F,w.heap.size≤b)∧Ext w w') (fun _ i _=>l.length - (intOf i).toNat)
 case atStart=>exact ⟨0,[B],by omega,rfl,.inr ⟨B,0,#[],[],rfl,B0.out,Nat.le_refl _,Nat.zero_le _,rfl,rfl,rfl,by simp,fun k hk=>absurd hk (Nat.not_lt_zero _)⟩,fun b hb=>by rw [List.mem_singleton.1 hb];exact HB.out,X0.out⟩
 case round =>
  obtain ⟨k,F,hk1,rfl,hown,hF,hx⟩:=hrel
  have HO:=Lib.hid hown
  have HF:=Lib.hid hF
  have HX:=Lib.hid hx
  have LF:=Lib.hid hown.lt
  clear hown hF
  by_cases hlt:k < l.length
  · obtain ⟨b,q,cs,rfl,_,⟨v1,rfl,hfit,hrd⟩,hc⟩:=HK.out k hlt
    obtain ⟨A1,d1,rfl,-⟩:=hrd.form
    have c0:=Ext.some hx (hc 0 _ rfl)
    have c1:=Ext.some hx (hc 1 _ rfl)
    simp only [ENode,Nat.add_zero] at c0 c1
    have HRD:=Lib.hid (hrd.ext hx)
    have HN:=Lib.hid (nodesRight_books HT.out hlt).1
    have HM:=Lib.hid (take_map_succ (f:=rowOfNode shut) hlt)
    have ND0:=Lib.hid HO.out.nodup
    clear hc hfit hx hrd
    have X5:Hid (Ext wr (wr.alloc (.cells #[.int .i64 (nth l k).state,.slice A1 (nth l k).books.length d1] 107))):=Lib.hid ((Ext.refl _).alloc _)
    by_cases hs:shut≤(nth l k).state
    · have HY:Hid (rowOfNode shut (nth l k) = [⟨0,1000000⟩]):=Lib.hid (by rw [rowOfNode,if_pos hs])
      go_wp2_with (first | (go_at_call 171;(with_reducible refine (whole_any _).mono ?_);rintro e w1 ⟨u1,G1,rfl,q1,g1,hx1⟩;obtain ⟨p1,k1,rfl,-⟩:=OwS.form q1;have Q1:=Lib.hid q1;have X51:=Lib.hid (X5.out.trans hx1);have Z1:Hid (∀ b∈G1,wr.heap.size≤b):=Lib.hid (fun b hb=>Nat.le_trans X5.out.size (g1 b hb));have ND:Hid ((F ++ G1).Nodup):=Lib.hid (nodup_two ND0.out (OwS.nodup q1) (fun b h1 h2=>absurd (LF.out b h1) (Nat.not_lt.2 (Nat.le_trans X5.out.size (g1 b h2)))));clear q1 g1 hx1) | (at_builtin;refine wpList_append_one (O:=(ORow OSpan 133)) (T:=105) (l:=(l.take k).map (rowOfNode shut)) (F:=F) (G:=G1) (y:=rowOfNode shut (nth l k)) rfl _ _ 85 rfl (.slice none 0 0) 1 24 Tryz.underlying85 (by kernel_rfl) rfl rfl rfl (HO.out.ext (X51.out.alloc _)) _ 0 1 rfl ⟨_,rfl,by rw [HY.out];exact Q1.out.ext ((Ext.refl _).alloc _)⟩ (Blk.new _ _ _).range ND.out (by rw [List.length_map,List.length_take];omega) (by decide) ?_;intro v' w9 F' how hkp hF';have HOW:=Lib.hid how;have HKP:=Lib.hid hkp;have HFF:=Lib.hid hF';clear how hkp hF'))
      (refine ⟨⟨k+1,F',by omega,by go_num,by rw [HM.out];exact HOW.out,fun b hb=>match HFF.out b hb with | .inl h=>HF.out b h | .inr (.inl h)=>Nat.le_trans HX.out.size (Z1.out b h) | .inr (.inr h)=>Nat.le_trans ((HX.out.trans X51.out).alloc _).size h,HKP.out.ext ((HX.out.trans X51.out).alloc _) HF.out⟩,?_⟩;simp [intOf];omega)
    · have HY:Hid (rowOfNode shut (nth l k)=(nth l k).books):=Lib.hid (by rw [rowOfNode,if_neg hs])
      have hs':(nth l k).state < shut:=by omega
      clear hs
      go_wp2_with (first | (go_at_call 121;(with_reducible refine (cloneSpan_any (S:=S) (nth l k).books _ _ (HRD.out.ext X5.out) (by have:=HN.out;omega)).mono ?_);rintro e w1 ⟨u1,G1,rfl,q1,g1,hx1⟩;obtain ⟨p1,k1,rfl,-⟩:=OwS.form q1;have Q1:=Lib.hid q1;have X51:=Lib.hid (X5.out.trans hx1);have Z1:Hid (∀ b∈G1,wr.heap.size≤b):=Lib.hid (fun b hb=>Nat.le_trans X5.out.size (g1 b hb));have ND:Hid ((F ++ G1).Nodup):=Lib.hid (nodup_two ND0.out (OwS.nodup q1) (fun b h1 h2=>absurd (LF.out b h1) (Nat.not_lt.2 (Nat.le_trans X5.out.size (g1 b h2)))));clear q1 g1 hx1) | (at_builtin;refine wpList_append_one (O:=(ORow OSpan 133)) (T:=105) (l:=(l.take k).map (rowOfNode shut)) (F:=F) (G:=G1) (y:=rowOfNode shut (nth l k)) rfl _ _ 85 rfl (.slice none 0 0) 1 24 Tryz.underlying85 (by kernel_rfl) rfl rfl rfl (HO.out.ext (X51.out.alloc _)) _ 0 1 rfl ⟨_,rfl,by rw [HY.out];exact Q1.out.ext ((Ext.refl _).alloc _)⟩ (Blk.new _ _ _).range ND.out (by rw [List.length_map,List.length_take];omega) (by decide) ?_;intro v' w9 F' how hkp hF';have HOW:=Lib.hid how;have HKP:=Lib.hid hkp;have HFF:=Lib.hid hF';clear how hkp hF'))
      (refine ⟨⟨k+1,F',by omega,by go_num,by rw [HM.out];exact HOW.out,fun b hb=>match HFF.out b hb with | .inl h=>HF.out b h | .inr (.inl h)=>Nat.le_trans HX.out.size (Z1.out b h) | .inr (.inr h)=>Nat.le_trans ((HX.out.trans X51.out).alloc _).size h,HKP.out.ext ((HX.out.trans X51.out).alloc _) HF.out⟩,?_⟩;simp [intOf];omega)
  · obtain rfl:k=l.length:=by omega
    go_wp2_with fail
    go_ret
    exact ⟨_,F,rfl,by have h:=HO.out;rw [List.take_length] at h;exact h,HF.out,HX.out⟩
theorem rowsNew_any {S:Nat→Prop} (l:List Node) (v:Value) (w:World) (h:Rd ENode S w v l) :
 Calls Tryz.prog 94 #[v] w (RetO (ORow OSpan 133) 105 (rowsOf l 2) w):=by
 obtain ⟨A,c,rfl,-⟩:=h.form
 have HR:=Lib.hid h
 clear h
 go_enter Tryz.func94,Tryz.ntmps94
 go_wp2_with fail
 refine (rowsOf_any (S:=S) l 2 _ _ HR.out).mono ?_
 rintro e w1 ⟨u1,G1,rfl,q1,g1,hx1⟩
 go_wp2_with fail
 go_ret
 exact ⟨_,G1,rfl,q1,g1,hx1⟩
theorem rowsHard_any {S:Nat→Prop} (l:List Node) (v:Value) (w:World) (h:Rd ENode S w v l) :
 Calls Tryz.prog 95 #[v] w (RetO (ORow OSpan 133) 105 (rowsOf l 3) w):=by
 obtain ⟨A,c,rfl,-⟩:=h.form
 have HR:=Lib.hid h
 clear h
 go_enter Tryz.func95,Tryz.ntmps95
 go_wp2_with fail
 refine (rowsOf_any (S:=S) l 3 _ _ HR.out).mono ?_
 rintro e w1 ⟨u1,G1,rfl,q1,g1,hx1⟩
 go_wp2_with fail
 go_ret
 exact ⟨_,G1,rfl,q1,g1,hx1⟩
end Go.Proofs.YtoblacfjmcpbmaaGreat
