/- Lists whose elements bear numbers in a row; in plain Lean. One element of a row is given other memory of its own; the first elements of a row that lies in memory of its own. No program in sight. -/
import Derived.Test.YtoblacfjmcpbmaaGreatOwn
import Derived.Test.YtoblacfjmcpbmaaGreatNodes
import Derived.Test.YtoblacfjmcpbmaaGreatGYardT
import Derived.Deep.RegionHeld3
namespace Go.Proofs.YtoblacfjmcpbmaaGreat
open Go.RowKit
section
variable {α:Type}
variable {m:Int→α→α} {n:α→Nat}
end
end Go.Proofs.YtoblacfjmcpbmaaGreat
namespace Go.Proofs.YtoblacfjmcpbmaaGreat
open Go.RowKit
theorem take_map_succ {α β:Type} [Inhabited α] {f:α→β} {l:List α} {k:Nat} (hk:k < l.length):(l.take (k+1)).map f=(l.take k).map f ++ [f (nth l k)]:=by
 rw [List.take_succ_eq_append_getElem hk,List.map_append,nth_eq hk];rfl
theorem take_succ_nth {α:Type} [Inhabited α] {l:List α} {k:Nat} (hk:k < l.length):l.take (k+1)=l.take k ++ [nth l k]:=by
 rw [List.take_succ_eq_append_getElem hk,nth_eq hk]
theorem nodup_flatten_set {n:Nat} {G:List Nat} (hG:G.Nodup):∀ {l:List (List Nat)} {k:Nat},k < l.length→l.flatten.Nodup→(∀ b∈l.flatten,b < n)→(∀ b∈G,b∈nth l k∨n≤b)→(l.set k G).flatten.Nodup∧(∀ b∈(l.set k G).flatten,b∈l.flatten∨n≤b)
 | x :: l,0,_,hn,hl,hg=>by
   rw [List.set_cons_zero,List.flatten_cons]
   rw [List.flatten_cons,List.nodup_append] at hn
   have hg':∀ b∈G,b∈x∨n≤b:=fun b hb=>by simpa [nth] using hg b hb
   refine ⟨List.nodup_append.2 ⟨hG,hn.2.1,fun a ha b hb e=>?_⟩,fun b hb=>?_⟩
   · subst e
     rcases hg' a ha with h | h
     · exact hn.2.2 a h a hb rfl
     · have:=hl a (by rw [List.flatten_cons];exact List.mem_append_right _ hb);omega
   · rw [List.flatten_cons]
     rcases List.mem_append.1 hb with hb | hb
     · rcases hg' b hb with h | h
       · exact .inl (List.mem_append_left _ h)
       · exact .inr h
     · exact .inl (List.mem_append_right _ hb)
 | x :: l,k+1,hk,hn,hl,hg=>by
   rw [List.set_cons_succ,List.flatten_cons]
   rw [List.flatten_cons,List.nodup_append] at hn
   have hk':k < l.length:=by simpa using hk
   obtain ⟨h1,h2⟩:=nodup_flatten_set hG (l:=l) (k:=k) hk' hn.2.1 (fun b hb=>hl b (by rw [List.flatten_cons];exact List.mem_append_right _ hb)) (fun b hb=>by simpa [nth] using hg b hb)
   refine ⟨List.nodup_append.2 ⟨hn.1,h1,fun a ha b hb e=>?_⟩,fun b hb=>?_⟩
   · subst e
     rcases h2 a hb with h | h
     · exact hn.2.2 a ha a h rfl
     · have:=hl a (by rw [List.flatten_cons];exact List.mem_append_left _ ha);omega
   · rw [List.flatten_cons]
     rcases List.mem_append.1 hb with hb | hb
     · exact .inl (List.mem_append_left _ hb)
     · rcases h2 b hb with h | h
       · exact .inl (List.mem_append_right _ h)
       · exact .inr h
section
variable {α:Type} [Inhabited α] {E:Elem α} {O:Own E} {T:TypeId} {w:World} {l:List α} {v:Value} {F:List Nat}
theorem OwS.at2 (h:OwS O T w v l F) {k:Nat} (hk:k < l.length):∃ B c G cs,v=.slice (some ⟨B,0,none⟩) l.length c∧l.length≤c∧c≤maxLen∧B∈F∧B∉G∧(∀ b∈G,b∈F)∧O.own w cs (nth l k) G∧w.rangeAt B (k * E.size) cs∧(∀ i,w.frozen? ⟨B,i,none⟩=false)∧w.there B (k * E.size) E.size∧RowBut T B (k * E.size) E.size w w ∧
 ∀ w' x' cs' G',Kept (B :: G) w w'→RowBut T B (k * E.size) E.size w w'→O.own w' cs' x' G'→(∀ b∈G',b∈G∨w.heap.size≤b)→w'.rangeAt B (k * E.size) cs'→∃ F',OwS O T w' v (l.set k x') F'∧∀ b∈F',b∈F∨w.heap.size≤b:=by
 have hlt:=h.lt
 rcases h with ⟨rfl,_⟩ | ⟨B,c,C,Fs,rfl,hB,h1,h2,h3,hl,rfl,hn,hall⟩
 · simp at hk
 · obtain ⟨cs,ho,hc⟩:=hall k hk
   have hBn:=(List.nodup_cons.1 hn).1
   have hin:k * E.size+E.size≤C.size:=by rw [h3,← Nat.succ_mul];exact Nat.mul_le_mul_right _ (by omega)
   refine ⟨B,c,nth Fs k,cs,rfl,h1,h2,List.mem_cons_self ..,fun hb=>hBn (nth_mem_flatten (by omega) hb),fun b hb=>List.mem_cons_of_mem _ (nth_mem_flatten (by omega) hb),ho,hc,cells_frozen hB,cells_there hB hin,RowBut.refl hB,fun w' x' cs' G' hkp hrow ho' hG' hc'=>?_⟩
   obtain ⟨C0,C',g1,g2,g3,g4⟩:=hrow
   rw [hB] at g1
   cases g1
   obtain ⟨n1,n2⟩:=nodup_flatten_set (n:=w.heap.size) (O.nodup ho') (l:=Fs) (k:=k) (by omega) (List.nodup_cons.1 hn).2 (fun b hb=>hlt b (List.mem_cons_of_mem _ hb)) hG'
   refine ⟨B :: (Fs.set k G').flatten,.inr ⟨B,c,C',Fs.set k G',by rw [List.length_set],g2,by rw [List.length_set];exact h1,h2,by rw [g3,h3],by rw [List.length_set,List.length_set];exact hl,rfl,List.nodup_cons.2 ⟨fun hm=>?_,n1⟩,fun j hj=>?_⟩,fun b hb=>?_⟩
   · rcases n2 B hm with h | h
     · exact hBn h
     · have:=blk_lt hB;omega
   · rw [List.length_set] at hj
     by_cases e:j=k
     · subst e
       exact ⟨cs',by rw [nth_set_eq hk,nth_set_eq (by omega)];exact ho',hc'⟩
     · obtain ⟨ds,hd,hdc⟩:=hall j hj
       rw [nth_set_ne e hj,nth_set_ne e (by omega)]
       refine ⟨ds,O.keep (fun b hb=>hkp.block b (O.lt hd b hb) fun hm=>?_) hd,fun i u hi=>?_⟩
       · rcases List.mem_cons.1 hm with rfl | hm
         · exact hBn (nth_mem_flatten (by omega) hb)
         · exact e (nodup_flatten_disj (List.nodup_cons.1 hn).2 (by omega) (by omega) hb hm)
       · have hil:i < E.size:=by have:=(List.getElem?_eq_some_iff.1 hi).1;rwa [E.len (O.rel hd)] at this
         have hcell:=hdc i u hi
         rw [cell_of_row w B _ C T (0,0) hB] at hcell
         rw [cell_of_row w' B _ C' T (0,0) g2,g4 _ ?_]
         · exact hcell
         · rcases Nat.lt_or_ge j k with hjk | hjk
           · left
             exact Nat.lt_of_lt_of_le (Nat.add_lt_add_left hil _) (by rw [← Nat.succ_mul];exact Nat.mul_le_mul_right _ hjk)
           · right
             have:k * E.size+E.size≤j * E.size:=by rw [← Nat.succ_mul];exact Nat.mul_le_mul_right _ (by omega)
             omega
   · rcases List.mem_cons.1 hb with rfl | hb
     · exact .inl (List.mem_cons_self ..)
     · rcases n2 b hb with h | h
       · exact .inl (List.mem_cons_of_mem _ h)
       · exact .inr h
theorem OwS.take {n:Nat} (h:OwS O T w v l F) (hn:n≤l.length):∀ A c,v=.slice A l.length c→∃ F',OwS O T w (.slice A n c) (l.take n) F'∧∀ b∈F',b∈F:=by
 rintro A c rfl
 rcases h with ⟨rfl,rfl,A',hv⟩ | ⟨B,c',C,Fs,hv,hB,h1,h2,h3,hl,rfl,hnd,hall⟩
 · cases hv
   obtain rfl:n=0:=by simpa using hn
   exact ⟨[],by simpa using OwS.nil A,fun b hb=>hb⟩
 · cases hv
   have hlen:(l.take n).length=n:=by rw [List.length_take];omega
   refine ⟨B :: (Fs.take n).flatten,.inr ⟨B,c,C,Fs.take n,by rw [hlen],hB,by rw [hlen];omega,h2,h3,by rw [hlen,List.length_take];omega,rfl,?_,fun k hk=>?_⟩,fun b hb=>?_⟩
   · have e:Fs.flatten=(Fs.take n).flatten ++ (Fs.drop n).flatten:=by rw [← List.flatten_append,List.take_append_drop]
     rw [e] at hnd
     obtain ⟨h1',h2'⟩:=List.nodup_cons.1 hnd
     exact List.nodup_cons.2 ⟨fun hm=>h1' (List.mem_append_left _ hm),(List.nodup_append.1 h2').1⟩
   · rw [hlen] at hk
     obtain ⟨cs,ho,hc⟩:=hall k (by omega)
     have e1:nth (l.take n) k=nth l k:=by rw [nth_eq (by omega),nth_eq (by omega)];simp
     have e2:nth (Fs.take n) k=nth Fs k:=by rw [nth_eq (by rw [List.length_take];omega),nth_eq (by omega)];simp
     exact ⟨cs,by rw [e1,e2];exact ho,hc⟩
   · rcases List.mem_cons.1 hb with rfl | hb
     · exact List.mem_cons_self ..
     · obtain ⟨G,hG,hb⟩:=List.mem_flatten.1 hb
       exact List.mem_cons_of_mem _ (List.mem_flatten.2 ⟨G,List.mem_of_mem_take hG,hb⟩)
end
section
variable {α:Type} [Inhabited α] {E:Elem α} {O:Own E} {T:TypeId} {w:World} {l ys:List α} {P:Program}
theorem step_append_one {ops:Array Oper} {o:Oper} {a:Act} {K:Act→World→Prop} {Q:Exit→Act→World→Prop} {X:Prop} (hgd:o.guard=none) (s x:Operand) (t:TypeId)
 (ho:o.op=.call { callee:=.builtin .append,args:=#[s,x],argTypes:=#[t,t] })
 {v:Value} {F G:List Nat} {y:α} {cs:List Value} (z:Value) (size bytes:Nat) (ht:P.underlying t=some (.slice T)) (hi:(P.info? T).map (fun i=>(i.zero,i.size,i.bytes))=some (some z,size,bytes)) (hsz:size=E.size) (hzs:z.cells.size=E.size)
 (hs:a.eval s=v) (hown:OwS O T w v l F) (Bs os c:Nat) (hx:a.eval x=.slice (some ⟨Bs,os,none⟩) 1 c) (hy:O.own w cs y G) (hr:w.rangeAt Bs os cs) (hnd:(F ++ G).Nodup)
 (hlen:l.length≤1000000000) (hb:bytes≤1000)
 (h:∀ v' w' F',OwS O T w' v' (l ++ [y]) F'→Kept F w w'→(∀ b∈F',b∈F∨b∈G∨w.heap.size≤b)→K (a.put o.dst v') w'):if Region.wanted o (yielded ops a.tmps)=true then Oper.wp P o a w K Q else X:=by
 have hw:Region.wanted o (yielded ops a.tmps)=true:=by simp [Region.wanted,hgd]
 rw [if_pos hw]
 exact wp_append_ow (ys:=[y]) (Gs:=[G]) s x t ho z size bytes ht hi hsz hzs hs hown Bs os c hx rfl
  (fun k hk=>by
    obtain rfl:k=0:=by simpa using hk
    exact ⟨cs,hy,by rw [Nat.zero_mul,Nat.add_zero];exact hr⟩) (by simpa using hnd) (fun b hb=>O.lt hy b (by simpa using hb)) (by unfold maxLen;simp only [List.length_cons,List.length_nil];omega)
  (by simp only [List.length_cons,List.length_nil];exact Nat.le_trans (Nat.mul_le_mul (by omega:l.length+(0+1)≤1000000001) hb) (by decide)) fun v' w' F' g1 g2 g3=>h v' w' F' g1 g2 fun b hb=>by simpa using g3 b hb
end
section
variable {α:Type} [Inhabited α] {E:Elem α} {T:TypeId} {w:World} {l ys:List α} {P:Program} {hfl:∀ {S S':Nat→Prop} {w w':World} {cs x},E.rel S w cs x→E.rel S' w' cs x}
end
end Go.Proofs.YtoblacfjmcpbmaaGreat
/- What the functions on nodes compute,in plain Lean. Small functions on nodes. Copies of nodes,with reservations of their own. Printed by wip/nodec.py. -/
namespace Go.Proofs.YtoblacfjmcpbmaaGreat
open Go.RowKit
def rowOfNode (shut:Int) (x:Node):List Span:=if shut≤x.state then [⟨0,1000000⟩] else x.books
def rowsOf (l:List Node) (shut:Int):List (List Span):=if nodesRight l=true then l.map (rowOfNode shut) else []
def passed (now:Int) (x:Span):Bool:=decide (now < x.to_)
def passNode (now:Int) (x:Node):Node:={ x with books:=x.books.filter (passed now) }
def booksPass (l:List Node) (now:Int):List Node:=if nodesRight l=true then l.map (passNode now) else []
def nodesNew (n:Int):List Node:=if isB n 1 6=true then List.replicate n.toNat ⟨1,[]⟩ else []
def isNode (l:List Node) (n:Int):Bool:=isB n 0 ((l.length:Int) - 1)
def bookAt (l:List Span) (from_:Int):Int:=idxOf (fun x=>decide (x.from_=from_)) l
def bookCut (l:List Node) (n from_:Int):NodesOut :=
 if 400 < l.length then ⟨[],2⟩ else if nodesRight l=false then ⟨[],1⟩ else if isNode l n=false then ⟨[],6⟩ else if bookAt (nth l n.toNat).books from_ < 0 then ⟨[],6⟩
 else ⟨l.set n.toNat { nth l n.toNat with books:=(nth l n.toNat).books.filter fun x=>!decide (x.from_=from_) },0⟩
theorem nodesRight_length {l:List Node} (h:nodesRight l=true):1≤l.length∧l.length≤6:=by
 simp only [nodesRight,Bool.and_eq_true] at h
 have:=isB_true h.1
 omega
theorem nodesRight_node {l:List Node} (h:nodesRight l=true) {k:Nat} (hk:k < l.length):nodeOk (nth l k)=true:=by
 simp only [nodesRight,Bool.and_eq_true,List.all_eq_true] at h
 exact h.2 _ (nth_mem hk)
theorem nodesRight_books {l:List Node} (h:nodesRight l=true) {k:Nat} (hk:k < l.length):(nth l k).books.length≤4∧spansRight (nth l k).books=true:=by
 have:=nodesRight_node h hk
 simp only [nodeOk,Bool.and_eq_true,decide_eq_true_eq] at this
 exact this.2
end Go.Proofs.YtoblacfjmcpbmaaGreat
namespace Go.Proofs.YtoblacfjmcpbmaaGreat
open Go.RowKit
attribute [local irreducible] wpQuiet
theorem range_back {w:World} {B o:Nat} {a b b':List Value} (h:w.rangeAt B o (a ++ b)) (ht:w.there B (o+a.length) b'.length):(w.setCells B (o+a.length) b').rangeAt B o (a ++ b'):=by
 intro j u hj
 by_cases hlt:j < a.length
 · rw [World.cell?_setCells_out B b' (o+a.length) w ⟨B,o+j,none⟩ (fun _ _=>by simp only;omega)]
   rw [List.getElem?_append_left hlt] at hj
   exact h j u (by rw [List.getElem?_append_left hlt];exact hj)
 · rw [List.getElem?_append_right (by omega)] at hj
   have:=World.rangeAt_setCells_same w B (o+a.length) b' ht (j - a.length) u hj
   rwa [show o+a.length+(j - a.length)=o+j by omega] at this
theorem there_ext {w w':World} {B o n:Nat} (h:w.there B o n) (hx:Ext w w') (hB:B < w.heap.size):w'.there B o n:=fun j hj=>by
 rw [hx.cells B (o+j) hB,hx.frozens B (o+j) hB]
 exact h j hj
theorem there_sub {w:World} {B o n m:Nat} {i:Nat} (h:w.there B o n) (hi:i+m≤n):w.there B (o+i) m:=fun j hj=>by
 have:=h (i+j) (by omega)
 rwa [← Nat.add_assoc] at this
theorem blk_lt_of {T:TypeId} {B o n:Nat} {w w':World} (h:RowBut T B o n w w'):B < w.heap.size:=by
 obtain ⟨_,_,g,_⟩:=h
 exact blk_lt g
end Go.Proofs.YtoblacfjmcpbmaaGreat
namespace Go.Proofs.YtoblacfjmcpbmaaGreat
open Go.RowKit
attribute [local irreducible] wpQuiet
set_option maxHeartbeats 8000000 in
set_option maxRecDepth 100000 in
theorem copyNodes_any {S:Nat→Prop} (l:List Node) (v:Value) (w:World) (h:Rd ENode S w v l) (hl:l.length≤1000000) (hs:∀ k,k < l.length→(nth l k).books.length≤1000000000) :
 Calls Tryz.prog 70 #[v] w (RetO ONode 107 l w):=by
 obtain ⟨A,c,rfl,h1,h2,hk⟩:=h.open_
 unfold maxLen at h2
 have HK:=Lib.hid hk
 have HS:=Lib.hid hs
 clear hk h hs
 go_enter Tryz.func70,Tryz.ntmps70
 go_wp2_with fail
 obtain ⟨W,B,hW,hB,hx0,b0⟩:∃ W B,W=w.alloc (.cells #[] 107)∧B=w.heap.size∧Ext w W∧Blk W B 107 #[]:=⟨_,_,rfl,rfl,(Ext.refl w).alloc _,Blk.new _ _ _⟩
 rw [← hW,← hB]
 have HB:Hid (w.heap.size≤B):=Lib.hid (by omega)
 have B0:=Lib.hid b0
 have X0:=Lib.hid hx0
 clear hW hB hx0 b0
 go_loopw [3,9] (fun v i w'=>∃ (k:Nat) (F:List Nat),k≤l.length∧i=.int .i64 k∧OwS ONode 107 w' v (l.take k) F∧(∀ b∈F,w.heap.size≤b)∧Ext w w') (fun _ i _=>l.length - (intOf i).toNat)
 case atStart=>exact ⟨0,[B],by omega,rfl,.inr ⟨B,0,#[],[],rfl,B0.out,Nat.le_refl _,Nat.zero_le _,rfl,rfl,rfl,by simp,fun k hk=>absurd hk (Nat.not_lt_zero _)⟩,fun b hb=>by rw [List.mem_singleton.1 hb];exact HB.out,X0.out⟩
 case round =>
  obtain ⟨k,F,hk1,rfl,hown,hF,hx⟩:=hrel
  have HO:=Lib.hid hown
  have HF:=Lib.hid hF
  have HX:=Lib.hid hx
  have LF:=Lib.hid hown.lt
  clear hown hF
  by_cases hlt:k < l.length
  · obtain ⟨b,q,cs,rfl,_,⟨v1,rfl,hfit,hrd⟩,hc⟩:=HK.out k hlt
    obtain ⟨A1,d1,rfl,-⟩:=hrd.form
    have HBL:Hid (b < w.heap.size):=Lib.hid (World.block_lt_of_cell? w _ (hc 0 _ rfl))
    have c0:=Ext.some hx (hc 0 _ rfl)
    have c1:=Ext.some hx (hc 1 _ rfl)
    simp only [ENode,Nat.add_zero] at c0 c1
    have HFit:=Lib.hid hfit
    have HRD:=Lib.hid (hrd.ext hx)
    have HN:=Lib.hid (HS.out k hlt)
    have HT:=Lib.hid (take_succ_nth hlt)
    have ND0:=Lib.hid HO.out.nodup
    clear hc hfit hx hrd
    go_wp2_with fail
    obtain ⟨W5,B5,hW5,hB5,hx5,b5⟩:∃ W B,W=wr.alloc (.cells #[.int .i64 (nth l k).state,.slice A1 (nth l k).books.length d1] 107)∧B=wr.heap.size∧Ext wr W∧Blk W B 107 #[.int .i64 (nth l k).state,.slice A1 (nth l k).books.length d1]:=⟨_,_,rfl,rfl,(Ext.refl _).alloc _,Blk.new _ _ _⟩
    rw [← hW5,← hB5]
    have hnF:B5∉F:=fun hb=>by have:=LF.out _ hb;omega
    have X5:=Lib.hid hx5
    have al0:∀ V,Kept F W5 V→V.cell? ⟨B5,0,none⟩=some (.int .i64 (nth l k).state):=fun V hV=>hV.cell hnF (b5.cell 0)
    have al1:∀ V,Kept F W5 V→V.cell? ⟨B5,1,none⟩=some (.slice A1 (nth l k).books.length d1):=fun V hV=>hV.cell hnF (b5.cell 1)
    clear hW5 hB5 hx5 b5 c0 c1
    go_region_held3 (fun w'=>Kept F W5 w') (first | exact Kept.refl _ _ | exact Kept.of_ext (Ext.refl _).drew | assumption | exact Kept.trans (by assumption) (Kept.of_ext ((Ext.refl _).alloc _)) | exact Kept.trans (by assumption) (Kept.of_ext X1.out) | exact Kept.trans (by assumption) HKP.out | exact Kept.trans (by assumption) (Kept.of_ext (Ext.refl _).drew)) (first | (go_at_call 121;(with_reducible refine (cloneSpan_any (S:=S) (nth l k).books _ _ (HRD.out.ext (by repeat (first | with_reducible exact X5.out | refine Ext.drew ?_ | refine Ext.alloc ?_ _))) HN.out).mono ?_);rintro e w1 ⟨u1,G1,rfl,q1,g1,hx1⟩;obtain ⟨p1,k1,rfl,-⟩:=OwS.form q1;have X1:=Lib.hid hx1;have X51:Hid (Ext wr w1):=Lib.hid (Ext.trans (by repeat (first | with_reducible exact X5.out | refine Ext.drew ?_ | refine Ext.alloc ?_ _)) hx1);have Q1:=Lib.hid q1;have Z1:Hid (∀ b∈G1,wr.heap.size≤b):=Lib.hid (fun b hb=>Nat.le_trans (Ext.size (by repeat (first | with_reducible exact X5.out | refine Ext.drew ?_ | refine Ext.alloc ?_ _))) (g1 b hb));have ND:Hid ((F ++ G1).Nodup):=Lib.hid (nodup_two ND0.out (OwS.nodup q1) (fun b h1 h2=>absurd (LF.out b h1) (Nat.not_lt.2 (Nat.le_trans (Ext.size (by repeat (first | with_reducible exact X5.out | refine Ext.drew ?_ | refine Ext.alloc ?_ _))) (g1 b h2)))));clear q1 g1 hx1) | (refine step_append_one (O:=ONode) (T:=107) (l:=l.take k) (F:=F) (G:=G1) (y:=nth l k) (by rfl) _ _ 31 (by rfl) (.agg #[.int .i64 0,.slice none 0 0]) 2 32 Tryz.underlying31 (by kernel_rfl) rfl rfl (by rfl) (HO.out.ext (by repeat (first | with_reducible exact X51.out | refine Ext.drew ?_ | refine Ext.alloc ?_ _))) _ 0 1 (by rfl) ⟨.slice p1 (nth l k).books.length k1,by simp [cellsNode],HFit.out,Q1.out.ext (by repeat (first | with_reducible exact (Ext.refl w1) | refine Ext.drew ?_ | refine Ext.alloc ?_ _))⟩ (Blk.new _ _ _).range ND.out (by rw [List.length_take];omega) (by decide) ?_;intro v' w9 F' how hkp hF';have HOW:=Lib.hid how;have HKP:=Lib.hid hkp;have HFF:=Lib.hid hF';clear how hkp hF'))
    clear al0 al1
    go_wp2_with fail
    refine ⟨⟨k+1,F',by omega,by go_num,by rw [HT.out];exact HOW.out,fun b hb=>match HFF.out b hb with | .inl h=>HF.out b h | .inr (.inl h)=>Nat.le_trans HX.out.size (Z1.out b h) | .inr (.inr h)=>Nat.le_trans (Nat.le_trans HX.out.size X51.out.size) (Nat.le_trans (Ext.size (by first | exact Ext.refl _ | exact (Ext.refl _).alloc _ | exact ((Ext.refl _).drew).alloc _)) h),Kept.ext (HX.out.trans X5.out) (by assumption) HF.out⟩,?_⟩
    simp [intOf]
    omega
  · obtain rfl:k=l.length:=by omega
    go_wp2_with fail
    go_ret
    exact ⟨_,F,rfl,by have h:=HO.out;rw [List.take_length] at h;exact h,HF.out,HX.out⟩
end Go.Proofs.YtoblacfjmcpbmaaGreat
