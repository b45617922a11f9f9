/- What each type of data has for itself in memory. Printed by wip/gen2.py. slices.Clone at the types that lead to no memory. -/
import Derived.Test.YtlonjlaecaemgaaOwn
import Derived.Test.YtlonjlaecaemgaaRows
import Derived.Lib.LazyBuf
import Derived.Test.YtlonjlaecaemgaaSmall
import Derived.Test.YtlonjlaecaemgaaOwn2
import Derived.Deep.RegionHeld3
namespace Go.Proofs.Ytlonjlaecaemgaa
open Go.RowKit
def OInt:Own EInt:=OFlat EInt fun h=>h
def OTask:Own ETask where
 own:=fun w cs x F=>∃ v1,cs=cellsTask x v1∧FitTask x∧OwS OInt 2 w v1 x.nodes F
 rel:=by rintro _ _ _ _ ⟨v1,rfl,hf,h1⟩;exact ⟨_,rfl,hf,h1.rd⟩
 keep:=by rintro _ _ _ _ _ hb ⟨v1,rfl,hf,h1⟩;exact ⟨_,rfl,hf,h1.keep hb⟩
 lt:=by rintro _ _ _ _ ⟨_,rfl,_,h1⟩;exact h1.lt
 nodup:=by rintro _ _ _ _ ⟨_,rfl,_,h1⟩;exact h1.nodup
def OTaskOut:Own ETaskOut where
 own:=fun w cs x F=>∃ v1,cs=cellsTaskOut x v1∧FitTaskOut x∧OwS OInt 2 w v1 x.task.nodes F
 rel:=by rintro _ _ _ _ ⟨v1,rfl,hf,h1⟩;exact ⟨_,rfl,hf,h1.rd⟩
 keep:=by rintro _ _ _ _ _ hb ⟨v1,rfl,hf,h1⟩;exact ⟨_,rfl,hf,h1.keep hb⟩
 lt:=by rintro _ _ _ _ ⟨_,rfl,_,h1⟩;exact h1.lt
 nodup:=by rintro _ _ _ _ ⟨_,rfl,_,h1⟩;exact h1.nodup
end Go.Proofs.Ytlonjlaecaemgaa
namespace Go.Proofs.Ytlonjlaecaemgaa
open Go.RowKit
attribute [local irreducible] wpQuiet
set_option maxHeartbeats 1000000 in
set_option maxRecDepth 100000 in
theorem cloneInt_any {S:Nat→Prop} (l:List Int) (v:Value) (w:World) (h:Rd EInt S w v l) (hl:l.length≤1000000000) :
 Calls Try.prog 78 #[v] w (RetO OInt 2 l w):=by
 have HR:=Lib.hid h
 obtain ⟨A,c,rfl,h1,h2,hk⟩:=h.open_
 unfold maxLen at h2
 have HK:=Lib.hid hk
 have HL:=Lib.hid hl
 clear hk h hl
 have hnil:=fun (W:World) (a:Option Addr) (n c:Nat)=>Go.Lib.run_eql_slice_nil (P:=Try.prog) W 25 2 a n c 0 0 Try.underlying25
 cases A with
 | none =>
   obtain rfl:l = []:=by
    rcases Nat.eq_zero_or_pos l.length with h0 | h0
    · exact List.eq_nil_of_length_eq_zero h0
    · obtain ⟨_,_,_,h',_⟩:=HK.out 0 h0
      cases h'
   go_enter Try.func78,Try.ntmps78
   go_wp2_with fail
   go_ret
   exact ⟨_,[],rfl,OwS.nil _,fun b hb=>(by cases hb),Ext.refl _⟩
 | some a =>
   obtain ⟨B,o,sp⟩:=a
   go_enter Try.func78,Try.ntmps78
   go_wp2_with (at_builtin;refine wpList_append_flat (E:=EInt) (T:=2) (hfl:=fun h=>h) (l:=[]) (ys:=l) (F:=[]) (S:=S) rfl _ _ 25 rfl (.int .i64 0) 1 8 Try.underlying25 (by kernel_rfl) rfl rfl rfl ?ow rfl ?rd ?b1 ?b2 ?_;rotate_right;intro v' w1 F' how hkp hF';have HOW:=Lib.hid how;have HKP:=Lib.hid hkp;have HFF:=Lib.hid hF';clear how hkp hF')
   case ow=>exact OwS.nil _
   case rd=>exact HR.out.ext ((Ext.refl _).alloc _)
   case b1=>have:=HL.out;simp only [List.length_nil,maxLen];omega
   case b2=>have:=HL.out;simp only [List.length_nil];omega
   go_ret
   exact ⟨_,F',rfl,HOW.out,fun b hb=>(by rcases HFF.out b hb with h | h;cases h;exact Nat.le_trans ((Ext.refl w).alloc _).size h),HKP.out.ext ((Ext.refl _).alloc _) (fun b hb=>by cases hb)⟩
end Go.Proofs.Ytlonjlaecaemgaa
/- What the functions on nodes compute,in plain Lean. Small functions on nodes. Copies of nodes,with reservations of their own. Printed by wip/nodec.py. -/
namespace Go.Proofs.Ytlonjlaecaemgaa
open Go.RowKit
end Go.Proofs.Ytlonjlaecaemgaa
namespace Go.Proofs.Ytlonjlaecaemgaa
open Go.RowKit
attribute [local irreducible] wpQuiet
theorem range_back {w:World} {B o:Nat} {a b b':List Value} (h:w.rangeAt B o (a ++ b)) (ht:w.there B (o+a.length) b'.length):(w.setCells B (o+a.length) b').rangeAt B o (a ++ b'):=by
 intro j u hj
 by_cases hlt:j < a.length
 · rw [World.cell?_setCells_out B b' (o+a.length) w ⟨B,o+j,none⟩ (fun _ _=>by simp only;omega)]
   rw [List.getElem?_append_left hlt] at hj
   exact h j u (by rw [List.getElem?_append_left hlt];exact hj)
 · rw [List.getElem?_append_right (by omega)] at hj
   have:=World.rangeAt_setCells_same w B (o+a.length) b' ht (j - a.length) u hj
   rwa [show o+a.length+(j - a.length)=o+j by omega] at this
theorem there_ext {w w':World} {B o n:Nat} (h:w.there B o n) (hx:Ext w w') (hB:B < w.heap.size):w'.there B o n:=fun j hj=>by
 rw [hx.cells B (o+j) hB,hx.frozens B (o+j) hB]
 exact h j hj
theorem there_sub {w:World} {B o n m:Nat} {i:Nat} (h:w.there B o n) (hi:i+m≤n):w.there B (o+i) m:=fun j hj=>by
 have:=h (i+j) (by omega)
 rwa [← Nat.add_assoc] at this
theorem blk_lt_of {T:TypeId} {B o n:Nat} {w w':World} (h:RowBut T B o n w w'):B < w.heap.size:=by
 obtain ⟨_,_,g,_⟩:=h
 exact blk_lt g
end Go.Proofs.Ytlonjlaecaemgaa
namespace Go.Proofs.Ytlonjlaecaemgaa
open Go.RowKit
attribute [local irreducible] wpQuiet
end Go.Proofs.Ytlonjlaecaemgaa
