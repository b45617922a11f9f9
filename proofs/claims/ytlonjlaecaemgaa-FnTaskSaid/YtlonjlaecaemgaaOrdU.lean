/- The walks of compareUses, ownersOf, l09Ord and l11Less. -/
import Derived.Test.YtlonjlaecaemgaaCmp
import Derived.Test.YtlonjlaecaemgaaShelf
import Derived.Test.YtlonjlaecaemgaaLabels
import Derived.Lib.Bytealg
import Derived.Sort.Statements
namespace Go.Proofs.Ytlonjlaecaemgaa
open Go.RowKit
attribute [local irreducible] wpQuiet
theorem l09Ord_any (l s:Int) (w:World) (hl:isB l 0 3=true) (hs:isB s 0 7=true) :
 Calls Try.prog 57 #[.agg #[.int .i64 l,.int .i64 s]] w fun e w'=>e=.returned (.int .i64 (8 * l+s))∧Ext w w':=by
 simp only [isB,decide_eq_true_eq] at hl hs
 go_enter Try.func57,Try.ntmps57
 go_wp2_with fail
 go_ret
 exact ⟨ret_int (by omega),(Ext.refl _).alloc _⟩
end Go.Proofs.Ytlonjlaecaemgaa
/- The walk of ownersOf. UsesRight as plain Lean. -/
namespace Go.Proofs.Ytlonjlaecaemgaa
open Go.RowKit
attribute [local irreducible] wpQuiet
end Go.Proofs.Ytlonjlaecaemgaa
namespace Go.Proofs.Ytlonjlaecaemgaa
open Go.RowKit
theorem Rd.take {α:Type} {E:Elem α} {S:Nat→Prop} {w:World} {A:Option Addr} {n c k:Nat} {l:List α} (h:Rd E S w (.slice A n c) l) (hk:k≤l.length):Rd E S w (.slice A k c) (l.take k):=by
 obtain ⟨A',c',hv,h1,h2,hK⟩:=h
 cases hv
 refine ⟨A,c,by rw [List.length_take,Nat.min_eq_left hk],by rw [List.length_take];omega,h2,fun i x hi=>?_⟩
 exact hK i x (by rw [List.getElem?_take] at hi;split at hi <;> simp_all)
def keyOf (a:Label):Int:=8 * a.level+a.set
theorem key_inj {a b:Label} (ha:labelRight a=true) (hb:labelRight b=true) (h:keyOf a=keyOf b):a=b:=by
 simp only [labelRight,isB,Bool.and_eq_true,decide_eq_true_eq] at ha hb
 unfold keyOf at h
 apply Label.ext <;> omega
end Go.Proofs.Ytlonjlaecaemgaa
/- The walks of UseOf,the program's and the reference's. The order of uses is linear up to the label and the owner;adding a use,in plain Lean. -/
namespace Go.Proofs.Ytlonjlaecaemgaa
open Go.RowKit
attribute [local irreducible] wpQuiet
theorem idxOf_cases {α:Type} [Inhabited α] (p:α→Bool) (l:List α):(idxOf p l = -1∧∀ j,j < l.length→p (nth l j)=false)∨∃ k:Nat,k < l.length∧idxOf p l=k∧p (nth l k)=true∧∀ j,j < k→p (nth l j)=false:=by
 unfold idxOf
 cases h:l.findIdx? p with
 | none =>
   rw [List.findIdx?_eq_none_iff] at h
   exact .inl ⟨rfl,fun j hj=>h _ (nth_mem hj)⟩
 | some i =>
   obtain ⟨hi,hp,hb⟩:=List.findIdx?_eq_some_iff_getElem.1 h
   refine .inr ⟨i,hi,rfl,by rw [nth_eq hi];exact hp,fun j hj=>?_⟩
   have:=hb j hj
   rw [nth_eq (by omega)]
   simpa using this
end Go.Proofs.Ytlonjlaecaemgaa
namespace Go.Proofs.Ytlonjlaecaemgaa
open Go.RowKit
structure Lin {α:Type} (c:α→α→Int):Prop where
 anti:∀ x y,c y x = - c x y
 trans:∀ x y z,c x y≤0→c y z≤0→c x z≤0
end Go.Proofs.Ytlonjlaecaemgaa
