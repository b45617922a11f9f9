/- SpanPut and what it stands on: the program's and the reference's. -/
import Derived.Test.YtlonjlaecaemgaaInsSpan
import Derived.Test.YtlonjlaecaemgaaNodeC
import Derived.BigQuiet
import Derived.Test.YtlonjlaecaemgaaDraws
import Derived.Deep.RegionLaw
import Derived.Test.YtlonjlaecaemgaaOwn
import Derived.Test.YtlonjlaecaemgaaRows
import Derived.Laws.IdiomStrings
import Derived.Laws.BytesArg
import Derived.Test.YtlonjlaecaemgaaOwn2
import Derived.Test.YtlonjlaecaemgaaGElems
import Derived.Test.YtlonjlaecaemgaaLib
namespace Go.Proofs.Ytlonjlaecaemgaa
open Go.RowKit
attribute [local irreducible] wpQuiet
def ahead (x o:Span):Bool:=decide (o.from_ < x.from_)
theorem Rd.drop {α:Type} {E:Elem α} {S:Nat→Prop} {w:World} {b o n c k:Nat} {l:List α} (h:Rd E S w (.slice (some ⟨b,o,none⟩) n c) l) (hk:k≤l.length):Rd E S w (.slice (some ⟨b,o+k * E.size,none⟩) (n - k) (c - k)) (l.drop k):=by
 obtain ⟨A,c',hv,h1,h2,hall⟩:=h
 injection hv with e1 e2 e3
 subst e1 e2 e3
 refine ⟨_,_,by rw [List.length_drop],by rw [List.length_drop];omega,by omega,fun j x hx=>?_⟩
 rw [List.getElem?_drop] at hx
 obtain ⟨b',o',cs,hA,hS,hr,hc⟩:=hall _ x hx
 injection hA with hA
 cases hA
 refine ⟨_,_,cs,rfl,hS,hr,?_⟩
 rw [show o+k * E.size+j * E.size=o+(k+j) * E.size by rw [Nat.add_mul];omega]
 exact hc
end Go.Proofs.Ytlonjlaecaemgaa
/- Drawing spans out of bytes. -/
namespace Go.Proofs.Ytlonjlaecaemgaa
open Go.RowKit
attribute [local irreducible] wpQuiet
theorem SrcAt.ext {l:List Int} {v:Value} {w0 w w':World} {B:Nat} (h:SrcAt l v w0 w B) (hx:Ext w w'):SrcAt l v w0 w' B:=by
 obtain ⟨k,m,z,hb,h1,h2,h3,h4,h5⟩:=h
 exact ⟨k,m,z,hb.ext hx,h1,h2,h3,h4.trans hx,h5⟩
theorem SrcAt.kept {l:List Int} {v:Value} {w0 w w':World} {B:Nat} {F:List Nat} (h:SrcAt l v w0 w B) (hk:Kept F w w') (hB:B∉F) (hF:∀ b∈F,w0.heap.size≤b):SrcAt l v w0 w' B:=by
 obtain ⟨k,m,z,hb,h1,h2,h3,h4,h5⟩:=h
 exact ⟨k,m,z,(hk.block B hb.lt hB).trans hb,h1,h2,h3,hk.ext h4 hF,h5⟩
theorem SrcAt.old {l:List Int} {v:Value} {w0 w:World} {B:Nat} (h:SrcAt l v w0 w B):Ext w0 w:=by
 obtain ⟨k,m,z,_,_,_,_,hx,_⟩:=h
 exact hx
theorem SrcAt.ge {l:List Int} {v:Value} {w0 w:World} {B:Nat} (h:SrcAt l v w0 w B):w0.heap.size≤B:=by
 obtain ⟨k,m,z,_,_,_,_,_,h5⟩:=h
 exact h5
theorem src_put {l:List Int} {v:Value} {w0 w:World} {B R o:Nat} {vs:List Value} (h:SrcAt l v w0 w B) (hB:R≠B) (hw:w0.heap.size≤R):SrcAt l v w0 (w.setCells R o vs) B :=
 h.kept (F:=[R]) (Kept.setCells (by simp) _ _ _ (Kept.refl _ _)) (by simpa using fun e=>hB e.symm) (by simpa using hw)
theorem kept_put {B R o:Nat} {w w4:World} {vs:List Value} (hk:Kept [B] w w4) (hR:w.heap.size≤R):Kept [B] w (w4.setCells R o vs) :=
 Kept.sub (F:=[B,R]) ((hk.sub (G:=[B,R]) (fun b _ hm=>by simp at hm ⊢;exact .inl hm)).trans (Kept.setCells (F:=[B,R]) (by simp) vs w4 o (Kept.refl _ _))) (fun b hb hm=>by simp at hm ⊢;omega)
end Go.Proofs.Ytlonjlaecaemgaa
