/- A variable that is made at any time beside a call, and stored into behind it: the value stays shut. -/
import Derived.Test.YtlonjlaecaemgaaLib
import Derived.Test.YtlonjlaecaemgaaOwn
import Derived.Deep.MidRow
namespace Go.Proofs.Ytlonjlaecaemgaa
open Go.RowKit
theorem box_new3 {bw V wn:World} {cs:Array Value} {T:TypeId} (hx:Ext (V.alloc (.cells cs T)) wn) (h:Ext bw V):Blk wn V.heap.size T cs∧bw.heap.size≤V.heap.size∧V.heap.size < (V.alloc (.cells cs T)).heap.size :=
 ⟨(Blk.new V T cs).ext hx,h.size,by simp⟩
theorem store_shut {P:Program} {cs:List Value} {n:Nat} (hl:cs.length=n) (h1:∀ v∈cs,v.oneCell'=true) (V:World) (b:Nat) (ht:V.there b 0 n) :
 (storeCells ⟨b,0,none⟩ cs).run P V=.ok () (V.setCells b 0 cs):=by
 have:=run_storeCells_cells (P:=P) b 0 cs 0 V (fun j hj=>by simpa using (ht j (by omega)).1) (fun j hj=>by simpa using (ht j (by omega)).2) h1
 simpa using this
theorem drew_size (w:World):w.drew.heap.size=w.heap.size:=rfl
theorem box_new4 {bw V wn:World} {cs:Array Value} {T:TypeId} (hx:Ext (V.alloc (.cells cs T)).drew wn) (h:Ext bw V):Blk wn V.heap.size T cs∧bw.heap.size≤V.heap.size∧V.heap.size < (V.alloc (.cells cs T)).drew.heap.size :=
 box_new3 (V:=V) (Ext.trans ((Ext.refl _).drew) hx) h
theorem there_alloc {V:World} {C:Array Value} {T:TypeId} {n:Nat} (h:C.size=n):(V.alloc (.cells C T)).there V.heap.size 0 n:=by
 have:=(Blk.new V T C).there
 rwa [h] at this
section
variable {α:Type} {E:Elem α} {O:Own E} {x:α} {w W:World} {B:Nat} {T:TypeId} {C:Array Value} {cs:List Value} {F:List Nat}
theorem box_pre (hb:Blk W B T C) (hc:C.size=cs.length) (ho:O.own W cs x F) (hB:w.heap.size≤B) (hF:∀ b∈F,B < b) (hx:Ext w W) :
 Blk (W.setCells B 0 cs) B T cs.toArray∧O.own (W.setCells B 0 cs) cs x F∧B∉F∧w.heap.size≤B∧Ext w (W.setCells B 0 cs):=by
 have hn:B∉F:=fun h=>Nat.lt_irrefl _ (hF _ h)
 refine ⟨by simpa using hb.setAll (vs:=cs.toArray) (by simpa using hc),O.keep (fun b h=>?_) ho,hn,hB,setCells_ext hB _ _ _ hx⟩
 exact (Kept.setCells (F:=[B]) (by simp) cs W 0 (Kept.refl _ W)).block b (O.lt ho b h) (by simp;rintro rfl;exact hn h)
theorem box_post (hc:C.size=cs.length) (ho:O.own W cs x F) (hx:Ext w W) :
 Blk ((W.alloc (.cells C T)).setCells W.heap.size 0 cs) W.heap.size T cs.toArray∧O.own ((W.alloc (.cells C T)).setCells W.heap.size 0 cs) cs x F∧W.heap.size∉F∧w.heap.size≤W.heap.size∧Ext w ((W.alloc (.cells C T)).setCells W.heap.size 0 cs):=by
 have hn:W.heap.size∉F:=fun h=>Nat.lt_irrefl _ (O.lt ho _ h)
 have ho2:O.own (W.alloc (.cells C T)) cs x F:=O.keep (fun b h=>Below.block ((Ext.refl W).alloc _) b (O.lt ho b h)) ho
 refine ⟨by simpa using (Blk.new W T C).setAll (vs:=cs.toArray) (by simpa using hc),O.keep (fun b h=>?_) ho2,hn,hx.size,setCells_ext hx.size _ _ _ (hx.alloc _)⟩
 exact (Kept.setCells (F:=[W.heap.size]) (by simp) cs _ 0 (Kept.refl _ _)).block b (O.lt ho2 b h) (by simp;rintro rfl;exact hn h)
end
end Go.Proofs.Ytlonjlaecaemgaa
