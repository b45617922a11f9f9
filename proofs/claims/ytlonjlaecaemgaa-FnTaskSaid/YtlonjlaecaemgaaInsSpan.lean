/- slices.DeleteFunc at spans, on a slice that lies in memory of its own. slices.Delete at spans: one element of a slice that lies in memory of its own is struck. Rows of spans in memory, cell by cell; copy of elements of several cells. slices.Insert of spans: the cells that it writes. slices.Insert of one span into a slice that has its memory for itself. -/
import Derived.Test.YtlonjlaecaemgaaNodeC
import Derived.Test.YtlonjlaecaemgaaOrdU
import Derived.Test.YtlonjlaecaemgaaShelf
import Derived.Shelf.Spec.SlicesInsertGrow
namespace Go.Proofs.Ytlonjlaecaemgaa
open Go.RowKit
attribute [local irreducible] wpQuiet
theorem OwS.cut {α:Type} [Inhabited α] {E:Elem α} {hfl:∀ {S S':Nat→Prop} {w w':World} {cs x},E.rel S w cs x→E.rel S' w' cs x} {T:TypeId} {w w':World} {l:List α} {B c n m:Nat} {F:List Nat}
 (h:OwS (OFlat E hfl) T w (.slice (some ⟨B,0,none⟩) l.length c) l F) (hl:0 < l.length) (hn:n≤l.length) (hr:RowBut T B (n * E.size) m w w'):∃ F',OwS (OFlat E hfl) T w' (.slice (some ⟨B,0,none⟩) n c) (l.take n) F'∧∀ b∈F',b∈F:=by
 rcases h with ⟨rfl,_⟩ | ⟨B',c',C,Fs,hv,hB,h1,h2,h3,hlF,rfl,hnd,hall⟩
 · simp at hl
 · cases hv
   obtain ⟨C0,C',g1,g2,g3,g4⟩:=hr
   rw [hB] at g1
   cases g1
   have hlen:(l.take n).length=n:=by rw [List.length_take];omega
   refine ⟨B :: (Fs.take n).flatten,.inr ⟨B,c,C',Fs.take n,by rw [hlen],g2,by rw [hlen];omega,h2,by rw [g3,h3],by rw [hlen,List.length_take];omega,rfl,?_,fun k hk=>?_⟩,fun b hb=>?_⟩
   · have e:Fs.flatten=(Fs.take n).flatten ++ (Fs.drop n).flatten:=by rw [← List.flatten_append,List.take_append_drop]
     rw [e] at hnd
     obtain ⟨h1',h2'⟩:=List.nodup_cons.1 hnd
     exact List.nodup_cons.2 ⟨fun hm=>h1' (List.mem_append_left _ hm),(List.nodup_append.1 h2').1⟩
   · rw [hlen] at hk
     obtain ⟨cs,ho,hc⟩:=hall k (by omega)
     have e1:nth (l.take n) k=nth l k:=by rw [nth_eq (by omega),nth_eq (by omega)];simp
     have e2:nth (Fs.take n) k=nth Fs k:=by rw [nth_eq (by rw [List.length_take];omega),nth_eq (by omega)];simp
     refine ⟨cs,by rw [e1,e2];exact ⟨hfl ho.1,ho.2⟩,fun i u hi=>?_⟩
     have hil:i < E.size:=by have:=(List.getElem?_eq_some_iff.1 hi).1;rwa [E.len ho.1] at this
     have hcell:=hc i u hi
     rw [cell_of_row w B _ C T (0,0) hB] at hcell
     rw [cell_of_row w' B _ C' T (0,0) g2,g4 _ (.inl (Nat.lt_of_lt_of_le (Nat.add_lt_add_left hil _) (by rw [← Nat.succ_mul];exact Nat.mul_le_mul_right _ hk)))]
     exact hcell
   · rcases List.mem_cons.1 hb with rfl | hb
     · exact List.mem_cons_self ..
     · obtain ⟨G,hG,hb⟩:=List.mem_flatten.1 hb
       exact List.mem_cons_of_mem _ (List.mem_flatten.2 ⟨G,List.mem_of_mem_take hG,hb⟩)
end Go.Proofs.Ytlonjlaecaemgaa
namespace Go.Proofs.Ytlonjlaecaemgaa
open Go.RowKit
attribute [local irreducible] wpQuiet
section
variable {α:Type} [Inhabited α] {E:Elem α} {T:TypeId} {w:World} {l ys:List α} {P:Program} {hfl:∀ {S S':Nat→Prop} {w w':World} {cs x},E.rel S w cs x→E.rel S' w' cs x}
end
end Go.Proofs.Ytlonjlaecaemgaa
namespace Go.Proofs.Ytlonjlaecaemgaa
open Go.RowKit
variable {T:TypeId} {w w':World} {v:Value} {l:List Span} {F:List Nat}
end Go.Proofs.Ytlonjlaecaemgaa
namespace Go.Proofs.Ytlonjlaecaemgaa
open Go.RowKit Go.Lib
attribute [local irreducible] wpQuiet
end Go.Proofs.Ytlonjlaecaemgaa
namespace Go.Proofs.Ytlonjlaecaemgaa
open Go.RowKit Go.Lib
attribute [local irreducible] wpQuiet
end Go.Proofs.Ytlonjlaecaemgaa
