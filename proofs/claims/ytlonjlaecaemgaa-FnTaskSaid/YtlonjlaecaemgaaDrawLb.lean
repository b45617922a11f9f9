/- Drawing names and labels out of bytes. -/
import Derived.Test.YtlonjlaecaemgaaDrawSz
import Derived.Laws.BytesArg
namespace Go.Proofs.Ytlonjlaecaemgaa
open Go.RowKit
attribute [local irreducible] wpQuiet
theorem pick_at {w w1:World} {A B k:Nat} {T:TypeId} {C:List Value} (hA:Blk w A T C.toArray) (hAB:A≠B) (hk:Kept [B] w w1) (hC:∀ x∈C,∃ t:ByteArray,x=.string t∧t.size≤100) (hlt:k < C.length):∃ t:ByteArray,w1.cell? ⟨A,k,none⟩=some (.string t)∧t.size≤100:=by
 have h:Blk w1 A T C.toArray:=(hk.block A hA.lt (by simpa using hAB)).trans hA
 obtain ⟨t,e,i⟩:=hC C[k] (List.getElem_mem hlt)
 exact ⟨t,by rw [h.cell,List.getElem?_toArray,List.getElem?_eq_getElem hlt,e],i⟩
theorem srcPick_any {S:Nat→Prop} (l:List Int) (v:Value) (w0:World) (h:Rd EByte S w0 v l) (B:Nat) (w:World) (hs:SrcAt l v w0 w B) (A:Nat) (T:TypeId) (C:List Value) (n:Nat) (hA:Blk w A T C.toArray) (hAB:A≠B) (hC:∀ x∈C,∃ t:ByteArray,x=.string t∧t.size≤100) (hn:n=C.length) (h1:1 < n) (h2:n≤1000) :
 Calls Try.prog 62 #[.pointer (some ⟨B,0,none⟩),.slice (some ⟨A,0,none⟩) n n] w fun e w'=>∃ t:ByteArray,e=.returned (.string t)∧t.size≤100∧SrcAt l v w0 w' B∧Thru B w w':=by
 have HN:=Lib.hid (srcN_thru l v w0 h (n:Int) (by omega) (by omega) B w hs)
 have HA:=Lib.hid hA
 have HC:=Lib.hid hC
 have HE:=Lib.hid hn
 clear h hs hA hC hn
 go_enter Try.func62,Try.ntmps62
 go_wp2_with (go_at_call 25;(with_reducible refine HN.out.mono ?_);rintro e w1 ⟨r,rfl,r0,r1,s1,k1⟩;have S1:=Lib.hid s1;have K1:=Lib.hid k1;obtain ⟨k,rfl⟩:∃ k:Nat,r=k:=⟨r.toNat,by omega⟩;obtain ⟨t,ht,hz⟩:=pick_at (k:=k) HA.out hAB k1.kept HC.out (by have:=HE.out;omega);clear s1 k1)
 go_ret
 exact ⟨t,rfl,hz,S1.out,K1.out⟩
set_option maxRecDepth 50000 in
theorem srcOwner_any {S:Nat→Prop} (l:List Int) (v:Value) (w0:World) (h:Rd EByte S w0 v l) (B:Nat) (w:World) (hs:SrcAt l v w0 w B) :
 Calls Try.prog 60 #[.pointer (some ⟨B,0,none⟩)] w fun e w'=>∃ t:ByteArray,e=.returned (.string t)∧t.size≤100∧SrcAt l v w0 w' B∧Kept [B] w w'∧w'.heap.size=w.heap.size+1:=by
 have HP:=Lib.hid fun (W:World) (hW:SrcAt l v w0 W B)=>srcPick_any l v w0 h B W hW
 have HS:=Lib.hid hs
 have HB:=Lib.hid hs.lt
 clear h hs
 go_enter Try.func60,Try.ntmps60
 go_wp2_with (go_at_call 62;(with_reducible refine (HP.out _ (HS.out.alloc _) _ _ _ _ (Blk.new _ _ _) ?ab ?all ?len ?one ?small).mono ?_);rotate_right;rintro e w1 ⟨t,rfl,hz,s1,k1⟩;have S1:=Lib.hid s1;have K1:=Lib.hid ((Kept.of_ext ((Ext.refl w).alloc _)).trans k1.kept);have Z1:Hid (w1.heap.size=w.heap.size+1):=Lib.hid (by rw [k1.size];simp);clear s1 k1)
 case ab=>have:=HB.out;omega
 case all=>simp only [List.mem_cons,List.not_mem_nil,or_false];rintro x (rfl | rfl | rfl | rfl | rfl | rfl | rfl) <;> exact ⟨_,rfl,by decide⟩
 case len=>rfl
 case one=>decide
 case small=>decide
 go_ret
 exact ⟨t,rfl,hz,S1.out,K1.out,Z1.out⟩
theorem conv_byte1 (W:World) (x:Int):(convert 22 9 (.slice (some ⟨W.heap.size,0,none⟩) 1 1)).run Try.prog (W.alloc (.cells #[.int .u8 x] 5))=.ok (.string (strOfNums [x])) (W.alloc (.cells #[.int .u8 x] 5)):=by
 refine run_convert_bytes_arg _ 22 5 Try.underlying22 Try.underlying5 _ 0 1 1 [x] rfl (fun i hi=>?_) 9 Try.underlying9
 obtain rfl:i=0:=by omega
 rw [(Blk.new W 5 #[.int .u8 x]).cell]
 rfl
end Go.Proofs.Ytlonjlaecaemgaa
