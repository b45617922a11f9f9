/- Drawing numbers out of bytes once more: no block is made, and none but the source's is written. -/
import Derived.Test.YtlonjlaecaemgaaDrawSp
namespace Go.Proofs.Ytlonjlaecaemgaa
open Go.RowKit
attribute [local irreducible] wpQuiet
structure Thru (B:Nat) (w w':World):Prop where
 size:w'.heap.size=w.heap.size
 kept:Kept [B] w w'
theorem Thru.cell {B:Nat} {w w':World} (h:Thru B w w') {b:Nat} (hb:b≠B) (i:Nat):w'.cell? ⟨b,i,none⟩=w.cell? ⟨b,i,none⟩:=by
 rcases Nat.lt_or_ge b w.heap.size with h1 | h1
 · have:=h.kept.block b h1 (by simpa using hb)
   simp [World.cell?,this]
 · have e1:w.heap[b]? = none:=Array.getElem?_eq_none h1
   have e2:w'.heap[b]? = none:=Array.getElem?_eq_none (by rw [h.size];exact h1)
   simp [World.cell?,e1,e2]
theorem mix_thru {w0 w W:World} {B:Nat} {v k z:Value} {m m2:Int} (hs:W.heap.size=w.heap.size) (hb:Blk W B 77 #[v,k,.int .u64 m,z]) (hx:Ext w0 W) (hB:w0.heap.size≤B) (hk:Kept [B] w W) :
 ∃ W2,W2=(W.setCell ⟨B,2,none⟩ (.int .u64 m2)).drew∧W2.heap.size=w.heap.size∧Blk W2 B 77 #[v,k,.int .u64 m2,z]∧Ext w0 W2∧Kept [B] w W2 :=
 ⟨_,rfl,by simpa [World.setCell,World.drew] using hs,Blk.ext (by simpa using hb.set_ 2 (.int .u64 m2)) (Ext.refl _).drew,(hx.setCell hB _).drew,(hk.setCell (by simp) _).trans (Kept.of_ext (Ext.refl _).drew)⟩
theorem srcN_thru {S:Nat→Prop} (l:List Int) (v:Value) (w0:World) (h:Rd EByte S w0 v l) (most:Int) (h1:1 < most) (h2:most≤1152921504606846976) (B:Nat) (w:World) (hs:SrcAt l v w0 w B) :
 Calls Try.prog 25 #[.pointer (some ⟨B,0,none⟩),.int .i64 most] w fun e w'=>∃ r:Int,e=.returned (.int .i64 r)∧0≤r∧r < most∧SrcAt l v w0 w' B∧Thru B w w':=by
 obtain ⟨A,c,rfl,l1,l2,hk⟩:=h.open_
 obtain ⟨k,m,z,hb,hkl,z0,z1,hx,hB⟩:=hs
 have HX:=Lib.hid hx
 have HB:=Lib.hid hB
 have HBK:=Lib.hid hb
 have bc:=hb.cell
 have bf:=hb.frozen
 clear hb hx h hB
 unfold maxLen at l2
 by_cases hlt:k < l.length
 · obtain ⟨b,q,cs,rfl,_,hr,hc⟩:=hk k hlt
   obtain ⟨rfl,g1,g2⟩:=hr
   have c0:=HX.out.some (hc 0 _ rfl)
   simp only [EByte,Nat.add_zero,Nat.mul_one] at c0
   clear hc hk
   go_enter Try.func25,Try.ntmps25
   go_wp2_with fail
   go_quiet (fail)
   go_wp2_with fail
   go_quiet (fail)
   go_upto_region 7 with (fail)
   generalize hV:w.drewN _=V
   obtain ⟨W,hW,hs1,hb1,hx1,hk1⟩:∃ W,W=V.setCell ⟨B,1,none⟩ (.int .i64 ((k:Int)+1))∧W.heap.size=w.heap.size∧Blk W B 77 #[.slice (some ⟨b,q,none⟩) l.length c,.int .i64 ((k+1:Nat):Int),.int .u64 m,.int .i64 z]∧Ext w0 W∧Kept [B] w W:=⟨_,rfl,by subst hV;simp [World.setCell,World.drewN],by simpa using (drewN_blk hV HBK.out).set_ 1 (.int .i64 ((k:Int)+1)),(drewN_ext hV HX.out).setCell HB.out _,(drewN_kept hV).setCell (by simp) _⟩
   rw [← hW]
   clear hW hV bc bf c0 HBK
   have bc:=hb1.cell
   have bf:=hb1.frozen
   go_region
   go_wp2_with fail
   generalize bits BinOp.xor IntKind.u64 m _=m2
   obtain ⟨W2,hW,hs2,hb2,hx2,hk2⟩:=mix_thru (m2:=m2) hs1 hb1 hx1 HB.out hk1
   rw [← hW]
   clear hW bc bf
   have bc:=hb2.cell
   have bf:=hb2.frozen
   go_region
   go_wp2_with fail
   generalize bits BinOp.xor IntKind.u64 m2 _=m3
   obtain ⟨W3,hW,hs3,hb3,hx3,hk3⟩:=mix_thru (m2:=m3) hs2 hb2 hx2 HB.out hk2
   rw [← hW]
   clear hW bc bf
   have bc:=hb3.cell
   have bf:=hb3.frozen
   go_region
   go_wp2_with fail
   generalize bits BinOp.xor IntKind.u64 m3 _=m4
   obtain ⟨W4,hW,hs4,hb4,hx4,hk4⟩:=mix_thru (m2:=m4) hs3 hb3 hx3 HB.out hk3
   rw [← hW]
   clear hW bc bf
   have bc:=hb4.cell
   have bf:=hb4.frozen
   go_ret
   obtain ⟨r,e,r0,r1⟩:=rem_range (nth l k+m4 / 1048576) h1 h2
   exact ⟨r,ret_int e,r0,r1,⟨k+1,m4,z,hb4,by omega,z0,z1,hx4,HB.out⟩,⟨hs4,hk4⟩⟩
 · obtain rfl:k=l.length:=by omega
   go_enter Try.func25,Try.ntmps25
   go_wp2_with fail
   go_quiet (fail)
   go_upto_region 7 with (fail)
   generalize hV:w.drewN _=V
   have hs1:V.heap.size=w.heap.size:=by subst hV;rfl
   have hb1:=drewN_blk hV HBK.out
   have hx1:=drewN_ext hV HX.out
   have hk1:=drewN_kept (F:=[B]) hV
   clear hV bc bf HBK
   have bc:=hb1.cell
   have bf:=hb1.frozen
   go_region
   go_wp2_with fail
   generalize bits BinOp.xor IntKind.u64 m _=m2
   obtain ⟨W2,hW,hs2,hb2,hx2,hk2⟩:=mix_thru (m2:=m2) hs1 hb1 hx1 HB.out hk1
   rw [← hW]
   clear hW bc bf
   have bc:=hb2.cell
   have bf:=hb2.frozen
   go_region
   go_wp2_with fail
   generalize bits BinOp.xor IntKind.u64 m2 _=m3
   obtain ⟨W3,hW,hs3,hb3,hx3,hk3⟩:=mix_thru (m2:=m3) hs2 hb2 hx2 HB.out hk2
   rw [← hW]
   clear hW bc bf
   have bc:=hb3.cell
   have bf:=hb3.frozen
   go_region
   go_wp2_with fail
   generalize bits BinOp.xor IntKind.u64 m3 _=m4
   obtain ⟨W4,hW,hs4,hb4,hx4,hk4⟩:=mix_thru (m2:=m4) hs3 hb3 hx3 HB.out hk3
   rw [← hW]
   clear hW bc bf
   have bc:=hb4.cell
   have bf:=hb4.frozen
   go_ret
   obtain ⟨r,e,r0,r1⟩:=rem_range (m4 / 1048576) h1 h2
   exact ⟨r,ret_int (by rw [← e]),r0,r1,⟨l.length,m4,z,hb4,Nat.le_refl _,z0,z1,hx4,HB.out⟩,⟨hs4,hk4⟩⟩
end Go.Proofs.Ytlonjlaecaemgaa
