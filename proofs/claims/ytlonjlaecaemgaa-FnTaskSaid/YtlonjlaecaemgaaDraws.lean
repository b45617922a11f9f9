/- Drawing numbers out of bytes: what the source hands out stays below what was asked for. -/
import Derived.Test.YtlonjlaecaemgaaTBytesS
import Derived.Test.YtlonjlaecaemgaaSmall
import Derived.BigQuiet
import Derived.OwnWalk
import Derived.Deep.RegionHeld3
namespace Go.Proofs.Ytlonjlaecaemgaa
open Go.RowKit
attribute [local irreducible] wpQuiet
def SrcAt (l:List Int) (v:Value) (w0 w:World) (B:Nat):Prop :=
 ∃ (k:Nat) (m z:Int),Blk w B 77 #[v,.int .i64 k,.int .u64 m,.int .i64 z]∧k≤l.length∧0≤z∧z≤12∧Ext w0 w∧w0.heap.size≤B
theorem drewN_ext {w0 w V:World} {n:Nat} (h:w.drewN n=V) (hx:Ext w0 w):Ext w0 V:=by subst h;exact hx.trans ⟨rfl,rfl,rfl,Nat.le_refl _,fun _ _=>rfl⟩
theorem drewN_kept {w V:World} {F:List Nat} {n:Nat} (h:w.drewN n=V):Kept F w V:=Kept.of_ext (drewN_ext h (Ext.refl w))
theorem drewN_blk {w V:World} {n B:Nat} {T:TypeId} {C:Array Value} (h:w.drewN n=V) (hb:Blk w B T C):Blk V B T C:=hb.ext (drewN_ext h (Ext.refl w))
theorem mix_step {w0 w W:World} {B:Nat} {v k z:Value} {m m2:Int} (hb:Blk W B 77 #[v,k,.int .u64 m,z]) (hx:Ext w0 W) (hB:w0.heap.size≤B) (hk:Kept [B] w W) :
 ∃ W2,W2=(W.setCell ⟨B,2,none⟩ (.int .u64 m2)).drew∧Blk W2 B 77 #[v,k,.int .u64 m2,z]∧Ext w0 W2∧Kept [B] w W2 :=
 ⟨_,rfl,Blk.ext (by simpa using hb.set_ 2 (.int .u64 m2)) (Ext.refl _).drew,(hx.setCell hB _).drew,(hk.setCell (by simp) _).trans (Kept.of_ext (Ext.refl _).drew)⟩
theorem rem_range (x:Int) {most:Int} (h1:1 < most) (h2:most≤1152921504606846976):∃ r,wrap64 ((IntKind.u64.wrap x).tmod most)=r∧0≤r∧r < most:=by
 have h0:0≤IntKind.u64.wrap x:=by rw [IntKind.wrap_u64];omega
 have a1:=Int.tmod_nonneg most h0
 have a2:=Int.tmod_lt_of_pos (IntKind.u64.wrap x) (show 0 < most by omega)
 refine ⟨_,rfl,?_⟩
 rw [show wrap64 ((IntKind.u64.wrap x).tmod most)=(IntKind.u64.wrap x).tmod most from by unfold wrap64;omega]
 exact ⟨a1,a2⟩
theorem srcN_any {S:Nat→Prop} (l:List Int) (v:Value) (w0:World) (h:Rd EByte S w0 v l) (most:Int) (h1:1 < most) (h2:most≤1152921504606846976) (B:Nat) (w:World) (hs:SrcAt l v w0 w B) :
 Calls Try.prog 25 #[.pointer (some ⟨B,0,none⟩),.int .i64 most] w fun e w'=>∃ r:Int,e=.returned (.int .i64 r)∧0≤r∧r < most∧SrcAt l v w0 w' B∧Kept [B] w w':=by
 obtain ⟨A,c,rfl,l1,l2,hk⟩:=h.open_
 obtain ⟨k,m,z,hb,hkl,z0,z1,hx,hB⟩:=hs
 have HX:=Lib.hid hx
 have HB:=Lib.hid hB
 have HBK:=Lib.hid hb
 have bc:=hb.cell
 have bf:=hb.frozen
 clear hb hx h hB
 unfold maxLen at l2
 by_cases hlt:k < l.length
 · obtain ⟨b,q,cs,rfl,_,hr,hc⟩:=hk k hlt
   obtain ⟨rfl,g1,g2⟩:=hr
   have c0:=HX.out.some (hc 0 _ rfl)
   simp only [EByte,Nat.add_zero,Nat.mul_one] at c0
   clear hc hk
   go_enter Try.func25,Try.ntmps25
   go_wp2_with fail
   go_quiet (fail)
   go_wp2_with fail
   go_quiet (fail)
   go_upto_region 7 with (fail)
   generalize hV:w.drewN _=V
   obtain ⟨W,hW,hb1,hx1,hk1⟩:∃ W,W=V.setCell ⟨B,1,none⟩ (.int .i64 ((k:Int)+1))∧Blk W B 77 #[.slice (some ⟨b,q,none⟩) l.length c,.int .i64 ((k+1:Nat):Int),.int .u64 m,.int .i64 z]∧Ext w0 W∧Kept [B] w W:=⟨_,rfl,by simpa using (drewN_blk hV HBK.out).set_ 1 (.int .i64 ((k:Int)+1)),(drewN_ext hV HX.out).setCell HB.out _,(drewN_kept hV).setCell (by simp) _⟩
   rw [← hW]
   clear hW hV bc bf c0 HBK
   have bc:=hb1.cell
   have bf:=hb1.frozen
   go_region
   go_wp2_with fail
   generalize bits BinOp.xor IntKind.u64 m _=m2
   obtain ⟨W2,hW,hb2,hx2,hk2⟩:=mix_step (m2:=m2) hb1 hx1 HB.out hk1
   rw [← hW]
   clear hW bc bf
   have bc:=hb2.cell
   have bf:=hb2.frozen
   go_region
   go_wp2_with fail
   generalize bits BinOp.xor IntKind.u64 m2 _=m3
   obtain ⟨W3,hW,hb3,hx3,hk3⟩:=mix_step (m2:=m3) hb2 hx2 HB.out hk2
   rw [← hW]
   clear hW bc bf
   have bc:=hb3.cell
   have bf:=hb3.frozen
   go_region
   go_wp2_with fail
   generalize bits BinOp.xor IntKind.u64 m3 _=m4
   obtain ⟨W4,hW,hb4,hx4,hk4⟩:=mix_step (m2:=m4) hb3 hx3 HB.out hk3
   rw [← hW]
   clear hW bc bf
   have bc:=hb4.cell
   have bf:=hb4.frozen
   go_ret
   obtain ⟨r,e,r0,r1⟩:=rem_range (nth l k+m4 / 1048576) h1 h2
   exact ⟨r,ret_int e,r0,r1,⟨k+1,m4,z,hb4,by omega,z0,z1,hx4,HB.out⟩,hk4⟩
 · obtain rfl:k=l.length:=by omega
   go_enter Try.func25,Try.ntmps25
   go_wp2_with fail
   go_quiet (fail)
   go_upto_region 7 with (fail)
   generalize hV:w.drewN _=V
   have hb1:=drewN_blk hV HBK.out
   have hx1:=drewN_ext hV HX.out
   have hk1:=drewN_kept (F:=[B]) hV
   clear hV bc bf HBK
   have bc:=hb1.cell
   have bf:=hb1.frozen
   go_region
   go_wp2_with fail
   generalize bits BinOp.xor IntKind.u64 m _=m2
   obtain ⟨W2,hW,hb2,hx2,hk2⟩:=mix_step (m2:=m2) hb1 hx1 HB.out hk1
   rw [← hW]
   clear hW bc bf
   have bc:=hb2.cell
   have bf:=hb2.frozen
   go_region
   go_wp2_with fail
   generalize bits BinOp.xor IntKind.u64 m2 _=m3
   obtain ⟨W3,hW,hb3,hx3,hk3⟩:=mix_step (m2:=m3) hb2 hx2 HB.out hk2
   rw [← hW]
   clear hW bc bf
   have bc:=hb3.cell
   have bf:=hb3.frozen
   go_region
   go_wp2_with fail
   generalize bits BinOp.xor IntKind.u64 m3 _=m4
   obtain ⟨W4,hW,hb4,hx4,hk4⟩:=mix_step (m2:=m4) hb3 hx3 HB.out hk3
   rw [← hW]
   clear hW bc bf
   have bc:=hb4.cell
   have bf:=hb4.frozen
   go_ret
   obtain ⟨r,e,r0,r1⟩:=rem_range (m4 / 1048576) h1 h2
   exact ⟨r,ret_int (by rw [← e]),r0,r1,⟨l.length,m4,z,hb4,Nat.le_refl _,z0,z1,hx4,HB.out⟩,hk4⟩
theorem srcOne_any {S:Nat→Prop} (l:List Int) (v:Value) (w0:World) (h:Rd EByte S w0 v l) (most:Int) (h1:1 < most) (h2:most≤1152921504606846976) (B:Nat) (w:World) (hs:SrcAt l v w0 w B) :
 Calls Try.prog 27 #[.pointer (some ⟨B,0,none⟩),.int .i64 most] w fun e w'=>∃ r:Bool,e=.returned (.bool r)∧SrcAt l v w0 w' B∧Kept [B] w w':=by
 have HN:=Lib.hid (srcN_any l v w0 h most h1 h2 B w hs)
 clear h hs
 go_enter Try.func27,Try.ntmps27
 go_wp2_with (go_at_call 25;(with_reducible refine HN.out.mono ?_);rintro e w1 ⟨r,rfl,r0,r1,s1,k1⟩;have S1:=Lib.hid s1;have K1:=Lib.hid k1;clear s1 k1)
 go_ret
 exact ⟨_,rfl,S1.out,K1.out⟩
theorem SrcAt.alloc {l:List Int} {v:Value} {w0 w:World} {B:Nat} (h:SrcAt l v w0 w B) (o:Obj):SrcAt l v w0 (w.alloc o) B:=by
 obtain ⟨k,m,z,hb,h1,h2,h3,h4,h5⟩:=h
 exact ⟨k,m,z,hb.ext ((Ext.refl w).alloc o),h1,h2,h3,h4.alloc o,h5⟩
theorem edge_at {w w1:World} {B k:Nat} {T:TypeId} {C:List Value} (hb:B < w.heap.size) (hk:Kept [B] (w.alloc (.cells C.toArray T)) w1) (hC:∀ x∈C,∃ u,x=.int .i64 u∧I64 u) (hlt:k < C.length):∃ u,w1.cell? ⟨w.heap.size,k,none⟩=some (.int .i64 u)∧I64 u:=by
 have h:Blk w1 w.heap.size T C.toArray:=(hk.block w.heap.size (by simp) (by simp;omega)).trans (Blk.new w T C.toArray)
 obtain ⟨u,e,i⟩:=hC C[k] (List.getElem_mem hlt)
 exact ⟨u,by rw [h.cell,List.getElem?_toArray,List.getElem?_eq_getElem hlt,e],i⟩
theorem SrcAt.lt {l:List Int} {v:Value} {w0 w:World} {B:Nat} (h:SrcAt l v w0 w B):B < w.heap.size:=by
 obtain ⟨k,m,z,hb,_⟩:=h
 exact hb.lt
set_option maxRecDepth 50000 in
theorem srcEdge_any {S:Nat→Prop} (l:List Int) (v:Value) (w0:World) (h:Rd EByte S w0 v l) (B:Nat) (w:World) (hs:SrcAt l v w0 w B) :
 Calls Try.prog 28 #[.pointer (some ⟨B,0,none⟩)] w fun e w'=>∃ r:Int,e=.returned (.int .i64 r)∧I64 r∧SrcAt l v w0 w' B∧Kept [B] w w':=by
 have HN:=Lib.hid fun (W:World) (hW:SrcAt l v w0 W B)=>srcN_any l v w0 h 14 (by decide) (by decide) B W hW
 have HS:=Lib.hid hs
 have hlt:=hs.lt
 clear h hs
 go_enter Try.func28,Try.ntmps28
 go_wp2_with (go_at_call 25;(with_reducible refine (HN.out _ (HS.out.alloc _)).mono ?_);rintro e w1 ⟨r,rfl,r0,r1,s1,k1⟩;have S1:=Lib.hid s1;have K1:=Lib.hid ((Kept.of_ext ((Ext.refl w).alloc _)).trans k1);obtain ⟨k,rfl⟩:∃ k:Nat,r=k:=⟨r.toNat,by omega⟩;obtain ⟨u,hu,iu⟩:=edge_at (k:=k) hlt k1 (by simp only [List.mem_cons,List.not_mem_nil,or_false];rintro x (rfl | rfl | rfl | rfl | rfl | rfl | rfl | rfl | rfl | rfl | rfl | rfl | rfl | rfl) <;> exact ⟨_,rfl,by unfold I64;decide⟩) (by simp only [List.length_cons,List.length_nil];omega);have IU:=Lib.hid iu;clear s1 k1 iu)
 go_ret
 exact ⟨u,rfl,IU.out,S1.out,K1.out⟩
theorem source_any {S:Nat→Prop} (l:List Int) (v:Value) (w:World) (h:Rd EByte S w v l) :
 Calls Try.prog 21 #[v] w fun e w'=>∃ B,e=.returned (.pointer (some ⟨B,0,none⟩))∧SrcAt l v w w' B:=by
 obtain ⟨A,c,rfl,l1,l2,hk⟩:=h.open_
 unfold maxLen at l2
 have HK:=Lib.hid hk
 clear hk h
 go_enter Try.func21,Try.ntmps21
 go_upto_region 2 with (fail)
 obtain ⟨W,B,hW,hB,hx0,b0⟩:∃ W B,W=w.alloc (.cells #[.slice A l.length c,.int .i64 0,.int .u64 88172645463325252,.int .i64 0] 77)∧B=w.heap.size∧Ext w W∧Blk W B 77 #[.slice A l.length c,.int .i64 0,.int .u64 88172645463325252,.int .i64 0]:=⟨_,_,rfl,rfl,(Ext.refl w).alloc _,Blk.new _ _ _⟩
 rw [← hW,← hB]
 have HB:Hid (w.heap.size≤B):=Lib.hid (by omega)
 have B0:=Lib.hid b0
 have X0:=Lib.hid hx0
 clear hW hB hx0 b0
 go_wp2_with fail
 go_loopw [4] (fun i w'=>∃ (k:Nat) (m:Int),k≤l.length∧i=.int .i64 k∧Blk w' B 77 #[.slice A l.length c,.int .i64 0,.int .u64 m,.int .i64 0]∧Ext w w') (fun i _=>l.length - (intOf i).toNat)
 case atStart=>exact ⟨0,_,by omega,rfl,B0.out,X0.out⟩
 case round =>
  obtain ⟨k,m,hk1,rfl,hb,hx⟩:=hrel
  have HBK:=Lib.hid hb
  have HX:=Lib.hid hx
  have bc:=hb.cell
  have bf:=hb.frozen
  by_cases hlt:k < l.length
  · obtain ⟨b,q,cs,rfl,_,hr,hc⟩:=HK.out k hlt
    obtain ⟨rfl,g1,g2⟩:=hr
    have c0:=hx.some (hc 0 _ rfl)
    simp only [EByte,Nat.add_zero,Nat.mul_one] at c0
    clear hc hb hx
    by_cases h64:k < 64
    · go_wp2_with fail
      go_region
      go_wp2_with fail
      generalize IntKind.u64.wrap _=m2
      exact ⟨⟨k+1,m2,by omega,by go_num,Blk.ext (by simpa using HBK.out.set_ 2 (.int .u64 m2)) (Ext.refl _).drew,(HX.out.setCell HB.out _).drew⟩,by simp [intOf];omega⟩
    · go_wp2_with fail
      all_goals (go_ret;first
       | exact ⟨B,rfl,0,m,_,by simpa using HBK.out.set_ 3 (.int .i64 ((l.length:Int) / 20)),Nat.zero_le _,by omega,by omega,HX.out.setCell HB.out _,HB.out⟩
       | exact ⟨B,rfl,0,m,12,by simpa using (HBK.out.set_ 3 (.int .i64 ((l.length:Int) / 20))).set_ 3 (.int .i64 12),Nat.zero_le _,by decide,by decide,(HX.out.setCell HB.out _).setCell HB.out _,HB.out⟩)
  · obtain rfl:k=l.length:=by omega
    clear hb hx
    go_wp2_with fail
    all_goals (go_ret;first
     | exact ⟨B,rfl,0,m,_,by simpa using HBK.out.set_ 3 (.int .i64 ((l.length:Int) / 20)),Nat.zero_le _,by omega,by omega,HX.out.setCell HB.out _,HB.out⟩
     | exact ⟨B,rfl,0,m,12,by simpa using (HBK.out.set_ 3 (.int .i64 ((l.length:Int) / 20))).set_ 3 (.int .i64 12),Nat.zero_le _,by decide,by decide,(HX.out.setCell HB.out _).setCell HB.out _,HB.out⟩)
end Go.Proofs.Ytlonjlaecaemgaa
