/- Drawing labels and uses out of bytes. -/
import Derived.Test.YtlonjlaecaemgaaDrawSz
import Derived.Deep.RegionLaw
namespace Go.Proofs.Ytlonjlaecaemgaa
open Go.RowKit
attribute [local irreducible] wpQuiet
def tri (a b c:Int) (k:Nat):Int:=if k=0 then a else if k=1 then b else c
theorem tri_at (a b c:Int) {k:Nat} (h:k < 3):([.int .i64 a,.int .i64 b,.int .i64 c]:List Value)[k]? = some (.int .i64 (tri a b c k)):=by
 rcases (by omega:k=0∨k=1∨k=2) with rfl | rfl | rfl <;> rfl
theorem tri_fit (a b c m n:Int) (h:m≤a∧a≤n) (h2:m≤b∧b≤n) (h3:m≤c∧c≤n) (k:Nat):m≤tri a b c k∧tri a b c k≤n:=by
 unfold tri
 split
 · exact h
 · split
   · exact h2
   · exact h3
theorem blk_kept {w w':World} {B R:Nat} {T:TypeId} {C:Array Value} (h:Blk w R T C) (hk:Kept [B] w w') (hR:R∉[B]):Blk w' R T C:=(hk.block R h.lt hR).trans h
theorem lab_leaf {l:List Int} {v:Value} {w0 w V:World} {B R:Nat} (x y:Int) (hr:Blk V R 24 #[.int .i64 0,.int .i64 0]) (hs:SrcAt l v w0 V B) (hk:Kept [B] w V) (hB:R∉[B]) (hR:w.heap.size≤R) (h0:w0.heap.size≤R) :
 ∃ V6,V6=(V.setCell ⟨R,0,none⟩ (.int .i64 x)).setCell ⟨R,1,none⟩ (.int .i64 y)∧Blk V6 R 24 #[.int .i64 x,.int .i64 y]∧SrcAt l v w0 V6 B∧Kept [B] w V6 :=
 ⟨_,rfl,by simpa using (hr.set_ 0 (.int .i64 x)).set_ 1 (.int .i64 y),src_put (R:=R) (o:=1) (vs:=[.int .i64 y]) (src_put (R:=R) (o:=0) (vs:=[.int .i64 x]) hs (fun e=>hB (by simp [e])) h0) (fun e=>hB (by simp [e])) h0,kept_put (R:=R) (o:=1) (vs:=[.int .i64 y]) (kept_put (R:=R) (o:=0) (vs:=[.int .i64 x]) hk hR) hR⟩
set_option maxHeartbeats 4000000 in
set_option maxRecDepth 100000 in
theorem l02Label_any {S:Nat→Prop} (l:List Int) (v:Value) (w0:World) (h:Rd EByte S w0 v l) (B:Nat) (w:World) (hs:SrcAt l v w0 w B) :
 Calls Try.prog 61 #[.pointer (some ⟨B,0,none⟩)] w fun e w'=>∃ x:Label,e=.returned (.agg #[.int .i64 x.level,.int .i64 x.set])∧FitLabel x∧SrcAt l v w0 w' B∧Kept [B] w w':=by
 have HN:=Lib.hid fun (W:World) (hW:SrcAt l v w0 W B) (most:Int) (h1:1 < most) (h2:most≤1152921504606846976)=>srcN_thru l v w0 h most h1 h2 B W hW
 have HO:=Lib.hid fun (W:World) (hW:SrcAt l v w0 W B) (most:Int) (h1:1 < most) (h2:most≤1152921504606846976)=>srcOne_any l v w0 h most h1 h2 B W hW
 have HS:=Lib.hid hs
 have hlt:=hs.lt
 clear h hs
 go_enter Try.func61,Try.ntmps61
 go_upto_region 1 with (fail)
 obtain ⟨W,R,hW,hR,hx0,r0⟩:∃ W R,W=w.alloc (.cells #[.int .i64 0,.int .i64 0] 24)∧R=w.heap.size∧Ext w W∧Blk W R 24 #[.int .i64 0,.int .i64 0]:=⟨_,_,rfl,rfl,(Ext.refl w).alloc _,Blk.new _ _ _⟩
 have hRB:R∉[B]:=by simp;omega
 rw [← hW,← hR]
 have R0:=Lib.hid r0
 have S0:=Lib.hid (HS.out.ext hx0)
 have K0:Hid (Kept [B] w W):=Lib.hid (Kept.of_ext hx0)
 have HRB:=Lib.hid hRB
 have HRw:Hid (w.heap.size≤R):=Lib.hid (by omega)
 have HR0:Hid (w0.heap.size≤R):=Lib.hid (by have:=HS.out.old.size;omega)
 clear hW hR hx0 r0 hRB hlt
 go_upto_region 2 with (first | (go_at_call 27;(with_reducible refine (HO.out _ S0.out _ (by decide) (by decide)).mono ?_);rintro e w2 ⟨o,rfl,s2,k2⟩;have S2:=Lib.hid s2;have K2:=Lib.hid (K0.out.trans k2);have R2:Hid (Blk w2 R 24 #[.int .i64 0,.int .i64 0]):=Lib.hid ((k2.block R R0.out.lt HRB.out).trans R0.out);clear s2 k2) | (go_at_call 25;(with_reducible refine (HN.out _ S3.out _ (by decide) (by decide)).mono ?_);rintro e w4 ⟨y,rfl,y0,y1,s4,k4⟩;have S4:=Lib.hid s4;have K4:=Lib.hid (K3.out.trans k4.kept);have R4:Hid (Blk w4 R 24 #[.int .i64 0,.int .i64 0]):=Lib.hid ((k4.kept.block R R3.out.lt HRB.out).trans R3.out);clear s4 k4) | (go_at_call 25;(with_reducible refine (HN.out _ S2.out _ (by decide) (by decide)).mono ?_);rintro e w3 ⟨x,rfl,x0,x1,s3,k3⟩;have S3:=Lib.hid s3;have K3:=Lib.hid (K2.out.trans k3.kept);have R3:Hid (Blk w3 R 24 #[.int .i64 0,.int .i64 0]):=Lib.hid ((k3.kept.block R R2.out.lt HRB.out).trans R2.out);clear s3 k3) | (refine wpList_store_mid rfl 24 _ _ rfl R 0 #[.int .i64 x,.int .i64 y] rfl rfl (Blk.there (t:=24) (cs:=#[.int .i64 0,.int .i64 0]) R4.out) (by kernel_rfl) (all_oneCell_toArray (cs:=[.int .i64 x,.int .i64 y]) (by simp [Value.oneCell'])) ?_))
 · obtain ⟨N0,hN⟩:∃ N,w2.heap.size=N:=⟨_,rfl⟩
   have hb2:=S2.out.lt
   have NB0:Hid (N0≠B):=Lib.hid (by omega)
   have NB1:Hid (N0+1≠B):=Lib.hid (by omega)
   clear hb2
   go_region_law (first | (have q3:=S3.out;clear q3;go_simp;go_at_call 25;(with_reducible refine (HN.out _ (by repeat (first | with_reducible exact S3.out | with_reducible refine SrcAt.alloc ?_ _ | with_reducible refine SrcAt.ext ?_ (Ext.refl _).drew)) _ (by decide) (by decide)).mono ?_);rintro e w4 ⟨y,rfl,y0,y1,s4,k4⟩;obtain ⟨ky,rfl⟩:∃ k:Nat,y=k:=⟨y.toNat,by omega⟩;have tyb:=tri_at (-1) 7 8 (k:=ky) (by omega);have c4:=fun i=>k4.cell (b:=N0) NB0.out i;have d4:=fun i=>k4.cell (b:=N0+1) NB1.out i;have z4:=k4.size;have S4:=Lib.hid s4;have R4:Hid (Blk w4 R 24 #[.int .i64 0,.int .i64 0]):=Lib.hid (blk_kept (by repeat (first | with_reducible exact R3.out | with_reducible refine Blk.ext ?_ ((Ext.refl _).alloc _) | with_reducible refine Blk.ext ?_ (Ext.refl _).drew)) k4.kept HRB.out);have K4:Hid (Kept [B] w w4):=Lib.hid (Kept.trans (by repeat (first | with_reducible exact K3.out | with_reducible refine Kept.trans ?_ (Kept.of_ext ((Ext.refl _).alloc _)) | with_reducible refine Kept.trans ?_ (Kept.of_ext (Ext.refl _).drew))) k4.kept);have q0:=R4.out.cell 0;have q1:=R4.out.cell 1;have qf:=R4.out.frozen;have qa0:=fun o=>(R4.out.ext ((Ext.refl _).alloc o)).cell 0;have qa1:=fun o=>(R4.out.ext ((Ext.refl _).alloc o)).cell 1;have qaf:=fun o=>(R4.out.ext ((Ext.refl _).alloc o)).frozen;have qb0:=fun o o2=>(R4.out.ext (((Ext.refl _).alloc o).alloc o2)).cell 0;have qb1:=fun o o2=>(R4.out.ext (((Ext.refl _).alloc o).alloc o2)).cell 1;have qbf:=fun o o2=>(R4.out.ext (((Ext.refl _).alloc o).alloc o2)).frozen;clear s4 k4) | (go_simp;go_at_call 25;(with_reducible refine (HN.out _ (by repeat (first | with_reducible exact S2.out | with_reducible refine SrcAt.alloc ?_ _ | with_reducible refine SrcAt.ext ?_ (Ext.refl _).drew)) _ (by decide) (by decide)).mono ?_);rintro e w3 ⟨x,rfl,x0,x1,s3,k3⟩;obtain ⟨kx,rfl⟩:∃ k:Nat,x=k:=⟨x.toNat,by omega⟩;have txa:=tri_at (-1) 3 4 (k:=kx) (by omega);have c3:=fun i=>k3.cell (b:=N0) NB0.out i;have d3:=fun i=>k3.cell (b:=N0+1) NB1.out i;have z3:=k3.size;have S3:=Lib.hid s3;have R3:Hid (Blk w3 R 24 #[.int .i64 0,.int .i64 0]):=Lib.hid (blk_kept (by repeat (first | with_reducible exact R2.out | with_reducible refine Blk.ext ?_ ((Ext.refl _).alloc _) | with_reducible refine Blk.ext ?_ (Ext.refl _).drew)) k3.kept HRB.out);have K3:Hid (Kept [B] w w3):=Lib.hid (Kept.trans (by repeat (first | with_reducible exact K2.out | with_reducible refine Kept.trans ?_ (Kept.of_ext ((Ext.refl _).alloc _)) | with_reducible refine Kept.trans ?_ (Kept.of_ext (Ext.refl _).drew))) k3.kept);clear s3 k3))
   all_goals
    first
     | (obtain ⟨V6,hV6,r6,s6,k6⟩:=lab_leaf (tri (-1) 3 4 kx) (tri (-1) 7 8 ky) (R4.out.ext (Ext.refl w4)) (S4.out.ext (Ext.refl w4)) (K4.out.trans (Kept.of_ext (Ext.refl w4))) HRB.out HRw.out HR0.out;rw [← hV6])
     | (obtain ⟨V6,hV6,r6,s6,k6⟩:=lab_leaf (tri (-1) 3 4 kx) (tri (-1) 7 8 ky) (R4.out.ext ((Ext.refl w4).alloc (.cells #[.int .i64 (-1),.int .i64 3,.int .i64 4] 2))) (S4.out.ext ((Ext.refl w4).alloc (.cells #[.int .i64 (-1),.int .i64 3,.int .i64 4] 2))) (K4.out.trans (Kept.of_ext ((Ext.refl w4).alloc (.cells #[.int .i64 (-1),.int .i64 3,.int .i64 4] 2)))) HRB.out HRw.out HR0.out;rw [← hV6])
     | (obtain ⟨V6,hV6,r6,s6,k6⟩:=lab_leaf (tri (-1) 3 4 kx) (tri (-1) 7 8 ky) (R4.out.ext ((Ext.refl w4).alloc (.cells #[.int .i64 (-1),.int .i64 7,.int .i64 8] 2))) (S4.out.ext ((Ext.refl w4).alloc (.cells #[.int .i64 (-1),.int .i64 7,.int .i64 8] 2))) (K4.out.trans (Kept.of_ext ((Ext.refl w4).alloc (.cells #[.int .i64 (-1),.int .i64 7,.int .i64 8] 2)))) HRB.out HRw.out HR0.out;rw [← hV6])
     | (obtain ⟨V6,hV6,r6,s6,k6⟩:=lab_leaf (tri (-1) 3 4 kx) (tri (-1) 7 8 ky) (R4.out.ext (((Ext.refl w4).alloc (.cells #[.int .i64 (-1),.int .i64 3,.int .i64 4] 2)).alloc (.cells #[.int .i64 (-1),.int .i64 7,.int .i64 8] 2))) (S4.out.ext (((Ext.refl w4).alloc (.cells #[.int .i64 (-1),.int .i64 3,.int .i64 4] 2)).alloc (.cells #[.int .i64 (-1),.int .i64 7,.int .i64 8] 2))) (K4.out.trans (Kept.of_ext (((Ext.refl w4).alloc (.cells #[.int .i64 (-1),.int .i64 3,.int .i64 4] 2)).alloc (.cells #[.int .i64 (-1),.int .i64 7,.int .i64 8] 2)))) HRB.out HRw.out HR0.out;rw [← hV6])
     | (obtain ⟨V6,hV6,r6,s6,k6⟩:=lab_leaf (tri (-1) 3 4 kx) (tri (-1) 7 8 ky) (R4.out.ext (((Ext.refl w4).alloc (.cells #[.int .i64 (-1),.int .i64 7,.int .i64 8] 2)).alloc (.cells #[.int .i64 (-1),.int .i64 3,.int .i64 4] 2))) (S4.out.ext (((Ext.refl w4).alloc (.cells #[.int .i64 (-1),.int .i64 7,.int .i64 8] 2)).alloc (.cells #[.int .i64 (-1),.int .i64 3,.int .i64 4] 2))) (K4.out.trans (Kept.of_ext (((Ext.refl w4).alloc (.cells #[.int .i64 (-1),.int .i64 7,.int .i64 8] 2)).alloc (.cells #[.int .i64 (-1),.int .i64 3,.int .i64 4] 2)))) HRB.out HRw.out HR0.out;rw [← hV6])
    have FX:=tri_fit (-1) 3 4 (-1) 4 (by decide) (by decide) (by decide) kx
    have FY:=tri_fit (-1) 7 8 (-1) 8 (by decide) (by decide) (by decide) ky
    clear hV6
    go_wp2_with fail
    exact bodyPost_ret (v:=.agg #[.int .i64 (tri (-1) 3 4 kx),.int .i64 (tri (-1) 7 8 ky)]) (results_blk Try.results61 rfl r6 Try.underlying24 rfl (by kernel_rfl)) rfl ⟨⟨tri (-1) 3 4 kx,tri (-1) 7 8 ky⟩,rfl,(by unfold FitLabel I64;simp only;omega),s6,k6⟩
 · exact bodyPost_ret (v:=.agg #[.int .i64 x,.int .i64 y]) (results_blk Try.results61 rfl (Blk.setAll (t:=24) (cs:=#[.int .i64 0,.int .i64 0]) (vs:=#[.int .i64 x,.int .i64 y]) R4.out rfl) Try.underlying24 rfl (by kernel_rfl)) rfl ⟨⟨x,y⟩,rfl,(by unfold FitLabel I64;simp only;omega),src_put S4.out (fun e=>HRB.out (by simp [e])) HR0.out,kept_put K4.out HRw.out⟩
end Go.Proofs.Ytlonjlaecaemgaa
