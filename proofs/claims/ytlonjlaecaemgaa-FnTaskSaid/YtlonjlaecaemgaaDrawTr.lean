/- Drawing what FnTask looks at: a task, a text that may hold one, some tasks. -/
import Derived.Test.YtlonjlaecaemgaaDrawTs
import Derived.Test.YtlonjlaecaemgaaTLaw
set_option maxHeartbeats 4000000
set_option maxRecDepth 50000
namespace Go.Proofs.Ytlonjlaecaemgaa
open Go.RowKit
attribute [local irreducible] wpQuiet
theorem ints_i64 {S:Nat→Prop} {w:World} {v:Value} {l:List Int} (h:Rd EInt S w v l):∀ y∈l,I64 y:=fun y hy=>by
 obtain ⟨k,hk⟩:=List.getElem?_of_mem hy
 obtain ⟨_,_,_,_,_,hkk⟩:=h
 obtain ⟨_,_,_,_,_,⟨_,h64⟩,_⟩:=hkk k y hk
 exact h64
theorem nums_one {n:Int} (h:I64 n):(putNum n).size≤10:=by
 have:=nums_size (l:=[n]) (by simpa using h)
 rw [nums_cons,ByteArray.size_append] at this
 simp only [List.length_cons,List.length_nil] at this
 omega
theorem taskBytes_size {x:Task} (hf:FitTask x) (ho:x.owner.size≤100) (hl:x.nodes.length≤6) (hn:∀ n∈x.nodes,I64 n):(taskBytes x).size≤400:=by
 unfold taskBytes
 split
 · rw [task_parts]
   obtain ⟨a1,a2,a3,a4,a5,a6,a7,a8,a9,a10,a11,a12,a13⟩:=hf
   have hp:(putText x.owner).size≤110:=by
    unfold putText
    split
    · decide
    · have:=nums_one (n:=(x.owner.size:Int)) (by unfold I64;omega)
      rw [ByteArray.size_append]
      omega
   have q:=nums_size hn
   have b1:=nums_one a1;have b2:=nums_one a2;have b3:=nums_one a3;have b5:=nums_one a5;have b6:=nums_one a6;have b7:=nums_one a7;have b8:=nums_one a8;have b9:=nums_one a9;have b10:=nums_one a10;have b11:=nums_one a11;have b12:=nums_one a12;have b13:=nums_one a13
   have b14:=nums_one (n:=(x.nodes.length:Int)) (by unfold I64;omega)
   simp only [ByteArray.size_append]
   omega
 · decide
theorem spoil_any {S:Nat→Prop} (l:List Int) (v:Value) (w0:World) (h:Rd EByte S w0 v l) (B:Nat) (w:World) (hs:SrcAt l v w0 w B) (t:ByteArray) (ht:t.size≤1000) :
 Calls Try.prog 26 #[.pointer (some ⟨B,0,none⟩),.string t] w fun e w'=>∃ u:ByteArray,e=.returned (.string u)∧u.size≤t.size+1∧SrcAt l v w0 w' B∧Kept [B] w w':=by
 have HN:=Lib.hid fun (W:World) (hW:SrcAt l v w0 W B) (most:Int) (h1:1≤most) (h2:most≤1152921504606846976)=>srcN_a l v w0 h most h1 h2 B W hW
 have HO:=Lib.hid fun (W:World) (hW:SrcAt l v w0 W B) (most:Int) (h1:1 < most) (h2:most≤1152921504606846976)=>srcOne_any l v w0 h most h1 h2 B W hW
 have HS:=Lib.hid hs
 have hcv:=conv_byte1
 clear h hs
 go_enter Try.func26,Try.ntmps26
 go_upto_region 2 with (go_at_call 25;(with_reducible refine (HN.out _ HS.out _ (by omega) (by omega)).mono ?_);rintro e w1 ⟨r1,rfl,p0,p1,s1,k1⟩;have S1:=Lib.hid s1;have K1:=Lib.hid k1;clear s1 k1)
 obtain ⟨k,rfl⟩:∃ k:Nat,r1=k:=⟨r1.toNat,by omega⟩
 go_upto_region 3 with (go_at_call 25;(with_reducible refine (HN.out _ S1.out _ (by decide) (by decide)).mono ?_);rintro e w2 ⟨r2,rfl,q0,q1,s2,k2⟩;have S2:=Lib.hid s2;have K2:=Lib.hid (K1.out.trans k2);clear s2 k2)
 generalize hc:strOfNums _=c
 have hc1:c.size=1:=by rw [← hc];exact strOfNums_size _
 obtain ⟨W3,hW3,hx3⟩:∃ W,W=w2.alloc _∧Ext w2 W:=⟨_,rfl,(Ext.refl _).alloc _⟩
 rw [← hW3]
 have S3:=Lib.hid (S2.out.ext hx3)
 have K3:Hid (Kept [B] w W3):=Lib.hid (K2.out.trans (Kept.of_ext hx3))
 clear hc hW3 hx3
 generalize UInt8.toNat _=bt
 clear S1 K1 S2 K2 HS q0 q1
 go_cut [24] from 7 (fun c' wx=>∃ b:Bool,c'=.bool b∧(b=false→k < t.size)∧SrcAt l v w0 wx B∧Kept [B] w wx)
 case first =>
  by_cases hk:(k:Int)=t.size
  · go_wp2_with fail
    go_meet
    exact ⟨_,rfl,by simp,S3.out,K3.out⟩
  · go_wp2_with (go_at_call 27;(with_reducible refine (HO.out _ S3.out _ (by decide) (by decide)).mono ?_);rintro e w4 ⟨r4,rfl,s4,k4⟩;have S4:=Lib.hid s4;have K4:=Lib.hid (K3.out.trans k4);clear s4 k4)
    go_meet
    exact ⟨_,rfl,fun _=>by omega,S4.out,K4.out⟩
 case rest =>
 obtain ⟨b,rfl,hb,s4,k4⟩:=hcut
 have S4:=Lib.hid s4
 have K4:=Lib.hid k4
 have hkt:k≤t.size:=by omega
 have z1:(t.extract 0 k).size=k:=by rw [ByteArray.size_extract];omega
 clear s4 k4 S3 K3 p0 p1
 cases b with
 | true =>
   go_wp2_with fail
   have x1:(t.extract 0 k ++ c).size≤2000:=by rw [ByteArray.size_append];omega
   go_region
   go_wp2_with fail
   go_ret
   exact ⟨_,rfl,(by simp only [ByteArray.size_append,ByteArray.size_extract];omega),S4.out.ext (Ext.refl _).drew,K4.out.trans (Kept.of_ext (Ext.refl _).drew)⟩
 | false =>
   have hlt:=hb rfl
   go_wp2_with (go_at_call 27;(with_reducible refine (HO.out _ S4.out _ (by decide) (by decide)).mono ?_);rintro e w5 ⟨r5,rfl,s5,k5⟩;have S5:=Lib.hid s5;have K5:=Lib.hid (K4.out.trans k5);clear s5 k5)
   · go_region
     go_wp2_with fail
     go_ret
     exact ⟨_,rfl,(by simp only [ByteArray.size_append,ByteArray.size_extract];omega),S5.out.ext (Ext.refl _).drew,K5.out.trans (Kept.of_ext (Ext.refl _).drew)⟩
   · have x1:(t.extract 0 k ++ c).size≤2000:=by rw [ByteArray.size_append];omega
     go_region
     go_wp2_with fail
     go_ret
     exact ⟨_,rfl,(by simp only [ByteArray.size_append,ByteArray.size_extract];omega),S5.out.ext (Ext.refl _).drew,K5.out.trans (Kept.of_ext (Ext.refl _).drew)⟩
theorem drawTaskBytes_any {S:Nat→Prop} (l:List Int) (v:Value) (w:World) (h:Rd EByte S w v l) :
 Calls Try.prog 4 #[v] w fun e w'=>∃ (x:Task) (cs:List Value) (F:List Nat),e=.returned (.agg cs.toArray)∧OTask.own w' cs x F∧SmT x∧Ext w w':=by
 have HS:=Lib.hid fun (w0:World) (hx:Ext w w0)=>source_any l v w0 (h.ext hx)
 have HT:=Lib.hid fun (w0:World) (hx:Ext w w0) (B:Nat) (W:World) (hW:SrcAt l v w0 W B)=>l12Task_any l v w0 (h.ext hx) B W hW
 clear h
 go_enter Try.func4,Try.ntmps4
 go_upto_region 1 with (fail)
 obtain ⟨W,R,hW,hR,hx0,r0⟩:∃ W R,W=w.alloc (.cells #[.int .i64 0,.int .i64 0,.int .i64 0,.string ⟨#[]⟩,.int .i64 0,.int .i64 0,.int .i64 0,.int .i64 0,.int .i64 0,.int .i64 0,.int .i64 0,.int .i64 0,.int .i64 0,.slice none 0 0] 27)∧R=w.heap.size∧Ext w W∧Blk W R 27 #[.int .i64 0,.int .i64 0,.int .i64 0,.string ⟨#[]⟩,.int .i64 0,.int .i64 0,.int .i64 0,.int .i64 0,.int .i64 0,.int .i64 0,.int .i64 0,.int .i64 0,.int .i64 0,.slice none 0 0]:=⟨_,_,rfl,rfl,(Ext.refl w).alloc _,Blk.new _ _ _⟩
 rw [← hW,← hR]
 have R0:=Lib.hid r0
 have X0:=Lib.hid hx0
 have HR:Hid (w.heap.size≤R):=Lib.hid (by omega)
 clear hW hR hx0 r0
 go_wp2_with (first
  | (go_at_call 21;(with_reducible refine (HS.out _ X0.out).mono ?_);rintro e w1 ⟨B,rfl,s1⟩;have S1:=Lib.hid s1;clear s1)
  | (go_at_call 22;(with_reducible refine (HT.out _ X0.out _ _ S1.out).mono ?_);rintro e w4 ⟨x,cs,G,rfl,⟨v1,rfl,fx,og⟩,ox,nx,gG,s4,k4⟩;obtain ⟨A4,c4,rfl,-⟩:=og.form;simp only [cellsTask];have R4:Hid (Blk w4 R 27 #[.int .i64 0,.int .i64 0,.int .i64 0,.string ⟨#[]⟩,.int .i64 0,.int .i64 0,.int .i64 0,.int .i64 0,.int .i64 0,.int .i64 0,.int .i64 0,.int .i64 0,.int .i64 0,.slice none 0 0]):=Lib.hid (R0.out.ext s4.old);have OG:=Lib.hid og;have FX:=Lib.hid fx;have SX:Hid (SmT x):=Lib.hid ⟨ox,nx⟩;have X4:=Lib.hid (X0.out.trans s4.old);have GR:Hid (R∉G):=Lib.hid (fun hb=>absurd (gG R hb) (by have:=(R0.out.ext S1.out.old).lt;omega));clear s4 k4 og fx ox nx gG)
  | (refine wpList_store_mid rfl 27 _ _ rfl R 0 #[.int .i64 x.label.level,.int .i64 x.label.set,.int .i64 x.id,.string x.owner,.int .i64 x.need,.int .i64 x.long,.int .i64 x.prio,.int .i64 x.under.level,.int .i64 x.under.set,.int .i64 x.after,.int .i64 x.born,.int .i64 x.state,.int .i64 x.start,.slice A4 x.nodes.length c4] rfl rfl (Blk.there (t:=27) (cs:=#[.int .i64 0,.int .i64 0,.int .i64 0,.string ⟨#[]⟩,.int .i64 0,.int .i64 0,.int .i64 0,.int .i64 0,.int .i64 0,.int .i64 0,.int .i64 0,.int .i64 0,.int .i64 0,.slice none 0 0]) R4.out) (by kernel_rfl) (all_oneCell_toArray (cs:=[.int .i64 x.label.level,.int .i64 x.label.set,.int .i64 x.id,.string x.owner,.int .i64 x.need,.int .i64 x.long,.int .i64 x.prio,.int .i64 x.under.level,.int .i64 x.under.set,.int .i64 x.after,.int .i64 x.born,.int .i64 x.state,.int .i64 x.start,.slice A4 x.nodes.length c4]) (by simp [Value.oneCell'])) ?_))
 exact bodyPost_ret (v:=.agg #[.int .i64 x.label.level,.int .i64 x.label.set,.int .i64 x.id,.string x.owner,.int .i64 x.need,.int .i64 x.long,.int .i64 x.prio,.int .i64 x.under.level,.int .i64 x.under.set,.int .i64 x.after,.int .i64 x.born,.int .i64 x.state,.int .i64 x.start,.slice A4 x.nodes.length c4]) (results_blk Try.results4 rfl (Blk.setAll (t:=27) (cs:=#[.int .i64 0,.int .i64 0,.int .i64 0,.string ⟨#[]⟩,.int .i64 0,.int .i64 0,.int .i64 0,.int .i64 0,.int .i64 0,.int .i64 0,.int .i64 0,.int .i64 0,.int .i64 0,.slice none 0 0]) (vs:=#[.int .i64 x.label.level,.int .i64 x.label.set,.int .i64 x.id,.string x.owner,.int .i64 x.need,.int .i64 x.long,.int .i64 x.prio,.int .i64 x.under.level,.int .i64 x.under.set,.int .i64 x.after,.int .i64 x.born,.int .i64 x.state,.int .i64 x.start,.slice A4 x.nodes.length c4]) R4.out rfl) Try.underlying27 rfl (by kernel_rfl)) rfl ⟨x,_,G,rfl,⟨_,rfl,FX.out,OG.out.kept (G:=[R]) (Kept.setCells (by simp) _ _ _ (Kept.refl _ _)) (fun b hb hm=>by simp at hm;exact GR.out (hm ▸ hb))⟩,SX.out,setCells_ext HR.out _ _ _ X4.out⟩
theorem drawOrphans_any {S:Nat→Prop} (l:List Int) (v:Value) (w:World) (h:Rd EByte S w v l) :
 Calls Try.prog 13 #[v] w fun e w'=>∃ (u:Value) (m:List Task) (F:List Nat),e=.returned u∧m.length≤13∧(∀ x∈m,SmT x)∧OwS OTask 27 w' u m F∧Ext w w':=by
 have HS:=Lib.hid (source_any l v w h)
 have HT:=Lib.hid fun (B:Nat) (W:World) (hW:SrcAt l v w W B)=>l12Tasks_any l v w h B W hW
 clear h
 go_enter Try.func13,Try.ntmps13
 go_wp2_with (first
  | (go_at_call 21;(with_reducible refine HS.out.mono ?_);rintro e w1 ⟨B,rfl,s1⟩;have S1:=Lib.hid s1;clear s1)
  | (go_at_call 51;(with_reducible refine (HT.out _ _ S1.out).mono ?_);rintro e w4 ⟨u,rfl,m,F,hm,sm,o4,f4,s4,k4⟩;obtain ⟨A4,c4,rfl,-⟩:=o4.form;have O4:=Lib.hid o4;have SM:=Lib.hid sm;have X4:=Lib.hid s4.old;clear s4 k4 f4 o4 sm))
 go_ret
 exact ⟨_,m,F,rfl,hm,SM.out,O4.out,X4.out⟩
theorem drawTaskRead_any {S:Nat→Prop} (l:List Int) (v:Value) (w:World) (h:Rd EByte S w v l) :
 Calls Try.prog 6 #[v] w fun e w'=>∃ (u:ByteArray) (a:Int),e=.returned (.tuple #[.string u,.int .i64 a])∧u.size≤500∧I64 a∧Ext w w':=by
 have HS:=Lib.hid (source_any l v w h)
 have HT:=Lib.hid fun (B:Nat) (W:World) (hW:SrcAt l v w W B)=>l12Task_any l v w h B W hW
 have HN:=Lib.hid fun (B:Nat) (W:World) (hW:SrcAt l v w W B) (most:Int) (h1:1≤most) (h2:most≤1152921504606846976)=>srcN_a l v w h most h1 h2 B W hW
 have HO:=Lib.hid fun (B:Nat) (W:World) (hW:SrcAt l v w W B) (most:Int) (h1:1 < most) (h2:most≤1152921504606846976)=>srcOne_any l v w h most h1 h2 B W hW
 have HE:=Lib.hid fun (B:Nat) (W:World) (hW:SrcAt l v w W B)=>srcEdge_any l v w h B W hW
 have HP:=Lib.hid fun (B:Nat) (W:World) (hW:SrcAt l v w W B)=>spoil_any l v w h B W hW
 clear h
 go_enter Try.func6,Try.ntmps6
 go_upto_block 0 with (first
  | (go_at_call 21;(with_reducible refine HS.out.mono ?_);rintro e w1 ⟨B,rfl,s1⟩;have S1:=Lib.hid s1;clear s1)
  | (go_at_call 22;(with_reducible refine (HT.out _ _ S1.out).mono ?_);rintro e w2 ⟨x,cs,G,rfl,og,ox,nx,gG,s2,k2⟩;have OG:=Lib.hid (OTask.rel og);have ZX:Hid ((taskBytes x).size≤400):=Lib.hid (by obtain ⟨v1,-,fx,oi⟩:=og;exact taskBytes_size fx ox (by omega) (ints_i64 oi.rd));have S2:=Lib.hid s2;clear s2 k2 og ox nx gG)
  | (go_at_call 9;(with_reducible refine (specTaskBytes_any x cs _ OG.out).mono ?_);rintro e w3 ⟨rfl,x3⟩;have S3:=Lib.hid (S2.out.ext x3);generalize taskBytes x=t at *;clear x3)
  | (go_at_call 25;(with_reducible refine (HN.out _ _ S3.out _ (by decide) (by decide)).mono ?_);rintro e w4 ⟨r4,rfl,p0,p1,s4,k4⟩;have S4:=Lib.hid s4;clear s4 k4))
 have ZT:=ZX.out
 clear ZX
 go_cut [5] from 6 (fun s wx=>∃ t':ByteArray,s=.string t'∧t'.size≤401∧SrcAt l v w wx B)
 case first =>
  by_cases h0:r4=0
  · subst h0
    go_wp2_with (go_at_call 26;(with_reducible refine (HP.out _ _ S4.out t (by omega)).mono ?_);rintro e w5 ⟨u5,rfl,z5,s5,k5⟩;have S5:=Lib.hid s5;clear s5 k5)
    go_meet
    exact ⟨_,rfl,by omega,S5.out⟩
  by_cases h1:r4=1
  · subst h1
    go_wp2_with (go_at_call 25;(with_reducible refine (HN.out _ _ S4.out _ (by omega) (by omega)).mono ?_);rintro e w5 ⟨r5,rfl,q0,q1,s5,k5⟩;have S5:=Lib.hid s5;obtain ⟨k,rfl⟩:∃ q:Nat,r5=q:=⟨r5.toNat,by omega⟩;clear s5 k5)
    go_meet
    exact ⟨_,rfl,(by simp only [ByteArray.size_extract];omega),S5.out⟩
  · go_wp2_with fail
    go_meet
    exact ⟨_,rfl,by omega,S4.out⟩
 case rest =>
 obtain ⟨u,rfl,zu,s5⟩:=hcut
 have S5:=Lib.hid s5
 clear s5 S4 S3
 go_wp2_with (first
  | (go_at_call 27;(with_reducible refine (HO.out _ _ S5.out _ (by decide) (by decide)).mono ?_);rintro e w6 ⟨r6,rfl,s6,k6⟩;have S6:=Lib.hid s6;clear s6 k6 S5)
  | (go_at_call 27;(with_reducible refine (HO.out _ _ S6.out _ (by decide) (by decide)).mono ?_);rintro e w7 ⟨r7,rfl,s7,k7⟩;have S7:=Lib.hid s7;clear s7 k7)
  | (go_at_call 28;(with_reducible refine (HE.out _ _ S7.out).mono ?_);rintro e w8 ⟨r8,rfl,i8,s8,k8⟩;have S8:=Lib.hid s8;have I8:=Lib.hid i8;clear s8 k8 i8))
 all_goals go_ret2
 · exact ⟨_,_,rfl,(by simp only [ByteArray.size_append];show _+u.size≤500;have:(⟨#[97,98]⟩:ByteArray).size=2:=rfl;omega),by unfold I64;decide,S6.out.old⟩
 · exact ⟨_,_,rfl,by omega,I8.out,S8.out.old⟩
 · exact ⟨_,_,rfl,by omega,by unfold I64;decide,S7.out.old⟩
end Go.Proofs.Ytlonjlaecaemgaa
