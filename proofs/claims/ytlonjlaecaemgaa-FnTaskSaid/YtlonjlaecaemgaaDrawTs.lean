/- Drawing tasks out of bytes. -/
import Derived.Test.YtlonjlaecaemgaaDrawTk
namespace Go.Proofs.Ytlonjlaecaemgaa
open Go.RowKit
attribute [local irreducible] wpQuiet
def TsAt (l:List Int) (v:Value) (w0:World) (B:Nat) (w:World) (C:Nat) (x:Task) (A:Option Addr) (c:Nat) (G:List Nat) (u:Value) (m:List Task) (F:List Nat) (wx:World):Prop :=
 Blk wx C 27 #[.int .i64 x.label.level,.int .i64 x.label.set,.int .i64 x.id,.string x.owner,.int .i64 x.need,.int .i64 x.long,.int .i64 x.prio,.int .i64 x.under.level,.int .i64 x.under.set,.int .i64 x.after,.int .i64 x.born,.int .i64 x.state,.int .i64 x.start,.slice A x.nodes.length c]∧OwS OInt 2 wx (.slice A x.nodes.length c) x.nodes G∧OwS OTask 27 wx u m F∧(∀ b∈F,w.heap.size≤b)∧(∀ b∈G,w.heap.size≤b)∧(∀ b∈F,b∉G)∧C∉F∧C∉G∧SrcAt l v w0 wx B∧Kept [B] w wx∧B < w.heap.size∧w.heap.size≤C
theorem TsAt.s {l:List Int} {v:Value} {w0:World} {B:Nat} {w:World} {C:Nat} {x:Task} {A:Option Addr} {c:Nat} {G:List Nat} {u:Value} {m:List Task} {F:List Nat} {wx:World} (h:TsAt l v w0 B w C x A c G u m F wx):SrcAt l v w0 wx B:=h.2.2.2.2.2.2.2.2.1
theorem TsAt.src {l:List Int} {v:Value} {w0:World} {B:Nat} {w:World} {C:Nat} {x:Task} {A:Option Addr} {c:Nat} {G:List Nat} {u:Value} {m:List Task} {F:List Nat} {wx w2:World} (h:TsAt l v w0 B w C x A c G u m F wx) (s:SrcAt l v w0 w2 B) (k:Kept [B] wx w2):TsAt l v w0 B w C x A c G u m F w2:=by
 obtain ⟨hc,hg,ho,hF,hG,hd,h1,h2,-,hk,h3,h4⟩:=h
 exact ⟨blk_kept hc k (by simp;omega),hg.kept k (fun b hb hm=>by simp at hm;have:=hG b hb;omega),ho.kept k (fun b hb hm=>by simp at hm;have:=hF b hb;omega),hF,hG,hd,h1,h2,s,hk.trans k,h3,h4⟩
theorem TsAt.ext {l:List Int} {v:Value} {w0:World} {B:Nat} {w:World} {C:Nat} {x:Task} {A:Option Addr} {c:Nat} {G:List Nat} {u:Value} {m:List Task} {F:List Nat} {wx w2:World} (h:TsAt l v w0 B w C x A c G u m F wx) (hx:Ext wx w2):TsAt l v w0 B w C x A c G u m F w2 :=
 h.src (h.s.ext hx) (Kept.of_ext hx)
theorem TsAt.put {l:List Int} {v:Value} {w0:World} {B:Nat} {w:World} {C:Nat} {x y:Task} {A:Option Addr} {c:Nat} {G:List Nat} {u:Value} {m:List Task} {F:List Nat} {wx:World} (h:TsAt l v w0 B w C x A c G u m F wx) (o:Nat) (vs:List Value) (hn:y.nodes=x.nodes) (hb:Blk (wx.setCells C o vs) C 27 #[.int .i64 y.label.level,.int .i64 y.label.set,.int .i64 y.id,.string y.owner,.int .i64 y.need,.int .i64 y.long,.int .i64 y.prio,.int .i64 y.under.level,.int .i64 y.under.set,.int .i64 y.after,.int .i64 y.born,.int .i64 y.state,.int .i64 y.start,.slice A y.nodes.length c]):TsAt l v w0 B w C y A c G u m F (wx.setCells C o vs):=by
 obtain ⟨hc,hg,ho,hF,hG,hd,h1,h2,hs,hk,h3,h4⟩:=h
 have kk:Kept [C] wx (wx.setCells C o vs):=Kept.setCells (by simp) _ _ _ (Kept.refl _ _)
 exact ⟨hb,hn ▸ hg.kept kk (fun b hb hm=>by simp at hm;exact h2 (hm ▸ hb)),ho.kept kk (fun b hb hm=>by simp at hm;exact h1 (hm ▸ hb)),hF,hG,hd,h1,h2,src_put hs (by omega) (by have:=hs.ge;omega),kept_put hk h4,h3,h4⟩
theorem TsAt.put1 {l:List Int} {v:Value} {w0:World} {B:Nat} {w:World} {C:Nat} {x y:Task} {A:Option Addr} {c:Nat} {G:List Nat} {u:Value} {m:List Task} {F:List Nat} {wx:World} (h:TsAt l v w0 B w C x A c G u m F wx) (o:Nat) (z:Value) (hn:y.nodes=x.nodes) (hb:Blk (wx.setCell ⟨C,o,none⟩ z) C 27 #[.int .i64 y.label.level,.int .i64 y.label.set,.int .i64 y.id,.string y.owner,.int .i64 y.need,.int .i64 y.long,.int .i64 y.prio,.int .i64 y.under.level,.int .i64 y.under.set,.int .i64 y.after,.int .i64 y.born,.int .i64 y.state,.int .i64 y.start,.slice A y.nodes.length c]):TsAt l v w0 B w C y A c G u m F (wx.setCell ⟨C,o,none⟩ z):=h.put o [z] hn hb
theorem own_at {w:World} {A:Option Addr} {n c:Nat} {m:List Task} {F:List Nat} (h:OwS OTask 27 w (.slice A n c) m F) {k:Nat} (hk:k < m.length):∃ (Bm:Nat) (p:Option Addr) (q:Nat),A=some ⟨Bm,0,none⟩∧w.rangeAt Bm (k * 14) (cellsTask (nth m k) (.slice p (nth m k).nodes.length q))∧FitTask (nth m k):=by
 obtain ⟨Bm,cc,G,cs,hv,-,-,-,⟨v1,rfl,hf,ho⟩,hr,-⟩:=h.at hk
 obtain ⟨p,q,rfl,-⟩:=ho.form
 injection hv with e1
 exact ⟨Bm,p,q,e1,hr,hf⟩
def SmT (x:Task):Prop:=x.owner.size≤100∧x.nodes.length≤4
def GotT (l:List Int) (v:Value) (w0 w:World) (B n:Nat) (u:Value) (wx:World):Prop :=
 ∃ (m:List Task) (F:List Nat),m.length≤n∧(∀ x∈m,SmT x)∧OwS OTask 27 wx u m F∧(∀ b∈F,w.heap.size≤b)∧SrcAt l v w0 wx B∧Kept [B] w wx
set_option maxHeartbeats 8000000 in
set_option maxRecDepth 100000 in
theorem l12Tasks_any {S:Nat→Prop} (l:List Int) (v:Value) (w0:World) (h:Rd EByte S w0 v l) (B:Nat) (w:World) (hs:SrcAt l v w0 w B) :
 Calls Try.prog 51 #[.pointer (some ⟨B,0,none⟩)] w fun e w'=>∃ u,e=.returned u∧GotT l v w0 w B 13 u w':=by
 have HN:=Lib.hid fun (W:World) (hW:SrcAt l v w0 W B) (most:Int) (h1:1≤most) (h2:most≤1152921504606846976)=>srcN_a l v w0 h most h1 h2 B W hW
 have HO:=Lib.hid fun (W:World) (hW:SrcAt l v w0 W B) (most:Int) (h1:1 < most) (h2:most≤1152921504606846976)=>srcOne_any l v w0 h most h1 h2 B W hW
 have HT:=Lib.hid fun (W:World) (hW:SrcAt l v w0 W B)=>l12Task_any l v w0 h B W hW
 have HS:=Lib.hid hs
 have HB:=Lib.hid hs.lt
 have hBF:∀ G:List Nat,(∀ b∈G,w.heap.size≤b)→B∉G:=fun G hG hb=>absurd (hG B hb) (by have:=HB.out;omega)
 have HBF:=Lib.hid hBF
 have hkO:∀ (W W2:World) (u:Value) (m:List Task) (F:List Nat),OwS OTask 27 W u m F→(∀ b∈F,w.heap.size≤b)→Kept [B] W W2→OwS OTask 27 W2 u m F:=fun W W2 u m F ho hF hk=>ho.kept hk (fun b hb hB=>HBF.out F hF (by simp at hB;subst hB;exact hb))
 have HKO:=Lib.hid hkO
 clear h hs hBF hkO
 go_enter Try.func51,Try.ntmps51
 go_wp2_with fail
 go_loopw [3,4] (fun u i w'=>∃ (k:Nat) (m:List Task) (F:List Nat),i=.int .i64 k∧k≤3∧m.length≤4 * k∧(∀ x∈m,SmT x)∧OwS OTask 27 w' u m F∧(∀ b∈F,w.heap.size≤b)∧SrcAt l v w0 w' B∧Kept [B] w w') (fun _ i _=>3 - (intOf i).toNat)
 case atStart=>exact ⟨0,[],[],rfl,by omega,by simp,by simp,OwS.nil _,by simp,HS.out.alloc _,Kept.of_ext ((Ext.refl _).alloc _)⟩
 case round =>
  obtain ⟨k,m,F,rfl,hk3,hm,hsm,ho,hF,hs,hk⟩:=hrel
  obtain ⟨A,c,rfl,-⟩:=ho.form
  have HO1:=Lib.hid ho
  have HF1:=Lib.hid hF
  have HS1:=Lib.hid hs
  have HK1:=Lib.hid hk
  have HM1:=Lib.hid hm
  have HSM:=Lib.hid hsm
  clear ho hF hs hk hm hsm
  by_cases hlt:(k:Int) < 3
  · go_wp2_with fail
    go_loopw [3,5] (fun u i w'=>∃ (j:Nat) (m:List Task) (F:List Nat),i=.int .i64 j∧1≤j∧j≤5∧m.length+1≤4 * k+j∧(∀ x∈m,SmT x)∧OwS OTask 27 w' u m F∧(∀ b∈F,w.heap.size≤b)∧SrcAt l v w0 w' B∧Kept [B] w w') (fun _ i _=>5 - (intOf i).toNat)
    case atStart=>exact ⟨1,m,F,rfl,by omega,by omega,by have:=HM1.out;omega,HSM.out,HO1.out,HF1.out,HS1.out,HK1.out⟩
    case round =>
     clear HO1 HF1 HS1 HK1 HM1 HSM
     obtain ⟨j,m,F,rfl,hj1,hj5,hm,hsm,ho,hF,hs,hk⟩:=hrel
     obtain ⟨A,c,rfl,-⟩:=ho.form
     have HO1:=Lib.hid ho
     have HF1:=Lib.hid hF
     have HS1:=Lib.hid hs
     have HK1:=Lib.hid hk
     have HM1:=Lib.hid hm
     have HSM:=Lib.hid hsm
     clear ho hF hs hk hm hsm
     by_cases hjt:(j:Int)≤4
     · go_upto_if 19 with (go_at_call 27;(with_reducible refine (HO.out _ HS1.out _ (by decide) (by decide)).mono ?_);rintro e w3 ⟨r3,rfl,s3,k3⟩;have S3:=Lib.hid s3;have K3:=Lib.hid (HK1.out.trans k3);have O3:=Lib.hid (HKO.out _ _ _ _ _ HO1.out HF1.out k3);clear s3 k3)
       cases r3 with
       | true =>
         go_wp2_with fail
         exact ⟨⟨k+1,m,F,by go_num,by omega,by have:=HM1.out;omega,HSM.out,O3.out,HF1.out,S3.out,K3.out⟩,by simp [intOf];omega⟩
       | false =>
         go_upto_region 9 with (go_at_call 22;(with_reducible refine (HT.out _ S3.out).mono ?_);rintro e w4 ⟨x,cs,G,rfl,⟨v1,rfl,fx,og⟩,ox,nx,gG,s4,k4⟩;obtain ⟨A4,c4,rfl,-⟩:=og.form;simp only [cellsTask];have S4:=Lib.hid s4;have K4:=Lib.hid (K3.out.trans k4);have O4:=Lib.hid (HKO.out _ _ _ _ _ O3.out HF1.out k4);have OG:=Lib.hid og;have FX:=Lib.hid fx;have SX:Hid (SmT x):=Lib.hid ⟨ox,nx⟩;have HG:=Lib.hid gG;have FG:Hid (∀ b∈F,b∉G):=Lib.hid (fun b hb hc=>absurd (O3.out.lt b hb) (by have:=gG b hc;omega));have HGw:Hid (∀ b∈G,w.heap.size≤b):=Lib.hid (fun b hb=>Nat.le_trans K3.out.size (gG b hb));clear s4 k4 og fx ox nx gG)
         obtain ⟨V,C,hV,hC,t5⟩:∃ V C,V=w4.alloc (.cells #[.int .i64 x.label.level,.int .i64 x.label.set,.int .i64 x.id,.string x.owner,.int .i64 x.need,.int .i64 x.long,.int .i64 x.prio,.int .i64 x.under.level,.int .i64 x.under.set,.int .i64 x.after,.int .i64 x.born,.int .i64 x.state,.int .i64 x.start,.slice A4 x.nodes.length c4] 27)∧C=w4.heap.size∧TsAt l v w0 B w C x A4 c4 G (.slice A m.length c) m F V:=⟨_,_,rfl,rfl,Blk.new _ _ _,OG.out.ext ((Ext.refl _).alloc _),O4.out.ext ((Ext.refl _).alloc _),HF1.out,HGw.out,FG.out,fun hb=>absurd (O4.out.lt _ hb) (Nat.lt_irrefl _),fun hb=>absurd (OG.out.lt _ hb) (Nat.lt_irrefl _),S4.out.alloc _,K4.out.trans (Kept.of_ext ((Ext.refl _).alloc _)),HB.out,K4.out.size⟩
         rw [← hV,← hC]
         have T5:=Lib.hid t5
         clear hV hC t5 S3 K3 O3 S4 K4 O4 OG HG
         have bc:=T5.out.1.cell
         have bf:=T5.out.1.frozen
         go_upto_region 13 with fail
         obtain ⟨V6,hV6,t6⟩:∃ V6,V6=(((((V.setCell ⟨C,0,none⟩ (.int .i64 k)).setCell ⟨C,1,none⟩ (.int .i64 0)).setCell ⟨C,2,none⟩ (.int .i64 j)).setCell ⟨C,7,none⟩ (.int .i64 0)).setCell ⟨C,8,none⟩ (.int .i64 0)).setCell ⟨C,9,none⟩ (.int .i64 0)∧TsAt l v w0 B w C { x with label:=⟨k,0⟩,id:=j,under:=⟨0,0⟩,after:=0 } A4 c4 G (.slice A m.length c) m F V6:=by
          have q1:TsAt l v w0 B w C { x with label:=⟨k,0⟩ } A4 c4 G (.slice A m.length c) m F ((V.setCell ⟨C,0,none⟩ (.int .i64 k)).setCell ⟨C,1,none⟩ (.int .i64 0)):=T5.out.put 0 [.int .i64 k,.int .i64 0] rfl (by simpa [World.setCells] using (T5.out.1.set_ 0 (.int .i64 k)).set_ 1 (.int .i64 0))
          have q2:TsAt l v w0 B w C { x with label:=⟨k,0⟩,id:=j } A4 c4 G (.slice A m.length c) m F (((V.setCell ⟨C,0,none⟩ (.int .i64 k)).setCell ⟨C,1,none⟩ (.int .i64 0)).setCell ⟨C,2,none⟩ (.int .i64 j)):=q1.put1 2 (.int .i64 j) rfl (by simpa using q1.1.set_ 2 (.int .i64 j))
          have q3:TsAt l v w0 B w C { x with label:=⟨k,0⟩,id:=j,under:=⟨0,0⟩ } A4 c4 G (.slice A m.length c) m F (((((V.setCell ⟨C,0,none⟩ (.int .i64 k)).setCell ⟨C,1,none⟩ (.int .i64 0)).setCell ⟨C,2,none⟩ (.int .i64 j)).setCell ⟨C,7,none⟩ (.int .i64 0)).setCell ⟨C,8,none⟩ (.int .i64 0)):=q2.put 7 [.int .i64 0,.int .i64 0] rfl (by simpa [World.setCells] using (q2.1.set_ 7 (.int .i64 0)).set_ 8 (.int .i64 0))
          exact ⟨_,rfl,q3.put1 9 (.int .i64 0) rfl (by simpa using q3.1.set_ 9 (.int .i64 0))⟩
         rw [← hV6]
         obtain ⟨y,hy,fy,sy⟩:∃ y:Task,y = { x with label:=⟨k,0⟩,id:=j,under:=⟨0,0⟩,after:=0 }∧FitTask y∧SmT y:=⟨_,rfl,by (have hF:=FX.out;unfold FitTask at hF ⊢;obtain ⟨a1,a2,a3,a4,a5,a6,a7,a8,a9,a10,a11,a12,a13⟩:=hF;refine ⟨?_,?_,?_,?_,?_,?_,?_,?_,?_,?_,?_,?_,?_⟩ <;> first | assumption | (unfold I64;dsimp only;omega)),SX.out⟩
         rw [← hy] at t6
         have T6:=Lib.hid t6
         have FY:=Lib.hid fy
         have SY:=Lib.hid sy
         clear hV6 t6 hy fy sy T5 FX SX bc bf
         go_cut [38] from 13 to 55 (fun c' wx=>∃ b:Bool,c'=.bool b∧(b=true→0 < m.length)∧TsAt l v w0 B w C y A4 c4 G (.slice A m.length c) m F wx)
         case first =>
          by_cases h0:0 < m.length
          · go_wp2_with (go_at_call 27;(with_reducible refine (HO.out _ T6.out.s _ (by decide) (by decide)).mono ?_);rintro e w7 ⟨r7,rfl,s7,k7⟩;have T7:=Lib.hid (T6.out.src s7 k7);clear s7 k7)
            go_meet
            exact ⟨_,rfl,fun _=>h0,T7.out⟩
          · go_wp2_with fail
            go_meet
            exact ⟨_,rfl,by simp,T6.out⟩
         case rest =>
         obtain ⟨b7,rfl,h0,t7⟩:=hcut
         have T7:=Lib.hid t7
         have H0:=Lib.hid h0
         clear t7 h0 T6
         go_upto_if 38 with fail
         go_cut [6] from 13 to 55 (fun p wx=>p=.pointer (some ⟨C,0,none⟩)∧∃ z:Task,FitTask z∧SmT z∧TsAt l v w0 B w C z A4 c4 G (.slice A m.length c) m F wx)
         case first =>
          cases b7 with
          | false =>
            go_wp2_with fail
            go_meet
            exact ⟨rfl,y,FY.out,SY.out,T7.out⟩
          | true =>
            have h0:=H0.out rfl
            obtain ⟨Bm,pp,qq,rfl,-⟩:=own_at T7.out.2.2.1 h0
            go_upto_region 15 with (first
             | (go_at_call 25;(with_reducible refine (HN.out _ T7.out.s _ (by omega) (by have:=HM1.out;omega)).mono ?_);rintro e w8 ⟨r8,rfl,p0,p1,s8,k8⟩;have T8:=Lib.hid (T7.out.src s8 k8);obtain ⟨kk,rfl⟩:∃ q:Nat,r8=q:=⟨r8.toNat,by omega⟩;obtain ⟨Bq,p8,q8,e8,hr8,f8⟩:=own_at T8.out.2.2.1 (k:=kk) (by omega);cases e8;generalize nth m kk=o8 at hr8 f8;simp only [cellsTask] at hr8;have HR8:=Lib.hid hr8;have F8:=Lib.hid f8;clear s8 k8 hr8 f8)
             | (refine wpList_load_mid rfl 27 _ rfl Bm (kk * 14) rfl [.int .i64 o8.label.level,.int .i64 o8.label.set,.int .i64 o8.id,.string o8.owner,.int .i64 o8.need,.int .i64 o8.long,.int .i64 o8.prio,.int .i64 o8.under.level,.int .i64 o8.under.set,.int .i64 o8.after,.int .i64 o8.born,.int .i64 o8.state,.int .i64 o8.start,.slice p8 o8.nodes.length q8] _ HR8.out Try.underlying27 rfl (by kernel_rfl) ?_))
            obtain ⟨V9,X,hV9,hX,hXC,t9,b9⟩:∃ V9 X,V9=w8.alloc (.cells #[.int .i64 o8.label.level,.int .i64 o8.label.set,.int .i64 o8.id,.string o8.owner,.int .i64 o8.need,.int .i64 o8.long,.int .i64 o8.prio,.int .i64 o8.under.level,.int .i64 o8.under.set,.int .i64 o8.after,.int .i64 o8.born,.int .i64 o8.state,.int .i64 o8.start,.slice p8 o8.nodes.length q8] 27)∧X=w8.heap.size∧C≠X∧TsAt l v w0 B w C y A4 c4 G (.slice (some ⟨Bm,0,none⟩) m.length c) m F V9∧Blk V9 X 27 #[.int .i64 o8.label.level,.int .i64 o8.label.set,.int .i64 o8.id,.string o8.owner,.int .i64 o8.need,.int .i64 o8.long,.int .i64 o8.prio,.int .i64 o8.under.level,.int .i64 o8.under.set,.int .i64 o8.after,.int .i64 o8.born,.int .i64 o8.state,.int .i64 o8.start,.slice p8 o8.nodes.length q8]:=⟨_,_,rfl,rfl,Nat.ne_of_lt T8.out.1.lt,T8.out.ext ((Ext.refl _).alloc _),Blk.new _ _ _⟩
            rw [← hV9,← hX]
            have T9:=Lib.hid t9
            have B9:=Lib.hid b9
            have XC:=Lib.hid hXC
            clear hV9 hX t9 b9 hXC
            have bc:=T9.out.1.cell
            have bf:=T9.out.1.frozen
            have bx:=B9.out.cell
            go_upto_region 16 with fail
            obtain ⟨V10,hV10,t10,b10⟩:∃ V,V=(V9.setCell ⟨C,7,none⟩ (.int .i64 o8.label.level)).setCell ⟨C,8,none⟩ (.int .i64 o8.label.set)∧TsAt l v w0 B w C { y with under:=o8.label } A4 c4 G (.slice (some ⟨Bm,0,none⟩) m.length c) m F V∧Blk V X 27 #[.int .i64 o8.label.level,.int .i64 o8.label.set,.int .i64 o8.id,.string o8.owner,.int .i64 o8.need,.int .i64 o8.long,.int .i64 o8.prio,.int .i64 o8.under.level,.int .i64 o8.under.set,.int .i64 o8.after,.int .i64 o8.born,.int .i64 o8.state,.int .i64 o8.start,.slice p8 o8.nodes.length q8]:=⟨_,rfl,T9.out.put 7 [.int .i64 o8.label.level,.int .i64 o8.label.set] rfl (by simpa [World.setCells] using (T9.out.1.set_ 7 (.int .i64 o8.label.level)).set_ 8 (.int .i64 o8.label.set)),Blk.far (Blk.far B9.out (fun e=>XC.out e.symm) _) (fun e=>XC.out e.symm) _⟩
            rw [← hV10]
            have T10:=Lib.hid t10
            clear hV10 t10 bc bf bx
            have bc:=T10.out.1.cell
            have bf:=T10.out.1.frozen
            have bx:=b10.cell
            go_wp2_with fail
            go_meet
            obtain ⟨e1,e2,e3,-⟩:=F8.out
            exact ⟨rfl,{ y with under:=o8.label,after:=o8.id },by (have hF:=FY.out;unfold FitTask at hF ⊢;obtain ⟨a1,a2,a3,a4,a5,a6,a7,a8,a9,a10,a11,a12,a13⟩:=hF;refine ⟨?_,?_,?_,?_,?_,?_,?_,?_,?_,?_,?_,?_,?_⟩ <;> first | assumption | (unfold I64;dsimp only;omega)),SY.out,T10.out.put1 9 (.int .i64 o8.id) rfl (by simpa using T10.out.1.set_ 9 (.int .i64 o8.id))⟩
         case rest =>
         obtain ⟨rfl,z,fz,sz,t8⟩:=hcut
         have T8:=Lib.hid t8
         have FZ:=Lib.hid fz
         have SZ:=Lib.hid sz
         clear t8 fz sz T7 FY SY
         have bc:=T8.out.1.cell
         go_wp2_with (first
          | (refine wpList_load_mid rfl 27 _ rfl C 0 rfl [.int .i64 z.label.level,.int .i64 z.label.set,.int .i64 z.id,.string z.owner,.int .i64 z.need,.int .i64 z.long,.int .i64 z.prio,.int .i64 z.under.level,.int .i64 z.under.set,.int .i64 z.after,.int .i64 z.born,.int .i64 z.state,.int .i64 z.start,.slice A4 z.nodes.length c4] _ T8.out.1.range Try.underlying27 rfl (by kernel_rfl) ?_)
          | (at_builtin;refine wpList_append_one (O:=OTask) (T:=27) (l:=m) (F:=F) (G:=G) (y:=z) (cs:=[.int .i64 z.label.level,.int .i64 z.label.set,.int .i64 z.id,.string z.owner,.int .i64 z.need,.int .i64 z.long,.int .i64 z.prio,.int .i64 z.under.level,.int .i64 z.under.set,.int .i64 z.after,.int .i64 z.born,.int .i64 z.state,.int .i64 z.start,.slice A4 z.nodes.length c4]) rfl _ _ 37 rfl (.agg ([.int .i64 0,.int .i64 0,.int .i64 0,.string ⟨#[]⟩,.int .i64 0,.int .i64 0,.int .i64 0,.int .i64 0,.int .i64 0,.int .i64 0,.int .i64 0,.int .i64 0,.int .i64 0,.slice none 0 0]).toArray) 14 136 Try.underlying37 (by kernel_rfl) rfl rfl rfl (T8.out.2.2.1.ext ((Ext.refl _).alloc _)) _ 0 1 rfl ⟨_,rfl,FZ.out,T8.out.2.1.ext ((Ext.refl _).alloc _)⟩ (Blk.new _ _ _).range (nodup_two T8.out.2.2.1.nodup T8.out.2.1.nodup T8.out.2.2.2.2.2.1) ?len (by decide) ?_;rotate_right;intro u9 w9 F9 o9 k9 f9;have O9:=Lib.hid o9;have K9:=Lib.hid k9;have G9:=Lib.hid f9;clear o9 k9 f9))
         case len=>have:=HM1.out;omega
         refine ⟨⟨j+1,m ++ [z],F9,by go_num,by omega,by omega,(by have:=HM1.out;simp only [List.length_append,List.length_cons,List.length_nil];omega),fun x hx=>?_,O9.out,fun b hb=>?_,(T8.out.s.alloc _).kept K9.out (HBF.out F HF1.out) (fun b hb=>Nat.le_trans HS.out.old.size (HF1.out b hb)),kept_nw (T8.out.2.2.2.2.2.2.2.2.2.1.trans (Kept.of_ext ((Ext.refl _).alloc _))) K9.out HF1.out⟩,by simp [intOf];omega⟩
         · rcases List.mem_append.1 hx with h | h
           · exact HSM.out x h
           · obtain rfl:x=z:=by simpa using h
             exact SZ.out
         · rcases G9.out b hb with h | h | h
           · exact HF1.out b h
           · exact T8.out.2.2.2.2.1 b h
           · exact Nat.le_trans T8.out.2.2.2.2.2.2.2.2.2.1.size (Nat.le_trans ((Ext.refl _).alloc _).size h)
     · go_wp2_with fail
       exact ⟨⟨k+1,m,F,by go_num,by omega,by have:=HM1.out;omega,HSM.out,HO1.out,HF1.out,HS1.out,HK1.out⟩,by simp [intOf];omega⟩
  · have hk:k=3:=by omega
    subst hk
    go_upto_if 57 with (go_at_call 27;(with_reducible refine (HO.out _ HS1.out _ (by decide) (by decide)).mono ?_);rintro e w3 ⟨r3,rfl,s3,k3⟩;have S3:=Lib.hid s3;have K3:=Lib.hid (HK1.out.trans k3);have O3:=Lib.hid (HKO.out _ _ _ _ _ HO1.out HF1.out k3);clear s3 k3)
    cases r3 with
    | false =>
      go_wp2_with fail
      go_ret
      exact ⟨_,rfl,m,F,by have:=HM1.out;omega,HSM.out,O3.out,HF1.out,S3.out,K3.out⟩
    | true =>
      go_wp2_with (first
       | (go_at_call 22;(with_reducible refine (HT.out _ S3.out).mono ?_);rintro e w4 ⟨x,cs,G,rfl,⟨v1,rfl,fx,og⟩,ox,nx,gG,s4,k4⟩;obtain ⟨A4,c4,rfl,-⟩:=og.form;simp only [cellsTask];have S4:=Lib.hid s4;have K4:=Lib.hid (K3.out.trans k4);have O4:=Lib.hid (HKO.out _ _ _ _ _ O3.out HF1.out k4);have OG:=Lib.hid og;have FX:=Lib.hid fx;have SX:Hid (SmT x):=Lib.hid ⟨ox,nx⟩;have FG:Hid (∀ b∈F,b∉G):=Lib.hid (fun b hb hc=>absurd (O3.out.lt b hb) (by have:=gG b hc;omega));have HGw:Hid (∀ b∈G,w.heap.size≤b):=Lib.hid (fun b hb=>Nat.le_trans K3.out.size (gG b hb));clear s4 k4 og fx ox nx gG)
       | (at_builtin;go_loud (refine wpList_append_one (O:=OTask) (T:=27) (l:=m) (F:=F) (G:=G) (y:=x) (cs:=[.int .i64 x.label.level,.int .i64 x.label.set,.int .i64 x.id,.string x.owner,.int .i64 x.need,.int .i64 x.long,.int .i64 x.prio,.int .i64 x.under.level,.int .i64 x.under.set,.int .i64 x.after,.int .i64 x.born,.int .i64 x.state,.int .i64 x.start,.slice A4 x.nodes.length c4]) rfl _ _ 37 rfl (.agg ([.int .i64 0,.int .i64 0,.int .i64 0,.string ⟨#[]⟩,.int .i64 0,.int .i64 0,.int .i64 0,.int .i64 0,.int .i64 0,.int .i64 0,.int .i64 0,.int .i64 0,.int .i64 0,.slice none 0 0]).toArray) 14 136 Try.underlying37 (by kernel_rfl) rfl rfl rfl (O4.out.ext ((Ext.refl _).alloc _)) _ 0 1 rfl ⟨_,rfl,FX.out,OG.out.ext ((Ext.refl _).alloc _)⟩ (Blk.new _ _ _).range (nodup_two O4.out.nodup OG.out.nodup FG.out) ?len (by decide) ?_;rotate_right;intro u9 w9 F9 o9 k9 f9;have O9:=Lib.hid o9;have K9:=Lib.hid k9;have G9:=Lib.hid f9;clear o9 k9 f9)))
      case len=>have:=HM1.out;omega
      go_ret
      refine ⟨_,rfl,m ++ [x],F9,(by have:=HM1.out;simp only [List.length_append,List.length_cons,List.length_nil];omega),fun z hx=>?_,O9.out,fun b hb=>?_,(S4.out.alloc _).kept K9.out (HBF.out F HF1.out) (fun b hb=>Nat.le_trans HS.out.old.size (HF1.out b hb)),kept_nw (K4.out.trans (Kept.of_ext ((Ext.refl _).alloc _))) K9.out HF1.out⟩
      · rcases List.mem_append.1 hx with h | h
        · exact HSM.out z h
        · obtain rfl:z=x:=by simpa using h
          exact SX.out
      · rcases G9.out b hb with h | h | h
        · exact HF1.out b h
        · exact HGw.out b h
        · exact Nat.le_trans K4.out.size (Nat.le_trans ((Ext.refl _).alloc _).size h)
end Go.Proofs.Ytlonjlaecaemgaa
