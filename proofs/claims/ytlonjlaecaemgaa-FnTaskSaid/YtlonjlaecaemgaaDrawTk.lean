/- Drawing a task out of bytes. -/
import Derived.Test.YtlonjlaecaemgaaDrawUl
import Derived.Test.YtlonjlaecaemgaaDrawLb
import Derived.Test.YtlonjlaecaemgaaCopies
import Derived.Deep.CutBlock
import Derived.Deep.RegionLaw
namespace Go.Proofs.Ytlonjlaecaemgaa
open Go.RowKit
attribute [local irreducible] wpQuiet
theorem srcN_o (most:Int) (h:most≤1) (B:Nat) (w:World) :
 Calls Try.prog 25 #[.pointer (some ⟨B,0,none⟩),.int .i64 most] w fun e w'=>e=.returned (.int .i64 0)∧w=w':=by
 go_enter Try.func25,Try.ntmps25
 go_wp2_with fail
 go_ret
 exact ⟨rfl,rfl⟩
theorem srcN_a {S:Nat→Prop} (l:List Int) (v:Value) (w0:World) (h:Rd EByte S w0 v l) (most:Int) (h1:1≤most) (h2:most≤1152921504606846976) (B:Nat) (w:World) (hs:SrcAt l v w0 w B) :
 Calls Try.prog 25 #[.pointer (some ⟨B,0,none⟩),.int .i64 most] w fun e w'=>∃ r:Int,e=.returned (.int .i64 r)∧0≤r∧r < most∧SrcAt l v w0 w' B∧Kept [B] w w':=by
 by_cases h3:most≤1
 · exact (srcN_o most h3 B w).mono fun e w' ⟨he,hw⟩=>⟨0,he,by omega,by omega,hw ▸ hs,hw ▸ Kept.refl _ _⟩
 · exact srcN_any l v w0 h most (by omega) h2 B w hs
theorem kept_nw {B:List Nat} {w a b:World} {F:List Nat} (h:Kept B w a) (k:Kept F a b) (hF:∀ x∈F,w.heap.size≤x):Kept B w b :=
 Kept.sub (F:=B ++ F) ((h.sub (G:=B ++ F) (fun _ _ hm=>List.mem_append_left _ hm)).trans (k.sub (G:=B ++ F) (fun _ _ hm=>List.mem_append_right _ hm))) (fun b hb hm=>by
  rcases List.mem_append.1 hm with h | h
  · exact h
  · have:=hF b h;omega)
def TkFit (x:Task):Prop:=FitTask x∧x.owner.size≤100∧1≤x.need∧x.need≤3∧1≤x.id∧x.id≤3
def TkAt (l:List Int) (v:Value) (w0:World) (B:Nat) (w:World) (R C:Nat) (x:Task) (A:Option Addr) (c:Nat) (F:List Nat) (wx:World):Prop :=
 Blk wx C 27 #[.int .i64 x.label.level,.int .i64 x.label.set,.int .i64 x.id,.string x.owner,.int .i64 x.need,.int .i64 x.long,.int .i64 x.prio,.int .i64 x.under.level,.int .i64 x.under.set,.int .i64 x.after,.int .i64 x.born,.int .i64 x.state,.int .i64 x.start,.slice A x.nodes.length c]∧Blk wx R 27 #[.int .i64 0,.int .i64 0,.int .i64 0,.string ⟨#[]⟩,.int .i64 0,.int .i64 0,.int .i64 0,.int .i64 0,.int .i64 0,.int .i64 0,.int .i64 0,.int .i64 0,.int .i64 0,.slice none 0 0]∧OwS OInt 2 wx (.slice A x.nodes.length c) x.nodes F∧(∀ b∈F,C < b)∧SrcAt l v w0 wx B∧Kept [B] w wx∧R < C∧B < w.heap.size∧w.heap.size≤R
theorem TkAt.src {l:List Int} {v:Value} {w0:World} {B:Nat} {w:World} {R C:Nat} {x:Task} {A:Option Addr} {c:Nat} {F:List Nat} {wx w2:World} (h:TkAt l v w0 B w R C x A c F wx) (s:SrcAt l v w0 w2 B) (k:Kept [B] wx w2):TkAt l v w0 B w R C x A c F w2:=by
 obtain ⟨hc,hr,ho,hF,-,hk,h1,h2,h3⟩:=h
 exact ⟨blk_kept hc k (by simp;omega),blk_kept hr k (by simp;omega),ho.kept k (fun b hb hm=>by simp at hm;have:=hF b hb;omega),hF,s,hk.trans k,h1,h2,h3⟩
theorem TkAt.ext {l:List Int} {v:Value} {w0:World} {B:Nat} {w:World} {R C:Nat} {x:Task} {A:Option Addr} {c:Nat} {F:List Nat} {wx w2:World} (h:TkAt l v w0 B w R C x A c F wx) (hx:Ext wx w2):TkAt l v w0 B w R C x A c F w2 :=
 h.src (h.2.2.2.2.1.ext hx) (Kept.of_ext hx)
theorem TkAt.s {l:List Int} {v:Value} {w0:World} {B:Nat} {w:World} {R C:Nat} {x:Task} {A:Option Addr} {c:Nat} {F:List Nat} {wx:World} (h:TkAt l v w0 B w R C x A c F wx):SrcAt l v w0 wx B:=h.2.2.2.2.1
theorem TkAt.put {l:List Int} {v:Value} {w0:World} {B:Nat} {w:World} {R C:Nat} {x y:Task} {A:Option Addr} {c:Nat} {F:List Nat} {wx:World} (h:TkAt l v w0 B w R C x A c F wx) (o:Nat) (vs:List Value) (hn:y.nodes=x.nodes) (hb:Blk (wx.setCells C o vs) C 27 #[.int .i64 y.label.level,.int .i64 y.label.set,.int .i64 y.id,.string y.owner,.int .i64 y.need,.int .i64 y.long,.int .i64 y.prio,.int .i64 y.under.level,.int .i64 y.under.set,.int .i64 y.after,.int .i64 y.born,.int .i64 y.state,.int .i64 y.start,.slice A y.nodes.length c]):TkAt l v w0 B w R C y A c F (wx.setCells C o vs):=by
 obtain ⟨hc,hr,ho,hF,hs,hk,h1,h2,h3⟩:=h
 have kk:Kept [C] wx (wx.setCells C o vs):=Kept.setCells (by simp) _ _ _ (Kept.refl _ _)
 exact ⟨hb,blk_kept hr kk (by simp;omega),hn ▸ ho.kept kk (fun b hb hm=>by simp at hm;have:=hF b hb;omega),hF,src_put hs (by omega) (by have:=hs.ge;omega),kept_put hk (by omega),h1,h2,h3⟩
theorem TkAt.put1 {l:List Int} {v:Value} {w0:World} {B:Nat} {w:World} {R C:Nat} {x y:Task} {A:Option Addr} {c:Nat} {F:List Nat} {wx:World} (h:TkAt l v w0 B w R C x A c F wx) (o:Nat) (u:Value) (hn:y.nodes=x.nodes) (hb:Blk (wx.setCell ⟨C,o,none⟩ u) C 27 #[.int .i64 y.label.level,.int .i64 y.label.set,.int .i64 y.id,.string y.owner,.int .i64 y.need,.int .i64 y.long,.int .i64 y.prio,.int .i64 y.under.level,.int .i64 y.under.set,.int .i64 y.after,.int .i64 y.born,.int .i64 y.state,.int .i64 y.start,.slice A y.nodes.length c]):TkAt l v w0 B w R C y A c F (wx.setCell ⟨C,o,none⟩ u):=h.put o [u] hn hb
theorem TkAt.keptC {l:List Int} {v:Value} {w0:World} {B:Nat} {w:World} {R C:Nat} {x:Task} {A:Option Addr} {c:Nat} {F:List Nat} {wx w6:World} (h:TkAt l v w0 B w R C x A c F wx) (ob:Obj) (k:Kept F (wx.alloc ob) w6):Blk w6 C 27 #[.int .i64 x.label.level,.int .i64 x.label.set,.int .i64 x.id,.string x.owner,.int .i64 x.need,.int .i64 x.long,.int .i64 x.prio,.int .i64 x.under.level,.int .i64 x.under.set,.int .i64 x.after,.int .i64 x.born,.int .i64 x.state,.int .i64 x.start,.slice A x.nodes.length c]:=by
 obtain ⟨hc,hr,ho,hF,hs,hk,h1,h2,h3⟩:=h
 exact ((k.block C (by have:=hc.lt;simp;omega) (fun hm=>absurd (hF C hm) (by omega))).trans (hc.ext ((Ext.refl _).alloc ob)))
theorem TkAt.app {l:List Int} {v:Value} {w0:World} {B:Nat} {w:World} {R C:Nat} {x:Task} {A A6:Option Addr} {c c6:Nat} {F F6:List Nat} {wx w6:World} {u:Int} (h:TkAt l v w0 B w R C x A c F wx) (ob:Obj) (k:Kept F (wx.alloc ob) w6) (o:OwS OInt 2 w6 (.slice A6 (x.nodes ++ [u]).length c6) (x.nodes ++ [u]) F6) (f:∀ b∈F6,b∈F∨b∈([]:List Nat)∨(wx.alloc ob).heap.size≤b):TkAt l v w0 B w R C { x with nodes:=x.nodes ++ [u] } A6 c6 F6 (w6.setCell ⟨C,13,none⟩ (.slice A6 (x.nodes ++ [u]).length c6)):=by
 have hcc:=h.keptC ob k
 obtain ⟨hc,hr,ho,hF,hs,hk,h1,h2,h3⟩:=h
 have hF6:∀ b∈F6,C < b:=fun b hb=>by
  rcases f b hb with h | h | h
  · exact hF b h
  · cases h
  · have:=hc.lt;simp at h;omega
 have h6:TkAt l v w0 B w R C x A c F wx:=⟨hc,hr,ho,hF,hs,hk,h1,h2,h3⟩
 have hB:B∉F:=fun hm=>absurd (hF B hm) (by omega)
 have hR:R∉F:=fun hm=>absurd (hF R hm) (by omega)
 have kx:Kept F wx w6:=(Kept.of_ext ((Ext.refl _).alloc ob)).trans k
 have ks:SrcAt l v w0 w6 B:=hs.kept kx hB (fun b hb=>by have:=hF b hb;have:=hs.ge;omega)
 have kk:Kept [C] w6 (w6.setCell ⟨C,13,none⟩ (.slice A6 (x.nodes ++ [u]).length c6)):=Kept.setCell (p:=⟨C,13,none⟩) (Kept.refl _ _) (by simp) _
 exact ⟨by simpa using hcc.set_ 13 (.slice A6 (x.nodes ++ [u]).length c6),blk_kept ((kx.block R hr.lt hR).trans hr) kk (by simp;omega),o.kept kk (fun b hb hm=>by simp at hm;have:=hF6 b hb;omega),hF6,src_put (R:=C) (o:=13) (vs:=[.slice A6 (x.nodes ++ [u]).length c6]) ks (by omega) (by have:=hs.ge;omega),kept_put (R:=C) (o:=13) (vs:=[.slice A6 (x.nodes ++ [u]).length c6]) (kept_nw hk kx (fun b hb=>by have:=hF b hb;omega)) (by omega),h1,h2,h3⟩
set_option maxHeartbeats 8000000 in
set_option maxRecDepth 100000 in
theorem l12Task_any {S:Nat→Prop} (l:List Int) (v:Value) (w0:World) (h:Rd EByte S w0 v l) (B:Nat) (w:World) (hs:SrcAt l v w0 w B) :
 Calls Try.prog 22 #[.pointer (some ⟨B,0,none⟩)] w fun e w'=>∃ (x:Task) (cs:List Value) (F:List Nat),e=.returned (.agg cs.toArray)∧OTask.own w' cs x F∧x.owner.size≤100∧x.nodes.length≤4∧(∀ b∈F,w.heap.size≤b)∧SrcAt l v w0 w' B∧Kept [B] w w':=by
 have HN:=Lib.hid fun (W:World) (hW:SrcAt l v w0 W B) (most:Int) (h1:1≤most) (h2:most≤1152921504606846976)=>srcN_a l v w0 h most h1 h2 B W hW
 have HO:=Lib.hid fun (W:World) (hW:SrcAt l v w0 W B) (most:Int) (h1:1 < most) (h2:most≤1152921504606846976)=>srcOne_any l v w0 h most h1 h2 B W hW
 have HW:=Lib.hid fun (W:World) (hW:SrcAt l v w0 W B)=>srcOwner_any l v w0 h B W hW
 have HL:=Lib.hid fun (W:World) (hW:SrcAt l v w0 W B)=>l02Label_any l v w0 h B W hW
 have HP:=Lib.hid fun (W:World) (hW:SrcAt l v w0 W B)=>srcPick_any l v w0 h B W hW
 have HS:=Lib.hid hs
 have HB:=Lib.hid hs.lt
 clear h hs
 go_enter Try.func22,Try.ntmps22
 go_upto_region 1 with (fail)
 obtain ⟨W,R,hW,hR,hx0,r0⟩:∃ W R,W=w.alloc (.cells #[.int .i64 0,.int .i64 0,.int .i64 0,.string ⟨#[]⟩,.int .i64 0,.int .i64 0,.int .i64 0,.int .i64 0,.int .i64 0,.int .i64 0,.int .i64 0,.int .i64 0,.int .i64 0,.slice none 0 0] 27)∧R=w.heap.size∧Ext w W∧Blk W R 27 #[.int .i64 0,.int .i64 0,.int .i64 0,.string ⟨#[]⟩,.int .i64 0,.int .i64 0,.int .i64 0,.int .i64 0,.int .i64 0,.int .i64 0,.int .i64 0,.int .i64 0,.int .i64 0,.slice none 0 0]:=⟨_,_,rfl,rfl,(Ext.refl w).alloc _,Blk.new _ _ _⟩
 rw [← hW,← hR]
 have R0:=Lib.hid r0
 have S0:=Lib.hid (HS.out.ext hx0)
 have K0:Hid (Kept [B] w W):=Lib.hid (Kept.of_ext hx0)
 have HRw:Hid (w.heap.size≤R):=Lib.hid (by omega)
 have HRB:Hid (R∉[B]):=Lib.hid (by have:=HB.out;simp;omega)
 clear hW hR hx0 r0
 go_upto_region 2 with (first
  | (go_at_call 25;(with_reducible refine (HN.out _ S7.out _ (by decide) (by decide)).mono ?_);rintro e w8 ⟨q,rfl,q0,q1,s1,k1⟩;have S8:=Lib.hid s1;have K8:=Lib.hid (K7.out.trans k1);have R8:Hid (Blk w8 R 27 #[.int .i64 0,.int .i64 0,.int .i64 0,.string ⟨#[]⟩,.int .i64 0,.int .i64 0,.int .i64 0,.int .i64 0,.int .i64 0,.int .i64 0,.int .i64 0,.int .i64 0,.int .i64 0,.slice none 0 0]):=Lib.hid (blk_kept R7.out k1 HRB.out);clear s1 k1)
  | (go_at_call 25;(with_reducible refine (HN.out _ S6.out _ (by decide) (by decide)).mono ?_);rintro e w7 ⟨g,rfl,g0,g1,s1,k1⟩;have S7:=Lib.hid s1;have K7:=Lib.hid (K6.out.trans k1);have R7:Hid (Blk w7 R 27 #[.int .i64 0,.int .i64 0,.int .i64 0,.string ⟨#[]⟩,.int .i64 0,.int .i64 0,.int .i64 0,.int .i64 0,.int .i64 0,.int .i64 0,.int .i64 0,.int .i64 0,.int .i64 0,.slice none 0 0]):=Lib.hid (blk_kept R6.out k1 HRB.out);clear s1 k1)
  | (go_at_call 25;(with_reducible refine (HN.out _ S5.out _ (by decide) (by decide)).mono ?_);rintro e w6 ⟨p,rfl,p0,p1,s1,k1⟩;have S6:=Lib.hid s1;have K6:=Lib.hid (K5.out.trans k1);have R6:Hid (Blk w6 R 27 #[.int .i64 0,.int .i64 0,.int .i64 0,.string ⟨#[]⟩,.int .i64 0,.int .i64 0,.int .i64 0,.int .i64 0,.int .i64 0,.int .i64 0,.int .i64 0,.int .i64 0,.int .i64 0,.slice none 0 0]):=Lib.hid (blk_kept R5.out k1 HRB.out);clear s1 k1)
  | (go_at_call 25;(with_reducible refine (HN.out _ S4.out _ (by decide) (by decide)).mono ?_);rintro e w5 ⟨f,rfl,f0,f1,s1,k1⟩;have S5:=Lib.hid s1;have K5:=Lib.hid (K4.out.trans k1);have R5:Hid (Blk w5 R 27 #[.int .i64 0,.int .i64 0,.int .i64 0,.string ⟨#[]⟩,.int .i64 0,.int .i64 0,.int .i64 0,.int .i64 0,.int .i64 0,.int .i64 0,.int .i64 0,.int .i64 0,.int .i64 0,.slice none 0 0]):=Lib.hid (blk_kept R4.out k1 HRB.out);clear s1 k1)
  | (go_at_call 25;(with_reducible refine (HN.out _ S3.out _ (by decide) (by decide)).mono ?_);rintro e w4 ⟨d,rfl,d0,d1,s1,k1⟩;have S4:=Lib.hid s1;have K4:=Lib.hid (K3.out.trans k1);have R4:Hid (Blk w4 R 27 #[.int .i64 0,.int .i64 0,.int .i64 0,.string ⟨#[]⟩,.int .i64 0,.int .i64 0,.int .i64 0,.int .i64 0,.int .i64 0,.int .i64 0,.int .i64 0,.int .i64 0,.int .i64 0,.slice none 0 0]):=Lib.hid (blk_kept R3.out k1 HRB.out);clear s1 k1)
  | (go_at_call 60;(with_reducible refine (HW.out _ S2.out).mono ?_);rintro e w3 ⟨t,rfl,tz,s1,k1,-⟩;have S3:=Lib.hid s1;have K3:=Lib.hid (K2.out.trans k1);have R3:Hid (Blk w3 R 27 #[.int .i64 0,.int .i64 0,.int .i64 0,.string ⟨#[]⟩,.int .i64 0,.int .i64 0,.int .i64 0,.int .i64 0,.int .i64 0,.int .i64 0,.int .i64 0,.int .i64 0,.int .i64 0,.slice none 0 0]):=Lib.hid (blk_kept R2.out k1 HRB.out);clear s1 k1)
  | (go_at_call 25;(with_reducible refine (HN.out _ S1.out _ (by decide) (by decide)).mono ?_);rintro e w2 ⟨b,rfl,b0,b1,s1,k1⟩;have S2:=Lib.hid s1;have K2:=Lib.hid (K1.out.trans k1);have R2:Hid (Blk w2 R 27 #[.int .i64 0,.int .i64 0,.int .i64 0,.string ⟨#[]⟩,.int .i64 0,.int .i64 0,.int .i64 0,.int .i64 0,.int .i64 0,.int .i64 0,.int .i64 0,.int .i64 0,.int .i64 0,.slice none 0 0]):=Lib.hid (blk_kept R1.out k1 HRB.out);clear s1 k1)
  | (go_at_call 25;(with_reducible refine (HN.out _ S0.out _ (by decide) (by decide)).mono ?_);rintro e w1 ⟨a,rfl,a0,a1,s1,k1⟩;have S1:=Lib.hid s1;have K1:=Lib.hid (K0.out.trans k1);have R1:Hid (Blk w1 R 27 #[.int .i64 0,.int .i64 0,.int .i64 0,.string ⟨#[]⟩,.int .i64 0,.int .i64 0,.int .i64 0,.int .i64 0,.int .i64 0,.int .i64 0,.int .i64 0,.int .i64 0,.int .i64 0,.slice none 0 0]):=Lib.hid (blk_kept R0.out k1 HRB.out);clear s1 k1))
 obtain ⟨V,C,x,hV,hC,hx9,b9,hn9,hf9⟩:∃ V C,∃ x:Task,V=w8.alloc (.cells #[.int .i64 a,.int .i64 0,.int .i64 (1+b),.string t,.int .i64 (1+d),.int .i64 (1+f),.int .i64 p,.int .i64 0,.int .i64 0,.int .i64 0,.int .i64 g,.int .i64 (1+q),.int .i64 0,.slice none 0 0] 27)∧C=w8.heap.size∧Ext w8 V∧Blk V C 27 #[.int .i64 x.label.level,.int .i64 x.label.set,.int .i64 x.id,.string x.owner,.int .i64 x.need,.int .i64 x.long,.int .i64 x.prio,.int .i64 x.under.level,.int .i64 x.under.set,.int .i64 x.after,.int .i64 x.born,.int .i64 x.state,.int .i64 x.start,.slice none x.nodes.length 0]∧x.nodes = []∧TkFit x:=⟨_,_,⟨⟨a,0⟩,1+b,t,1+d,1+f,p,⟨0,0⟩,0,g,1+q,0,[]⟩,rfl,rfl,(Ext.refl _).alloc _,Blk.new _ _ _,rfl,by unfold TkFit FitTask I64 Str maxLen;simp only;refine ⟨⟨?_,?_,?_,?_,?_,?_,?_,?_,?_,?_,?_,?_,?_⟩,?_,?_,?_,?_,?_⟩ <;> omega⟩
 rw [← hV,← hC]
 have T1:Hid (TkAt l v w0 B w R C x none 0 [] V):=Lib.hid ⟨b9,R8.out.ext hx9,hn9 ▸ OwS.nil _,fun b hb=>(by cases hb),S8.out.ext hx9,K8.out.trans (Kept.of_ext hx9),(by have:=R8.out.lt;omega),HB.out,HRw.out⟩
 have F1:=Lib.hid hf9
 clear hV hC hx9 b9 hf9 R0 S0 K0 R1 S1 K1 R2 S2 K2 R3 S3 K3 R4 S4 K4 R5 S5 K5 R6 S6 K6 R7 S7 K7 R8 S8 K8
 clear a0 a1 b0 b1 tz d0 d1 f0 f1 p0 p1 g0 g1 q0 q1
 have N1:Hid (x.nodes.length≤3):=Lib.hid (by rw [hn9];decide)
 have NX:=Lib.hid hn9
 clear hn9
 go_cut [38] from 5 (fun c wx=>∃ k:Bool,c=.bool k∧TkAt l v w0 B w R C x none 0 [] wx)
 case first =>
  have bc:=T1.out.1.cell
  cases e2:(x.state == 2) with
  | true =>
    go_wp2_with fail
    go_meet
    exact ⟨_,rfl,T1.out⟩
  | false =>
    cases e1:(x.state == 1) with
    | true =>
      go_wp2_with (go_at_call 27;(with_reducible refine (HO.out _ T1.out.s _ (by decide) (by decide)).mono ?_);rintro e w2 ⟨r2,rfl,s2,k2⟩;have T2:=Lib.hid (T1.out.src s2 k2);clear s2 k2)
      go_meet
      exact ⟨_,rfl,T2.out⟩
    | false =>
      go_wp2_with fail
      go_meet
      exact ⟨_,rfl,T1.out⟩
 case rest =>
 obtain ⟨k2,rfl,t2⟩:=hcut
 have T2:=Lib.hid t2
 clear t2 T1
 go_upto_if 38 with fail
 go_cut [3] from 5 (fun p wx=>p=.pointer (some ⟨C,0,none⟩)∧∃ (y:Task) (A:Option Addr) (c:Nat) (F:List Nat),TkFit y∧y.nodes.length≤3∧TkAt l v w0 B w R C y A c F wx)
 case first =>
  cases k2 with
  | false =>
    go_wp2_with fail
    go_meet
    exact ⟨rfl,x,none,0,[],F1.out,N1.out,T2.out⟩
  | true =>
    go_upto_region 4 with (go_at_call 25;(with_reducible refine (HN.out _ T2.out.s _ (by decide) (by decide)).mono ?_);rintro e w3 ⟨r3,rfl,g0,g1,s3,k3⟩;have T3:=Lib.hid (T2.out.src s3 k3);clear s3 k3;have bf:=T3.out.1.frozen;have bc:=T3.out.1.cell)
    obtain ⟨V4,hV4,t4⟩:∃ V,V=w3.setCell ⟨C,12,none⟩ (.int .i64 r3)∧TkAt l v w0 B w R C { x with start:=r3 } none 0 [] V:=⟨_,rfl,T3.out.put1 12 (.int .i64 r3) rfl (by simpa using T3.out.1.set_ 12 (.int .i64 r3))⟩
    rw [← hV4]
    have T4:=Lib.hid t4
    have FY:Hid (TkFit { x with start:=r3 }):=Lib.hid (by (have hF:=F1.out;unfold TkFit FitTask at hF ⊢;obtain ⟨⟨a1,a2,a3,a4,a5,a6,a7,a8,a9,a10,a11,a12,a13⟩,b1,b2,b3,b4,b5⟩:=hF;refine ⟨⟨?_,?_,?_,?_,?_,?_,?_,?_,?_,?_,?_,?_,?_⟩,?_,?_,?_,?_,?_⟩ <;> first | assumption | (unfold I64;dsimp only;omega)))
    clear t4 hV4 bf bc
    go_wp2_with fail
    go_loopw [4] (fun i w'=>∃ (k:Nat) (y:Task) (A:Option Addr) (c:Nat) (F:List Nat),i=.int .i64 k∧k≤3∧y.nodes.length=k∧TkFit y∧TkAt l v w0 B w R C y A c F w') (fun i _=>3 - (intOf i).toNat)
    case atStart=>exact ⟨0,_,none,0,[],rfl,by omega,by rw [show ({ x with start:=r3 }:Task).nodes=x.nodes from rfl];exact NX.out ▸ rfl,FY.out,T4.out⟩
    case round =>
     obtain ⟨k,y,A,c,F,rfl,hk3,hny,fy,ty⟩:=hrel
     have FY:=Lib.hid fy
     have TY:=Lib.hid ty
     have HNY:=Lib.hid hny
     obtain ⟨-,-,need1,need3,-,-⟩:=fy
     have bc:=TY.out.1.cell
     have bf:=TY.out.1.frozen
     clear ty hny
     by_cases hlt:(k:Int) < y.need
     · go_wp2_with (at_builtin;refine wpList_append_one (O:=OInt) (T:=2) (l:=y.nodes) (F:=F) (G:=[]) (y:=(k:Int)) (cs:=[.int .i64 k]) rfl _ _ 25 rfl (.int .i64 0) 1 8 Try.underlying25 (by kernel_rfl) rfl rfl rfl (TY.out.2.2.1.ext ((Ext.refl _).alloc _)) _ 0 1 rfl ⟨⟨rfl,?fit⟩,rfl⟩ (Blk.new _ _ _).range (by simpa using TY.out.2.2.1.nodup) ?len (by decide) ?_;rotate_right;intro u6 w6 F6 o6 k6 f6;obtain ⟨A6,c6,rfl,-⟩:=o6.form;obtain ⟨V6,hV6,t6⟩:∃ V,V=w6.setCell ⟨C,13,none⟩ (.slice A6 (y.nodes ++ [(k:Int)]).length c6)∧TkAt l v w0 B w R C { y with nodes:=y.nodes ++ [(k:Int)] } A6 c6 F6 V:=⟨_,rfl,TY.out.app _ k6 o6 f6⟩;have T6:=Lib.hid t6;have HV6:=Lib.hid hV6;clear bc bf;have bf:=fun i=>(TY.out.keptC _ k6).frozen i;have bc:=fun i=>(TY.out.keptC _ k6).cell i;clear o6 k6 f6 t6 hV6)
       case fit=>unfold I64;omega
       case len=>have:=HNY.out;omega
       have hv6:=HV6.out
       rw [show (y.nodes ++ [(k:Int)]).length=y.nodes.length+1 by simp] at hv6
       rw [← hv6]
       exact ⟨⟨k+1,{ y with nodes:=y.nodes ++ [(k:Int)] },A6,c6,F6,by go_num,(by omega),(by simp only [List.length_append,List.length_cons,List.length_nil,HNY.out]),FY.out,T6.out⟩,by simp [intOf];omega⟩
     · go_wp2_with fail
       go_meet
       exact ⟨rfl,y,A,c,F,FY.out,by rw [HNY.out];exact hk3,TY.out⟩
 case rest =>
 obtain ⟨rfl,y,A,c,F,fy,ny,t3⟩:=hcut
 have FY:=Lib.hid fy
 have NY:=Lib.hid ny
 have T3:=Lib.hid t3
 clear fy ny t3 T2 F1 N1
 go_upto_region 8 with fail
 go_cut [60] from 5 (fun c' wx=>∃ k:Bool,c'=.bool k∧(k=true→1 < y.id)∧TkAt l v w0 B w R C y A c F wx)
 case first =>
  have bc:=T3.out.1.cell
  by_cases h1:1 < y.id
  · go_wp2_with (go_at_call 27;(with_reducible refine (HO.out _ T3.out.s _ (by decide) (by decide)).mono ?_);rintro e w2 ⟨r2,rfl,s2,k2⟩;have T4:=Lib.hid (T3.out.src s2 k2);clear s2 k2)
    go_meet
    exact ⟨_,rfl,fun _=>h1,T4.out⟩
  · go_wp2_with fail
    go_meet
    exact ⟨_,rfl,by simp,T3.out⟩
 case rest =>
 obtain ⟨k4,rfl,h1,t4⟩:=hcut
 have T4:=Lib.hid t4
 have H1:=Lib.hid h1
 clear t4 T3 h1
 go_upto_if 60 with fail
 go_cut [3] from 5 (fun p wx=>p=.pointer (some ⟨C,0,none⟩)∧∃ (z:Task),z.nodes=y.nodes∧TkFit z∧TkAt l v w0 B w R C z A c F wx)
 case first =>
  cases k4 with
  | false =>
    go_wp2_with fail
    go_meet
    exact ⟨rfl,y,rfl,FY.out,T4.out⟩
  | true =>
    have h1:=H1.out rfl
    obtain ⟨-,-,-,-,-,hid3⟩:=FY.out
    have bc:=T4.out.1.cell
    have bf:=T4.out.1.frozen
    go_upto_region 10 with fail
    obtain ⟨V5,hV5,t5⟩:∃ V,V=(wc.setCell ⟨C,7,none⟩ (.int .i64 y.label.level)).setCell ⟨C,8,none⟩ (.int .i64 y.label.set)∧TkAt l v w0 B w R C { y with under:=y.label } A c F V:=⟨_,rfl,T4.out.put 7 [.int .i64 y.label.level,.int .i64 y.label.set] rfl (by simpa [World.setCells] using (T4.out.1.set_ 7 (.int .i64 y.label.level)).set_ 8 (.int .i64 y.label.set))⟩
    rw [← hV5]
    have T5:=Lib.hid t5
    clear t5 hV5 bc bf
    have bc:=T5.out.1.cell
    have h64:y.id - 1≤2:=by omega
    go_wp2_with (go_at_call 25;(with_reducible refine (HN.out _ T5.out.s _ (by omega) (by omega)).mono ?_);rintro e w6 ⟨r6,rfl,g0,g1,s6,k6⟩;have T6:=Lib.hid (T5.out.src s6 k6);clear s6 k6 bc;have bf:=T6.out.1.frozen;have bc:=T6.out.1.cell)
    go_meet
    exact ⟨rfl,{ y with under:=y.label,after:=1+r6 },rfl,by (have hF:=FY.out;unfold TkFit FitTask at hF ⊢;obtain ⟨⟨a1,a2,a3,a4,a5,a6,a7,a8,a9,a10,a11,a12,a13⟩,b1,b2,b3,b4,b5⟩:=hF;refine ⟨⟨?_,?_,?_,?_,?_,?_,?_,?_,?_,?_,?_,?_,?_⟩,?_,?_,?_,?_,?_⟩ <;> first | assumption | (unfold I64;dsimp only;omega)),T6.out.put1 9 (.int .i64 (1+r6)) rfl (by simpa using T6.out.1.set_ 9 (.int .i64 (1+r6)))⟩
 case rest =>
 obtain ⟨rfl,z,nz,fz,t5⟩:=hcut
 have FZ:=Lib.hid fz
 have NZ:Hid (z.nodes.length≤3):=Lib.hid (by rw [nz];exact NY.out)
 have T5:=Lib.hid t5
 clear fz nz t5 T4 FY NY
 go_upto_if 72 with (go_at_call 27;(with_reducible refine (HO.out _ T5.out.s _ (by decide) (by decide)).mono ?_);rintro e w2 ⟨r6,rfl,s2,k2⟩;have T6:=Lib.hid (T5.out.src s2 k2);clear s2 k2)
 clear T5
 go_cut [3] from 5 (fun p wx=>p=.pointer (some ⟨C,0,none⟩)∧∃ (y:Task) (A:Option Addr) (c:Nat) (F:List Nat),FitTask y∧y.owner.size≤100∧y.nodes.length≤4∧TkAt l v w0 B w R C y A c F wx)
 case first =>
  cases r6 with
  | false =>
    go_wp2_with fail
    go_meet
    exact ⟨rfl,z,A,c,F,FZ.out.1,FZ.out.2.1,Nat.le_succ_of_le NZ.out,T6.out⟩
  | true =>
    go_upto_block 2 with (go_at_call 25;(with_reducible refine (HN.out _ T6.out.s _ (by decide) (by decide)).mono ?_);rintro e w7 ⟨r7,rfl,g0,g1,s7,k7⟩;have T7:=Lib.hid (T6.out.src s7 k7);clear s7 k7)
    clear T6
    have bc:=T7.out.1.cell
    have bf:=T7.out.1.frozen
    by_cases h0:r7=0
    · subst h0
      clear bc bf
      go_wp2_with (go_at_call 61;(with_reducible refine (HL.out _ T7.out.s).mono ?_);rintro e w8 ⟨q8,rfl,f8,s8,k8⟩;have T8:=Lib.hid (T7.out.src s8 k8);have F8:=Lib.hid f8;clear s8 k8 f8;have bf:=T8.out.1.frozen;have bc:=T8.out.1.cell)
      go_meet
      obtain ⟨f81,f82⟩:=F8.out
      exact ⟨rfl,{ z with label:=q8 },A,c,F,by (have hF:=FZ.out.1;unfold FitTask at hF ⊢;obtain ⟨a1,a2,a3,a4,a5,a6,a7,a8,a9,a10,a11,a12,a13⟩:=hF;refine ⟨?_,?_,?_,?_,?_,?_,?_,?_,?_,?_,?_,?_,?_⟩ <;> first | assumption | (unfold I64;dsimp only;omega)),FZ.out.2.1,Nat.le_succ_of_le NZ.out,T8.out.put 0 [.int .i64 q8.level,.int .i64 q8.set] rfl (by simpa [World.setCells] using (T8.out.1.set_ 0 (.int .i64 q8.level)).set_ 1 (.int .i64 q8.set))⟩
    by_cases h1:r7=1
    · subst h1
      clear bc bf
      go_wp2_with (go_at_call 25;(with_reducible refine (HN.out _ (T7.out.s.alloc _) _ (by decide) (by decide)).mono ?_);rintro e w8 ⟨r8,rfl,p0,p1,s8,k8⟩;have k78:=(Kept.of_ext ((Ext.refl w7).alloc _)).trans k8;obtain ⟨k,rfl⟩:∃ k:Nat,r8=k:=⟨r8.toNat,by omega⟩;obtain ⟨t9,ht,i9⟩:=edge_at (k:=k) T7.out.s.lt k8 (by simp only [List.mem_cons,List.not_mem_nil,or_false];rintro x (rfl | rfl | rfl) <;> exact ⟨_,rfl,by unfold I64;omega⟩) (by simp only [List.length_cons,List.length_nil];omega);have T8:=Lib.hid (T7.out.src s8 k78);have I9:=Lib.hid i9;clear s8 k8 k78 i9;have bf:=T8.out.1.frozen;have bc:=T8.out.1.cell)
      go_meet
      have i9:=I9.out
      exact ⟨rfl,{ z with id:=t9 },A,c,F,by (have hF:=FZ.out.1;unfold FitTask at hF ⊢;obtain ⟨a1,a2,a3,a4,a5,a6,a7,a8,a9,a10,a11,a12,a13⟩:=hF;refine ⟨?_,?_,?_,?_,?_,?_,?_,?_,?_,?_,?_,?_,?_⟩ <;> first | assumption | (unfold I64;dsimp only;omega)),FZ.out.2.1,Nat.le_succ_of_le NZ.out,T8.out.put1 2 (.int .i64 t9) rfl (by simpa using T8.out.1.set_ 2 (.int .i64 t9))⟩
    by_cases h2:r7=2
    · subst h2
      clear bc bf
      go_wp2_with (go_at_call 62;(with_reducible refine (HP.out _ (T7.out.s.alloc _) w7.heap.size 9 [.string ⟨#[]⟩,.string ⟨#[65]⟩,.string ⟨#[97,50,51,52,53,54,55,56,57,48,49,50,51,52,53,54,55,56,57,48,49]⟩] 3 (Blk.new _ _ _) (by have:=T7.out.s.lt;omega) (by simp only [List.mem_cons,List.not_mem_nil,or_false];rintro x (rfl | rfl | rfl) <;> exact ⟨_,rfl,by decide⟩) rfl (by decide) (by decide)).mono ?_);rintro e w8 ⟨t8,rfl,z8,s8,k8⟩;have T8:=Lib.hid (T7.out.src s8 ((Kept.of_ext ((Ext.refl w7).alloc _)).trans k8.kept));have Z8:=Lib.hid z8;clear s8 k8 z8;have bf:=T8.out.1.frozen;have bc:=T8.out.1.cell)
      go_meet
      have st8:Str t8:=by have:=Z8.out;unfold Str maxLen;omega
      exact ⟨rfl,{ z with owner:=t8 },A,c,F,by (have hF:=FZ.out.1;unfold FitTask at hF ⊢;obtain ⟨a1,a2,a3,a4,a5,a6,a7,a8,a9,a10,a11,a12,a13⟩:=hF;refine ⟨?_,?_,?_,?_,?_,?_,?_,?_,?_,?_,?_,?_,?_⟩ <;> first | assumption | (unfold I64;dsimp only;omega)),Z8.out,Nat.le_succ_of_le NZ.out,T8.out.put1 3 (.string t8) rfl (by simpa using T8.out.1.set_ 3 (.string t8))⟩
    by_cases h3:r7=3
    · subst h3
      clear bc bf
      go_wp2_with (go_at_call 25;(with_reducible refine (HN.out _ T7.out.s _ (by decide) (by decide)).mono ?_);rintro e w8 ⟨r8,rfl,p0,p1,s8,k8⟩;have T8:=Lib.hid (T7.out.src s8 k8);clear s8 k8;have bf:=T8.out.1.frozen;have bc:=T8.out.1.cell)
      go_meet
      exact ⟨rfl,{ z with after:=r8 - 1 },A,c,F,by (have hF:=FZ.out.1;unfold FitTask at hF ⊢;obtain ⟨a1,a2,a3,a4,a5,a6,a7,a8,a9,a10,a11,a12,a13⟩:=hF;refine ⟨?_,?_,?_,?_,?_,?_,?_,?_,?_,?_,?_,?_,?_⟩ <;> first | assumption | (unfold I64;dsimp only;omega)),FZ.out.2.1,Nat.le_succ_of_le NZ.out,T8.out.put1 9 (.int .i64 (r8 - 1)) rfl (by simpa using T8.out.1.set_ 9 (.int .i64 (r8 - 1)))⟩
    by_cases h4:r7=4
    · subst h4
      go_upto_region 23 with fail
      have n13:w7.cell? ⟨C,13,none⟩=some (.slice A z.nodes.length c):=T7.out.1.cell 13
      clear bc bf
      go_region_law (first
       | (have q7:=T7.out;clear q7;go_simp;go_at_call 25;(with_reducible refine (HN.out _ (by repeat (first | with_reducible exact T7.out.s | with_reducible refine SrcAt.ext ?_ (Ext.refl _).drew)) _ (by decide) (by decide)).mono ?_);rintro e w8 ⟨r8,rfl,p0,p1,s8,k8⟩;have T8:=Lib.hid (T7.out.src s8 (Kept.trans (by repeat (first | with_reducible exact Kept.refl _ _ | with_reducible refine Kept.trans ?_ (Kept.of_ext (Ext.refl _).drew))) k8));clear s8 k8;have n13b:w8.cell? ⟨C,13,none⟩=some (.slice A z.nodes.length c):=T8.out.1.cell 13;have n13a:=fun ob:Obj=>Ext.some ((Ext.refl w8).alloc ob) n13b)
       | (refine step_append_one (O:=OInt) (T:=2) (l:=z.nodes) (F:=F) (G:=[]) (y:=r8) (cs:=[.int .i64 r8]) (by rfl) _ _ 25 (by rfl) (.int .i64 0) 1 8 Try.underlying25 (by kernel_rfl) rfl rfl (by rfl) (T8.out.2.2.1.ext ((Ext.refl w8).alloc _)) _ 0 1 (by rfl) ⟨⟨rfl,(by unfold I64;omega)⟩,rfl⟩ (Blk.new _ _ _).range (by simpa using T8.out.2.2.1.nodup) (by have:=NZ.out;omega) (by decide) ?_;intro v9 w9 F9 o9 k9 f9;obtain ⟨A9,c9,rfl,-⟩:=o9.form;have T9:=Lib.hid (T8.out.app _ k9 o9 f9);have bc9:=(T8.out.keptC _ k9).cell;have bf9:=(T8.out.keptC _ k9).frozen;clear o9 k9 f9))
      all_goals
       go_wp2_with fail
       go_meet
       have t9:=T9.out
       rw [show (z.nodes ++ [r8]).length=z.nodes.length+1 by simp] at t9
       exact ⟨rfl,{ z with nodes:=z.nodes ++ [r8] },A9,c9,F9,FZ.out.1,FZ.out.2.1,(by have:=NZ.out;simp only [List.length_append,List.length_cons,List.length_nil];omega),t9⟩
    · clear bc bf
      go_wp2_with (go_at_call 61;(with_reducible refine (HL.out _ T7.out.s).mono ?_);rintro e w8 ⟨q8,rfl,f8,s8,k8⟩;have T8:=Lib.hid (T7.out.src s8 k8);have F8:=Lib.hid f8;clear s8 k8 f8;have bf:=T8.out.1.frozen;have bc:=T8.out.1.cell)
      go_meet
      obtain ⟨f81,f82⟩:=F8.out
      exact ⟨rfl,{ z with under:=q8 },A,c,F,by (have hF:=FZ.out.1;unfold FitTask at hF ⊢;obtain ⟨a1,a2,a3,a4,a5,a6,a7,a8,a9,a10,a11,a12,a13⟩:=hF;refine ⟨?_,?_,?_,?_,?_,?_,?_,?_,?_,?_,?_,?_,?_⟩ <;> first | assumption | (unfold I64;dsimp only;omega)),FZ.out.2.1,Nat.le_succ_of_le NZ.out,T8.out.put 7 [.int .i64 q8.level,.int .i64 q8.set] rfl (by simpa [World.setCells] using (T8.out.1.set_ 7 (.int .i64 q8.level)).set_ 8 (.int .i64 q8.set))⟩
 case rest =>
 obtain ⟨rfl,y,A,c,F,fy,oy,ny,t8⟩:=hcut
 have FY:=Lib.hid fy
 have NY:=Lib.hid ny
 have OY:=Lib.hid oy
 have T8:=Lib.hid t8
 clear fy ny oy t8 FZ NZ T6
 have bc:=T8.out.1.cell
 go_wp2_with (first
  | (refine wpList_load_mid rfl 27 _ rfl C 0 rfl [.int .i64 y.label.level,.int .i64 y.label.set,.int .i64 y.id,.string y.owner,.int .i64 y.need,.int .i64 y.long,.int .i64 y.prio,.int .i64 y.under.level,.int .i64 y.under.set,.int .i64 y.after,.int .i64 y.born,.int .i64 y.state,.int .i64 y.start,.slice A y.nodes.length c] _ ?hl Try.underlying27 rfl (by kernel_rfl) ?_)
  | (refine wpList_store_mid rfl 27 _ _ rfl R 0 #[.int .i64 y.label.level,.int .i64 y.label.set,.int .i64 y.id,.string y.owner,.int .i64 y.need,.int .i64 y.long,.int .i64 y.prio,.int .i64 y.under.level,.int .i64 y.under.set,.int .i64 y.after,.int .i64 y.born,.int .i64 y.state,.int .i64 y.start,.slice A y.nodes.length c] rfl rfl ?ht (by kernel_rfl) ?ho ?_))
 case hl=>exact Blk.range (t:=27) (cs:=#[.int .i64 y.label.level,.int .i64 y.label.set,.int .i64 y.id,.string y.owner,.int .i64 y.need,.int .i64 y.long,.int .i64 y.prio,.int .i64 y.under.level,.int .i64 y.under.set,.int .i64 y.after,.int .i64 y.born,.int .i64 y.state,.int .i64 y.start,.slice A y.nodes.length c]) T8.out.1
 case ht=>exact Blk.there (t:=27) (cs:=#[.int .i64 0,.int .i64 0,.int .i64 0,.string ⟨#[]⟩,.int .i64 0,.int .i64 0,.int .i64 0,.int .i64 0,.int .i64 0,.int .i64 0,.int .i64 0,.int .i64 0,.int .i64 0,.slice none 0 0]) T8.out.2.1
 case ho=>exact all_oneCell_toArray (cs:=[.int .i64 y.label.level,.int .i64 y.label.set,.int .i64 y.id,.string y.owner,.int .i64 y.need,.int .i64 y.long,.int .i64 y.prio,.int .i64 y.under.level,.int .i64 y.under.set,.int .i64 y.after,.int .i64 y.born,.int .i64 y.state,.int .i64 y.start,.slice A y.nodes.length c]) (by simp [Value.oneCell'])
 obtain ⟨c8,r8,o8,f8,s8,k8,q1,q2,q3⟩:=T8.out
 exact bodyPost_ret (v:=.agg #[.int .i64 y.label.level,.int .i64 y.label.set,.int .i64 y.id,.string y.owner,.int .i64 y.need,.int .i64 y.long,.int .i64 y.prio,.int .i64 y.under.level,.int .i64 y.under.set,.int .i64 y.after,.int .i64 y.born,.int .i64 y.state,.int .i64 y.start,.slice A y.nodes.length c]) (results_blk Try.results22 rfl (Blk.setAll (t:=27) (cs:=#[.int .i64 0,.int .i64 0,.int .i64 0,.string ⟨#[]⟩,.int .i64 0,.int .i64 0,.int .i64 0,.int .i64 0,.int .i64 0,.int .i64 0,.int .i64 0,.int .i64 0,.int .i64 0,.slice none 0 0]) (vs:=#[.int .i64 y.label.level,.int .i64 y.label.set,.int .i64 y.id,.string y.owner,.int .i64 y.need,.int .i64 y.long,.int .i64 y.prio,.int .i64 y.under.level,.int .i64 y.under.set,.int .i64 y.after,.int .i64 y.born,.int .i64 y.state,.int .i64 y.start,.slice A y.nodes.length c]) r8 rfl) Try.underlying27 rfl (by kernel_rfl)) rfl ⟨y,_,F,rfl,⟨_,rfl,FY.out,o8.kept (G:=[R]) (Kept.setCells (by simp) _ _ _ (Kept.refl _ _)) (fun b hb hm=>by simp at hm;have:=f8 b hb;omega)⟩,OY.out,NY.out,fun b hb=>(by have:=f8 b hb;omega),src_put s8 (by omega) (by have:=s8.ge;omega),kept_put k8 q3⟩
end Go.Proofs.Ytlonjlaecaemgaa
