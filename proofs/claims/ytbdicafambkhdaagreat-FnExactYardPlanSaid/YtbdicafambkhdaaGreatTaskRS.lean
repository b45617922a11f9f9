/- compareUses once more: the world that it leaves is the one before with draws and new blocks alone. Printed by wip/cmpg.py. UseAdd in plain Lean. -/
import Derived.Test.YtbdicafambkhdaaGreatUsesE
import Derived.Sort.Grow
import Derived.Test.YtbdicafambkhdaaGreatOrdU
import Derived.Test.YtbdicafambkhdaaGreatLabels
import Derived.Test.YtbdicafambkhdaaGreatLib
import Derived.Laws.BitsAllLaws
set_option maxHeartbeats 8000000
set_option maxRecDepth 50000
namespace Go.Proofs.YtbdicafambkhdaaGreat
open Go.Proofs.Tryz
open Go.RowKit Go.Sort
attribute [local irreducible] wpQuiet
def Gr (w w':World):Prop:=∃ (q:Nat) (os:Array Obj),w'=grow (w.drewN q) os
theorem Gr.refl (w:World):Gr w w:=⟨0,#[],by simp [grow,World.drewN]⟩
theorem Gr.trans {a b c:World} (h:Gr a b) (k:Gr b c):Gr a c:=by
 obtain ⟨q,os,rfl⟩:=h;obtain ⟨r,ps,rfl⟩:=k;exact ⟨q+r,os ++ ps,by simp [grow,World.drewN,Nat.add_assoc]⟩
theorem Gr.alloc {a b:World} (h:Gr a b) (o:Obj):Gr a (b.alloc o):=h.trans ⟨0,#[o],by rw [alloc_eq_grow];simp [grow,World.drewN]⟩
theorem Gr.drew {a b:World} (h:Gr a b):Gr a b.drew:=h.trans ⟨1,#[],by rw [grow_empty];rfl⟩
theorem Gr.ext {a b:World} (h:Gr a b):Ext a b:=by
 obtain ⟨q,os,rfl⟩:=h;refine ⟨rfl,rfl,rfl,by simp [grow,World.drewN],fun i hi=>?_⟩;show (a.heap ++ os)[i]? = a.heap[i]?;rw [Array.getElem?_append_left hi]
theorem ad7 {S:Nat→Prop} (l:List Int) (v:Value) (w:World) (h:Rd fC S w v l) :
 Calls prog 215 #[v] w fun e w'=>e=.returned (.int .i64 (vW l))∧Gr w w':=by
 obtain ⟨A,c,rfl,h1,h2,hk⟩:=h.open_;unfold maxLen at h2;have HK:=ah hk;clear hk h;go_enter func215,ntmps215;go_wp2_with fail;go_loopw [8] (fun i w'=>∃ k:Nat,k≤l.length∧i=.int .i64 k∧(∀ j,j < k→nth l j=0)∧Gr w w') (fun i _=>l.length - (intOf i).toNat);case atStart=>exact ⟨0,by omega,rfl,fun j hj=>by omega,Gr.refl _⟩
 case round =>
  obtain ⟨k,hk1,rfl,hall,hx⟩:=hrel;have HA:=ah hall;have HX:=ah hx;clear hall;by_cases hlt:k < l.length
  · obtain ⟨b,o,cs,rfl,_,⟨rfl,_⟩,hc⟩:=HK.out k hlt;have c0:=Ext.some hx.ext (hc 0 _ rfl);simp only [fC,Nat.mul_one,Nat.add_zero] at c0;clear hc hx;by_cases he:nth l k=0
    · have HE:=ah he;have e1:(nth l k != 0)=false:=by simp [he]
      clear he;go_wp2_with fail;go_roundw;case rel=>exact ⟨k+1,by omega,by go_num,all_succ HA.out HE.out,HX.out⟩
      case measure=>simp [intOf];omega
    · have HE:=ah he;have e1:(nth l k != 0)=true:=by simp [he]
      clear he;go_wp2_with fail;go_ret;exact ⟨aI (Nc hlt HA.out HE.out).symm,HX.out⟩
  · have HE:=ah (Qx (l:=l) fun j hj=>HA.out j (by omega));go_wp2_with fail;go_ret;exact ⟨aI HE.out.symm,HX.out⟩
theorem qH {S S':Nat→Prop} (a b:Label) (cs ds:List Value) (w:World) (h:aH.rel S w cs a) (g:aH.rel S' w ds b) :
 Calls prog 117 #[.agg cs.toArray,.agg ds.toArray] w fun e w'=>e=.returned (.int .i64 (bW a b))∧Gr w w':=by
 obtain ⟨rfl,hi⟩:=h;obtain ⟨rfl,gi⟩:=g;clear hi gi;simp only [aQ];go_enter func117,ntmps117;go_upto_region 1 with (fail)
 obtain ⟨W,B,hW,hB,hx0,a0,b0⟩:=eY w (Rl a) (Rl b) 47 47;rw [← hW,← hB];have XX:Hid (Gr w W):=ah (by rw [hW];exact ((Gr.refl w).alloc _).alloc _);clear hW hB;have al:∀ V,Gr W V→∀ i,V.cell? ⟨B,i,none⟩=_:=fun V hx=>(a0.ext hx.ext).cell;have bl:∀ V,Gr W V→∀ i,V.cell? ⟨B+1,i,none⟩=_:=fun V hx=>(b0.ext hx.ext).cell;clear hx0 a0 b0;go_region_held3 (fun w'=>Gr W w') (first | exact (Gr.refl _).drew | assumption | exact Gr.alloc (by assumption) _ | exact Gr.trans (by assumption) jO) (first | (go_at_call 216;refine (yN _ _ _).mono ?_;rintro e w1 ⟨rfl,rfl⟩) | (go_at_call 215;refine (ad7 [mQ a.level b.level,mQ a.set b.set] _ _ ((Tt W _ _ _ (Ej _ _) (Ej _ _)).ext (Ext.refl _).drew)).mono ?_;rintro e w9 ⟨rfl,jO⟩));all_goals
  clear al bl;go_wp2_with fail;go_ret;exact ⟨rfl,XX.out.trans (by assumption)⟩
theorem uq {S S':Nat→Prop} (a b:Use) (cs ds:List Value) (w:World) (h:dX.rel S w cs a) (g:dX.rel S' w ds b) :
 Calls prog 155 #[.agg cs.toArray,.agg ds.toArray] w fun e w'=>e=.returned (.int .i64 (jJ a b))∧Gr w w':=by
 obtain ⟨rfl,hi⟩:=h;obtain ⟨rfl,gi⟩:=g;have ha:aP a.label:=⟨hi.1,hi.2.1⟩
 have hb:aP b.label:=⟨gi.1,gi.2.1⟩
 have HA:=ah ha;have HB:=ah hb;clear hi gi ha hb;simp only [kN];go_enter func155,ntmps155;go_upto_region 1 with (fail)
 obtain ⟨W,B,hW,hB,hx0,a0,b0⟩:=eY w (Ru a) (Ru b) 138 138;rw [← hW,← hB];have XX:Hid (Gr w W):=ah (by rw [hW];exact ((Gr.refl w).alloc _).alloc _);clear hW hB;have al:∀ V,Gr W V→∀ i,V.cell? ⟨B,i,none⟩=_:=fun V hx=>(a0.ext hx.ext).cell;have bl:∀ V,Gr W V→∀ i,V.cell? ⟨B+1,i,none⟩=_:=fun V hx=>(b0.ext hx.ext).cell;clear hx0 a0 b0;go_region_held3 (fun w'=>Gr W w') (first | exact (Gr.refl _).drew | assumption | exact Gr.alloc (by assumption) _ | exact Gr.trans (by assumption) jO | exact Gr.trans (by assumption) eu) (first | (go_at_call 117;(refine (qH (S:=fun _=>True) (S':=fun _=>True) a.label b.label _ _ _ (aC HA.out) (aC HB.out)).mono ?_);rintro e w8 ⟨rfl,eu⟩) | (go_at_call 238;refine (Tryz.strings_Compare _ _ _).mono ?_;rintro e w1 ⟨rfl,rfl⟩) | (go_at_call 215;refine (ad7 [bW a.label b.label,Lib.compareBytes a.owner.data.toList b.owner.data.toList] _ _ (Tt _ _ _ _ (vT _ _) (wF _ _))).mono ?_;rintro e w9 ⟨rfl,jO⟩));all_goals
  clear al bl;go_wp2_with fail;go_ret;exact ⟨rfl,XX.out.trans (by assumption)⟩
end Go.Proofs.YtbdicafambkhdaaGreat
namespace Go.Proofs.YtbdicafambkhdaaGreat
open Go.Proofs.Tryz
open Go.RowKit
theorem FI.lt_trans {α:Type} {c:α→α→Int} (h:FI c) {x y z:α} (h1:c x y < 0) (h2:c y z < 0):c x z < 0:=by
 have h3:=h.trans x y z (by omega) (by omega);rcases Int.lt_or_eq_of_le h3 with h4 | h4
 · exact h4
 · have h5:=h.anti x z;have h6:=h.trans z x y (by omega) (by omega);have h7:=h.anti y z;omega
end Go.Proofs.YtbdicafambkhdaaGreat
/- The walks over lists of node numbers: nodesRight and l04Nodes. -/
namespace Go.Proofs.YtbdicafambkhdaaGreat
open Go.Proofs.Tryz
open Go.RowKit
attribute [local irreducible] wpQuiet
def numAt (l:List Int) (i:Nat):Bool:=jG (nth l i) 0 5 && (decide (i=0) || decide (nth l (i - 1) < nth l i))
def su (l:List Int):Bool:=(List.range l.length).all (numAt l)
theorem tu {l:List Int} {i:Nat} (hi:i < l.length) (h:numAt l i=false):su l=false:=by
 unfold su;rw [List.all_eq_false];exact ⟨i,List.mem_range.2 hi,by simp [h]⟩
theorem Qw {l:List Int} (h:∀ i,i < l.length→numAt l i=true):su l=true:=List.all_eq_true.2 fun i hi=>h i (List.mem_range.1 hi)
theorem MZ {l:List Int}:numAt l 0=jG (nth l 0) 0 5:=by simp [numAt]
theorem xJ {l:List Int} {m:Nat}:numAt l (m+1)=(jG (nth l (m+1)) 0 5 && decide (nth l m < nth l (m+1))):=by simp [numAt]
theorem Qu {l:List Int} {k:Nat} (h:jG (nth l k) 0 5=false):numAt l k=false:=by simp [numAt,h]
theorem Rd.ints {S:Nat→Prop} {w:World} {v:Value} {l:List Int} (h:Rd fC S w v l) :
 ∃ A c,v=.slice A l.length c∧l.length≤c∧c≤maxLen∧∀ k,k < l.length→∃ b o,A=some ⟨b,o,none⟩∧w.cell? ⟨b,o+k,none⟩=some (.int .i64 (nth l k)):=by
 obtain ⟨A,c,hv,h1,h2,hk⟩:=h.open_;refine ⟨A,c,hv,h1,h2,fun k hlt=>?_⟩;obtain ⟨b,o,cs,hA,_,⟨rfl,_⟩,hc⟩:=hk k hlt;have h0:=hc 0 _ rfl;simp only [fC,Nat.mul_one,Nat.add_zero] at h0;exact ⟨b,o,hA,h0⟩
theorem Sm {S:Nat→Prop} (l:List Int) (v:Value) (w:World) (h:Rd fC S w v l) :
 Calls prog 250 #[v] w fun e w'=>e=.returned (.bool (su l))∧Ext w w':=by
 obtain ⟨A,c,rfl,h1,h2,hk⟩:=h.ints;unfold maxLen at h2;have HK:=ah hk;clear hk h;go_enter func250,ntmps250;go_wp2_with fail;go_loopw [3] (fun i w'=>∃ k:Nat,k≤l.length∧i=.int .i64 k∧(∀ j,j < k→numAt l j=true)∧Ext w w') (fun i _=>l.length - (intOf i).toNat);case atStart=>exact ⟨0,by omega,rfl,fun j hj=>by omega,Ext.refl _⟩
 case round =>
  obtain ⟨k,hk1,rfl,hall,hx⟩:=hrel;have HA:=ah hall;clear hall;by_cases hlt:k < l.length
  · obtain ⟨b,o,rfl,c0⟩:=HK.out k hlt;have c0':=Ext.some hx c0;clear c0;by_cases hs:jG (nth l k) 0 5=true
    · by_cases h0:0 < k
      · obtain ⟨m,rfl⟩:∃ m,k=m+1:=⟨k - 1,by omega⟩
        obtain ⟨b',o',Ui,d0⟩:=HK.out m (by omega);cases Ui;have d0':=Ext.some hx d0;clear d0;have i0:(0:Int)≤(m:Int)+1:=by omega
        have i1:(m:Int)+1 < (l.length:Int):=by omega
        have i2:((m:Int)+1).toNat=m+1:=by omega
        have i3:IntKind.i64.wrap (m:Int)=(m:Int):=IntWalk.i64_in _ (by omega);have i4:m < l.length:=by omega
        by_cases hle:nth l m < nth l (m+1)
        · go_wp2_with fail;refine ak (by kernel_rfl) (by kernel_rfl) ?_;repeat (
           (refine wpQuiet_step (fun K hK=>?_)
            go_simp;first
             | (refine hK _ ?_;clear hK K)
             | (apply Exists.intro
                refine ⟨fun bH aj=>?_,hK _ ?_⟩
                · have yt:=Ext.some aj c0';have yO:=Ext.some aj d0';first | exact rfl | (go_simp;done) | (go_simp;exact rfl) | (go_at_call 32;exact aN aj (fG _ _ _ _))
                clear hK K)))
          refine wpQuiet_nil ?_;intro w1 hx1;go_wp2_with fail;go_roundw;case rel=>exact ⟨m+2,by omega,by go_num,all_succ HA.out (by rw [xJ,hs];simpa using hle),hx.trans hx1⟩
          case measure=>simp [intOf];omega
        · have hgt:nth l (m+1)≤nth l m:=by omega
          clear hle;have HF:Hid (su l=false):=ah (tu hlt (by rw [xJ,hs];simpa using hgt));go_wp2_with fail;refine ak (by kernel_rfl) (by kernel_rfl) ?_;repeat (
           (refine wpQuiet_step (fun K hK=>?_)
            go_simp;first
             | (refine hK _ ?_;clear hK K)
             | (apply Exists.intro
                refine ⟨fun bH aj=>?_,hK _ ?_⟩
                · have yt:=Ext.some aj c0';have yO:=Ext.some aj d0';first | exact rfl | (go_simp;done) | (go_simp;exact rfl) | (go_at_call 32;exact aN aj (fG _ _ _ _))
                clear hK K)))
          refine wpQuiet_nil ?_;intro w1 hx1;go_wp2_with fail;go_ret;exact ⟨au HF.out.symm,hx.trans hx1⟩
      · obtain rfl:k=0:=by omega
        simp only [Nat.add_zero] at c0';go_wp2_with fail;refine ak (by kernel_rfl) (by kernel_rfl) ?_;repeat (
         (refine wpQuiet_step (fun K hK=>?_)
          go_simp;first
           | (refine hK _ ?_;clear hK K)
           | (apply Exists.intro
              refine ⟨fun bH aj=>?_,hK _ ?_⟩
              · have yt:=Ext.some aj c0';first | exact rfl | (go_simp;done) | (go_simp;exact rfl) | (go_at_call 32;exact aN aj (fG _ _ _ _))
              clear hK K)))
        refine wpQuiet_nil ?_;intro w1 hx1;go_wp2_with fail;go_roundw;case rel=>exact ⟨1,by omega,by go_num,all_succ HA.out (by rw [MZ,hs]),hx.trans hx1⟩
        case measure=>simp [intOf];omega
    · have HF:Hid (su l=false):=ah (tu hlt (Qu (by simpa using hs)));simp only [Bool.not_eq_true] at hs;go_wp2_with fail;refine ak (by kernel_rfl) (by kernel_rfl) ?_;repeat (
       (refine wpQuiet_step (fun K hK=>?_)
        go_simp;first
         | (refine hK _ ?_;clear hK K)
         | (apply Exists.intro
            refine ⟨fun bH aj=>?_,hK _ ?_⟩
            · have yt:=Ext.some aj c0';first | exact rfl | (go_simp;done) | (go_simp;exact rfl) | (go_at_call 32;exact aN aj (fG _ _ _ _))
            clear hK K)))
      refine wpQuiet_nil ?_;intro w1 hx1;go_wp2_with fail;go_ret;exact ⟨au HF.out.symm,hx.trans hx1⟩
  · have HF:Hid (su l=true):=ah (Qw fun i hi=>HA.out i (by omega));go_wp2_with fail;go_ret;exact ⟨au HF.out.symm,hx⟩
theorem JO {S:Nat→Prop} (l:List Int) (need:Int) (v:Value) (w:World) (h:Rd fC S w v l) :
 Calls prog 266 #[v,.int .i64 need] w fun e w'=>e=.returned (.bool (su l && decide ((l.length:Int)=need)))∧Ext w w':=by
 obtain ⟨A,c,rfl,h1,h2,hk⟩:=h.ints;unfold maxLen at h2;have HK:=ah hk;clear hk h;go_enter func266,ntmps266;go_wp2_with fail;go_loopw [9] (fun i w'=>∃ k:Nat,k≤l.length∧i=.int .i64 k∧(∀ j,j < k→numAt l j=true)∧Ext w w') (fun i _=>l.length - (intOf i).toNat);case atStart=>exact ⟨0,by omega,rfl,fun j hj=>by omega,Ext.refl _⟩
 case round =>
  obtain ⟨k,hk1,rfl,hall,hx⟩:=hrel;have HA:=ah hall;clear hall;by_cases hlt:k < l.length
  · obtain ⟨b,o,rfl,c0⟩:=HK.out k hlt;have c0':=Ext.some hx c0;clear c0;have HX:=ah hx;clear hx;by_cases hs:jG (nth l k) 0 5=true
    · by_cases h0:0 < k
      · obtain ⟨m,rfl⟩:∃ m,k=m+1:=⟨k - 1,by omega⟩
        obtain ⟨b',o',Ui,d0⟩:=HK.out m (by omega);cases Ui;have d0':=Ext.some HX.out d0;clear d0;have i0:(0:Int)≤(m:Int)+1:=by omega
        have i1:(m:Int)+1 < (l.length:Int):=by omega
        have i2:((m:Int)+1).toNat=m+1:=by omega
        have i3:IntKind.i64.wrap (m:Int)=(m:Int):=IntWalk.i64_in _ (by omega);have i4:m < l.length:=by omega
        by_cases hle:nth l m < nth l (m+1)
        · go_wp2_with (go_at_call 42;refine (bI _ _ _ _).mono ?_;rintro e w' ⟨rfl,rfl⟩);go_roundw;case rel=>exact ⟨m+2,by omega,by go_num,all_succ HA.out (by rw [xJ,hs];simpa using hle),HX.out⟩
          case measure=>simp [intOf];omega
        · have hgt:nth l (m+1)≤nth l m:=by omega
          clear hle;have HF:Hid (su l=false):=ah (tu hlt (by rw [xJ,hs];simpa using hgt));go_wp2_with (go_at_call 42;refine (bI _ _ _ _).mono ?_;rintro e w' ⟨rfl,rfl⟩);go_ret;exact ⟨au (by rw [HF.out];rfl),HX.out⟩
      · obtain rfl:k=0:=by omega
        simp only [Nat.add_zero] at c0';go_wp2_with (go_at_call 42;refine (bI _ _ _ _).mono ?_;rintro e w' ⟨rfl,rfl⟩);go_roundw;case rel=>exact ⟨1,by omega,by go_num,all_succ HA.out (by rw [MZ,hs]),HX.out⟩
        case measure=>simp [intOf];omega
    · have HF:Hid (su l=false):=ah (tu hlt (Qu (by simpa using hs)));simp only [Bool.not_eq_true] at hs;go_wp2_with (go_at_call 42;refine (bI _ _ _ _).mono ?_;rintro e w' ⟨rfl,rfl⟩);go_ret;exact ⟨au (by rw [HF.out];rfl),HX.out⟩
  · have HF:Hid (su l=true):=ah (Qw fun i hi=>HA.out i (by omega));have HX:=ah hx;go_wp2_with fail;go_ret;exact ⟨au (by rw [HF.out,Bool.true_and];simp [Bool.beq_eq_decide_eq]),HX.out⟩
end Go.Proofs.YtbdicafambkhdaaGreat
/- Two ways to say that one set of bits lies in another. -/
namespace Go.Proofs.YtbdicafambkhdaaGreat
open Go.Proofs.Tryz
open Go
theorem Xu {m n:Nat} (hm:m < 18446744073709551616) (hn:n < 18446744073709551616) (h:IntKind.i64.wrap (m:Int)=IntKind.i64.wrap (n:Int)):m=n:=by
 rw [IntKind.wrap_i64,IntKind.wrap_i64] at h;omega
theorem Oi {b:Int} (h:I64 b):IntKind.i64.wrap ((BitVec.ofInt 64 b).toNat:Int)=b:=by
 obtain ⟨h1,h2⟩:=h;rw [BitVec.toNat_ofInt,IntKind.wrap_i64];have e:(2:Nat) ^ 64=18446744073709551616:=by decide
 rw [e];omega
theorem aaX (x y:BitVec 64):x &&& y=x↔x &&& ~~~y=0#64:=by
 constructor
 · intro h;apply BitVec.eq_of_getElem_eq;intro i hi;have:=congrArg (fun z=>z[i]) h;simp at this ⊢;exact this
 · intro h;apply BitVec.eq_of_getElem_eq;intro i hi;have:=congrArg (fun z=>z[i]) h;simp at this ⊢;exact this
theorem adv {b d:Int} (hb:I64 b):(bits .and .i64 b d == b)=(bits .andNot .i64 b d == 0):=by
 rw [Bool.eq_iff_iff,beq_iff_eq,beq_iff_eq];show IntKind.i64.wrap ((BitVec.ofInt 64 b &&& BitVec.ofInt 64 d).toNat:Int)=b↔IntKind.i64.wrap ((BitVec.ofInt 64 b &&& ~~~(BitVec.ofInt 64 d)).toNat:Int)=0;have l1:=(BitVec.ofInt 64 b &&& BitVec.ofInt 64 d).isLt;have l2:=(BitVec.ofInt 64 b &&& ~~~(BitVec.ofInt 64 d)).isLt;have l3:=(BitVec.ofInt 64 b).isLt;have e:(2:Nat) ^ 64=18446744073709551616:=by decide
 rw [e] at l1 l2 l3;constructor
 · intro h;have h2:BitVec.ofInt 64 b &&& BitVec.ofInt 64 d=BitVec.ofInt 64 b:=BitVec.eq_of_toNat_eq (Xu l1 l3 (h.trans (Oi hb).symm));rw [(aaX _ _).1 h2];decide
 · intro h;have h2:BitVec.ofInt 64 b &&& ~~~(BitVec.ofInt 64 d)=0#64:=BitVec.eq_of_toNat_eq (Xu l2 (by decide) (h.trans (by decide)));rw [(aaX _ _).2 h2];exact Oi hb
end Go.Proofs.YtbdicafambkhdaaGreat
/- The walks of Below and TaskRight,the program's and the reference's. -/
namespace Go.Proofs.YtbdicafambkhdaaGreat
open Go.Proofs.Tryz
open Go.RowKit
attribute [local irreducible] wpQuiet
def mW (a b:Label):Bool:=decide (a.level≤b.level) && (bits .and .i64 a.set b.set == a.set)
def uU (a b:Label):Bool:=aA a && aA b && mW a b
theorem xw {S S':Nat→Prop} (a b:Label) (cs ds:List Value) (w:World) (h:aH.rel S w cs a) (g:aH.rel S' w ds b) :
 Calls prog 246 #[.agg cs.toArray,.agg ds.toArray] w fun e w'=>e=.returned (.bool (mW a b))∧Ext w w':=by
 obtain ⟨rfl,hi⟩:=h;obtain ⟨rfl,gi⟩:=g;clear hi gi;simp only [aQ];go_enter func246,ntmps246;go_wp2;all_goals (go_ret;exact ⟨au (by simp_all [mW];try (intro _;omega)),((Ext.refl _).alloc _).alloc _⟩)
theorem P8 {S S':Nat→Prop} (a b:Label) (cs ds:List Value) (w:World) (h:aH.rel S w cs a) (g:aH.rel S' w ds b) :
 Calls prog 260 #[.agg cs.toArray,.agg ds.toArray] w fun e w'=>e=.returned (.bool (mW a b))∧Ext w w':=by
 obtain ⟨rfl,hi⟩:=h;obtain ⟨rfl,gi⟩:=g;have HB:=ah (adv (b:=a.set) (d:=b.set) (by simp only [aP] at hi;exact hi.2));clear hi gi;simp only [aQ];go_enter func260,ntmps260;go_wp2;all_goals (go_ret;exact ⟨au (by have hb:=HB.out;go_light;simp_all [mW];try (intro _;omega)),((Ext.refl _).alloc _).alloc _⟩)
theorem Py {S S':Nat→Prop} (a b:Label) (cs ds:List Value) (w:World) (h:aH.rel S w cs a) (g:aH.rel S' w ds b) :
 Calls prog 248 #[.agg cs.toArray,.agg ds.toArray] w fun e w'=>e=.returned (.bool (uU a b))∧Ext w w':=by
 obtain ⟨rfl,hi⟩:=h;obtain ⟨rfl,gi⟩:=g;have HI:=ah hi;have GI:=ah gi;clear hi gi;simp only [aQ];go_enter func248,ntmps248;go_upto_region 1 with (fail)
 obtain ⟨W,B,hW,hB,hx0,a0,b0⟩:=eY w (Rl a) (Rl b) 47 47;rw [← hW,← hB];clear hW hB;have XX:=ah hx0;have AX:=ah a0;have BX:=ah b0;clear hx0 a0 b0;have ac:=AX.out.cell;have bc:=BX.out.cell;go_wp2_with (first | (go_at_call 139;(with_reducible refine (dB (S:=S) a [a.level,a.set] _ (aC HI.out)).mono ?_);rintro e w1 ⟨rfl,hx⟩;replace AX:=ah (AX.out.ext hx);replace BX:=ah (BX.out.ext hx);replace XX:=ah (XX.out.trans hx);clear hx ac bc;have ac:=AX.out.cell;have bc:=BX.out.cell) | (go_at_call 139;(with_reducible refine (dB (S:=S) b [b.level,b.set] _ (aC GI.out)).mono ?_);rintro e w1 ⟨rfl,hx⟩;replace AX:=ah (AX.out.ext hx);replace BX:=ah (BX.out.ext hx);replace XX:=ah (XX.out.trans hx);clear hx ac bc;have ac:=AX.out.cell;have bc:=BX.out.cell) | (go_at_call 246;(with_reducible refine (xw (S:=S) (S':=S') a b [a.level,a.set] [b.level,b.set] _ (aC HI.out) (aC GI.out)).mono ?_);rintro e w1 ⟨rfl,hx⟩;replace XX:=ah (XX.out.trans hx);clear hx ac bc AX BX));all_goals (go_ret;exact ⟨au (by go_light;(try clear ac bc);simp_all [uU]),XX.out⟩)
theorem OJ {S S':Nat→Prop} (a b:Label) (cs ds:List Value) (w:World) (h:aH.rel S w cs a) (g:aH.rel S' w ds b) :
 Calls prog 264 #[.agg cs.toArray,.agg ds.toArray] w fun e w'=>e=.returned (.bool (uU a b))∧Ext w w':=by
 obtain ⟨rfl,hi⟩:=h;obtain ⟨rfl,gi⟩:=g;have HI:=ah hi;have GI:=ah gi;clear hi gi;simp only [aQ];go_enter func264,ntmps264;go_upto_region 1 with (fail)
 obtain ⟨W,B,hW,hB,hx0,a0,b0⟩:=eY w (Rl a) (Rl b) 47 47;rw [← hW,← hB];clear hW hB;have XX:=ah hx0;have AX:=ah a0;have BX:=ah b0;clear hx0 a0 b0;have ac:=AX.out.cell;have bc:=BX.out.cell;go_wp2_with (first | (go_at_call 150;(with_reducible refine (gy (S:=S) a [a.level,a.set] _ (aC HI.out)).mono ?_);rintro e w1 ⟨rfl,hx⟩;replace AX:=ah (AX.out.ext hx);replace BX:=ah (BX.out.ext hx);replace XX:=ah (XX.out.trans hx);clear hx ac bc;have ac:=AX.out.cell;have bc:=BX.out.cell) | (go_at_call 150;(with_reducible refine (gy (S:=S) b [b.level,b.set] _ (aC GI.out)).mono ?_);rintro e w1 ⟨rfl,hx⟩;replace AX:=ah (AX.out.ext hx);replace BX:=ah (BX.out.ext hx);replace XX:=ah (XX.out.trans hx);clear hx ac bc;have ac:=AX.out.cell;have bc:=BX.out.cell) | (go_at_call 260;(with_reducible refine (P8 (S:=S) (S':=S') a b [a.level,a.set] [b.level,b.set] _ (aC HI.out) (aC GI.out)).mono ?_);rintro e w1 ⟨rfl,hx⟩;replace XX:=ah (XX.out.trans hx);clear hx ac bc AX BX));all_goals (go_ret;exact ⟨au (by go_light;(try clear ac bc);simp_all [uU]),XX.out⟩)
theorem afx {α:Type} {l:List α}:((l.length:Int) == 0)=decide (l = []):=by cases l <;> simp <;> omega
def Fz (x:Task):Bool:=if x.after=0 then decide (x.under=⟨0,0⟩) else jG x.after 1 12 && uU x.under x.label && !(decide (x.under=x.label) && decide (x.id≤x.after))
def xQ (x:Task):Bool:=if x.state=2∨(x.state=1∧0 < x.nodes.length) then oD x.start && decide ((x.nodes.length:Int)=x.need) && su x.nodes else decide (x.start=0) && decide (x.nodes.length=0)
def bJ (x:Task):Bool :=
 aA x.label && jG x.id 1 12 && je x.owner && xu x.need x.long x.prio && vI x.born && jG x.state 1 6 && Fz x && xQ x
end Go.Proofs.YtbdicafambkhdaaGreat
/- The walks of the search for a task: l12At and taskAt. TasksRight as plain Lean: what the program asks and what the reference asks say the same. -/
namespace Go.Proofs.YtbdicafambkhdaaGreat
open Go.Proofs.Tryz
open Go.RowKit
attribute [local irreducible] wpQuiet
theorem Mc {S:Nat→Prop} (l:List Task) (p:Task→Bool) (v:Value) (f:Nat) (caps:Array Value) (w:World) (h:Rd ETask S w v l) (hcall:∀ (args:Array Value) (W:World),(callFunc f args).run prog W=.ok (.enter f args) W)
 (hf:∀ (cs:List Value) (x:Task) (w1:World),Ext w w1→ETask.rel S w1 cs x→Calls prog f (#[.agg cs.toArray] ++ caps) w1 fun e w'=>e=.returned (.bool (p x))∧Ext w1 w') :
 Calls prog 223 #[v,.func (.func f) #[] caps] w fun e w'=>e=.returned (.int .i64 (idxOf p l))∧Ext w w':=by
 obtain ⟨A,c,rfl,h1,h2,hk⟩:=h.open_;unfold maxLen at h2;have HK:=ah hk;have HF:=ah hf;clear hk h hf;go_enter func223,ntmps223;go_wp2_with fail;go_loopw [8] (fun i w'=>∃ k:Nat,k≤l.length∧i=.int .i64 k∧(∀ j,j < k→p (nth l j)=false)∧Ext w w') (fun i _=>l.length - (intOf i).toNat);case atStart=>exact ⟨0,by omega,rfl,fun j hj=>by omega,Ext.refl _⟩
 case round =>
  obtain ⟨k,hk1,rfl,hall,hx⟩:=hrel;have HA:=ah hall;have HX:=ah hx;clear hall;by_cases hlt:k < l.length
  · obtain ⟨b,o,cs,rfl,hb,hr,hc⟩:=HK.out k hlt;have HR:=ah (ETask.keep (hx.same S) hr);have HC:=ah (hx.range hc);have HI:Hid ((prog.info? 76).map (·.size)=some cs.length):=ah (by rw [ETask.len hr];kernel_rfl);clear hr hc hx;by_cases hp:p (nth l k)=true
    · have HE:Hid (idxOf p l=k):=ah (iP hlt HA.out hp);go_wp2_with (first | (refine wpList_load_mid rfl 76 _ rfl b (o+k * 14) rfl cs _ HC.out underlying76 rfl HI.out ?_) | ((with_reducible refine (HF.out cs (nth l k) _ HX.out HR.out).mono ?_);rintro e w1 ⟨rfl,hx1⟩;have jf:=ah hx1;clear hx1));go_ret;exact ⟨aI HE.out.symm,HX.out.trans jf.out⟩
    · simp only [Bool.not_eq_true] at hp;have HE:=ah (all_succ HA.out hp);go_wp2_with (first | (refine wpList_load_mid rfl 76 _ rfl b (o+k * 14) rfl cs _ HC.out underlying76 rfl HI.out ?_) | ((with_reducible refine (HF.out cs (nth l k) _ HX.out HR.out).mono ?_);rintro e w1 ⟨rfl,hx1⟩;have jf:=ah hx1;clear hx1));go_roundw;case rel=>exact ⟨k+1,by omega,by go_num,HE.out,HX.out.trans jf.out⟩
      case measure=>simp [intOf];omega
  · have HE:Hid (idxOf p l = -1):=ah (iO fun j hj=>HA.out j (by omega));go_wp2_with fail;go_ret;exact ⟨aI HE.out.symm,HX.out⟩
theorem Ie {S:Nat→Prop} (l:List Task) (p:Task→Bool) (v:Value) (f:Nat) (c1 c2:Value) (w:World) (h:Rd ETask S w v l) (hcall:∀ (args:Array Value) (W:World),(callFunc f args).run prog W=.ok (.enter f args) W)
 (hf:∀ (cs:List Value) (x:Task) (w1:World),Ext w w1→ETask.rel S w1 cs x→Calls prog f #[.agg cs.toArray,c1,c2] w1 fun e w'=>e=.returned (.bool (p x))∧Ext w1 w') :
 Calls prog 223 #[v,.func (.func f) #[] #[c1,c2]] w fun e w'=>e=.returned (.int .i64 (idxOf p l))∧Ext w w' :=
 Mc l p v f #[c1,c2] w h hcall fun cs x w1 hx hr=>by rw [show (#[.agg cs.toArray] ++ #[c1,c2]:Array Value) = #[.agg cs.toArray,c1,c2] from rfl];exact hf cs x w1 hx hr
theorem adT (p:Prop) [Decidable p] (b:Bool) (w:World):(if p then Result.ok (Next.value (.bool b)) w else Result.ok (Next.value (.bool true)) w)=Result.ok (Next.value (.bool (!decide p || b))) w:=by
 by_cases h:p <;> simp [h]
def jv (a:Label) (n:Int) (x:Task):Bool:=decide (x.label=a) && decide (x.id=n)
theorem xk {a:Label} {n:Int} {x:Task}:jv a n x=(decide (x.label.level=a.level) && decide (x.label.set=a.set) && decide (x.id=n)):=by
 obtain ⟨⟨l,s⟩,i,_⟩:=x;obtain ⟨m,t⟩:=a;simp [jv]
def pI (l:List Task) (a:Label) (n:Int):Int:=idxOf (jv a n) l
theorem nR {S:Nat→Prop} (l:List Task) (a:Label) (n:Int) (v:Value) (w:World) (h:Rd ETask S w v l) :
 Calls prog 144 #[v,.agg (Rl a),.int .i64 n] w fun e w'=>e=.returned (.int .i64 (pI l a n))∧Ext w w':=by
 have HR:=ah h;obtain ⟨A,c,rfl,h1,h2,hk⟩:=h.open_;unfold maxLen at h2;have HK:=ah hk;clear hk h;go_enter func144,ntmps144;go_upto_region 1 with (fail)
 obtain ⟨W,B,aX,aT,jF,aG⟩:=fH w (Rl a) 47;rw [← aX,← aT];have b0:=aG 0 _ rfl;have b1:=aG 1 _ rfl;clear aX aT aG;have HB0:=ah b0;have HB1:=ah b1;have HW:=ah jF;clear b0 b1 jF;go_wp2_with fail;go_loopw [7] (fun i w'=>∃ k:Nat,k≤l.length∧i=.int .i64 k∧(∀ j,j < k→jv a n (nth l j)=false)∧Ext W w') (fun i _=>l.length - (intOf i).toNat);case atStart=>exact ⟨0,by omega,rfl,fun j hj=>by omega,Ext.refl _⟩
 case round =>
  obtain ⟨k,hk1,rfl,hall,hx⟩:=hrel;have HA:=ah hall;have HX:=ah (HW.out.trans hx);have HY:=ah hx;clear hall;by_cases hlt:k < l.length
  · obtain ⟨b,q,cs,rfl,_,⟨v1,rfl,hfit,_⟩,hc⟩:=HK.out k hlt;have c0:=Ext.some HX.out (hc 0 _ rfl);have c1:=Ext.some HX.out (hc 1 _ rfl);have c2:=Ext.some HX.out (hc 2 _ rfl);have d0:=Ext.some hx HB0.out;have d1:=Ext.some hx HB1.out;simp only [ETask,Nat.add_zero] at c0 c1 c2;clear hc hfit hx;go_wp2_with fail;all_goals refine ak (by kernel_rfl) (by kernel_rfl) ?_
    all_goals have jl:=@kL
    repeat (any_goals (
     refine wpQuiet_step (fun K hK=>?_);go_simp;first
      | (refine hK _ ?_;clear hK K)
      | (apply Exists.intro
         refine ⟨fun bH aj=>?_,hK _ ?_⟩
         · have kH:=Ext.some aj c0;have mX:=Ext.some aj c1;have yI:=Ext.some aj c2;have jH:=Ext.some aj d0;have kJ:=Ext.some aj d1;(first | exact rfl | (go_simp;done) | (go_simp;exact rfl))
         clear hK K)
      | (split
         all_goals (first
          | (refine hK _ ?_;clear hK K)
          | (apply Exists.intro
             refine ⟨fun bH aj=>?_,hK _ ?_⟩
             · have kH:=Ext.some aj c0;have mX:=Ext.some aj c1;have yI:=Ext.some aj c2;have jH:=Ext.some aj d0;have kJ:=Ext.some aj d1;(first | exact rfl | (go_simp;done) | (go_simp;exact rfl))
             clear hK K)))))
    all_goals (refine wpQuiet_nil ?_)
    all_goals (intro w1 hx1;clear jl)
    all_goals have HE:=ah hx1
    all_goals clear c0 c1 c2 d0 d1 hx1
    all_goals go_wp2_with fail
    all_goals first
     | (go_ret;exact ⟨aI (iP hlt HA.out (by rw [xk];simp [*] <;> first | exact eq_of_beq (by assumption) | exact ne_of_beq_false (by assumption))).symm,HX.out.trans HE.out⟩)
     | (go_roundw
        case rel=>exact ⟨k+1,by omega,by go_num,all_succ HA.out (by rw [xk];simp [*] <;> first | exact eq_of_beq (by assumption) | exact ne_of_beq_false (by assumption)),HY.out.trans HE.out⟩
        case measure=>simp [intOf];omega)
     | (refine ⟨⟨k+1,by omega,by go_num,all_succ HA.out (by rw [xk];simp [*] <;> first | exact eq_of_beq (by assumption) | exact ne_of_beq_false (by assumption)),HY.out.trans HE.out⟩,?_⟩
        simp [intOf];omega)
  · have HE:=ah (iO (p:=jv a n) (l:=l) fun j hj=>HA.out j (by omega));go_wp2_with fail;go_ret;exact ⟨aI HE.out.symm,HX.out⟩
theorem RJ:∀ (args:Array Value) (W:World),(callFunc 239 args).run prog W=.ok (.enter 239 args) W:=by
 intro args W;go_simp
theorem Xe {S:Nat→Prop} (x:Task) (a:Label) (n:Int) (cs:List Value) (B:Nat) (w:World) (h:ETask.rel S w cs x) (d0:w.cell? ⟨B,0,none⟩=some (.int .i64 a.level)) (d1:w.cell? ⟨B,1,none⟩=some (.int .i64 a.set)) (d2:w.cell? ⟨B+1,0,none⟩=some (.int .i64 n)) :
 Calls prog 239 #[.agg cs.toArray,.pointer (some ⟨B,0,none⟩),.pointer (some ⟨B+1,0,none⟩)] w fun e w'=>e=.returned (.bool (jv a n x))∧Ext w w':=by
 obtain ⟨v1,rfl,hi,hr⟩:=h;obtain ⟨A,c,rfl,-⟩:=hr.form;clear hi hr;have d0':=fun ob:Obj=>Ext.some ((Ext.refl w).alloc ob) d0;have d1':=fun ob:Obj=>Ext.some ((Ext.refl w).alloc ob) d1;have RP:=fun ob:Obj=>Ext.some ((Ext.refl w).alloc ob) d2;have jl:=@kL;simp only [aB];go_enter func239,ntmps239;go_wp2_with fail;all_goals (go_ret;exact ⟨au (by rw [xk];simp [*] <;> (rw [Bool.eq_iff_iff];simp)),(Ext.refl _).alloc _⟩)
theorem DU {S:Nat→Prop} (l:List Task) (a:Label) (n:Int) (v:Value) (w:World) (h:Rd ETask S w v l) :
 Calls prog 156 #[v,.agg (Rl a),.int .i64 n] w fun e w'=>e=.returned (.int .i64 (pI l a n))∧Ext w w':=by
 have HR:=ah h;clear h;go_enter func156,ntmps156;go_wp2_with fail;obtain ⟨W,B,hW,hB,hx0,a0,b0⟩:=eY w (Rl a) #[.int .i64 n] 47 2;rw [← hW,← hB];clear hW hB;refine (Ie l (jv a n) v _ _ _ _ (HR.out.ext hx0) RJ (fun cs x w1 hx hr=>Xe x a n cs B w1 hr ((a0.ext hx).cell 0) ((a0.ext hx).cell 1) ((b0.ext hx).cell 0))).mono ?_;rintro e w1 ⟨rfl,hx1⟩;clear a0 b0;have HX:=ah (hx0.trans hx1);clear hx0 hx1;go_wp2_with fail;go_ret;exact ⟨rfl,HX.out⟩
end Go.Proofs.YtbdicafambkhdaaGreat
namespace Go.Proofs.YtbdicafambkhdaaGreat
open Go.Proofs.Tryz
open Go.RowKit
theorem qX {a b:Label} (ha:aA a=true) (hb:aA b=true):(keyOf a < keyOf b∧bW a b < 0)∨(a=b∧bW a b=0)∨(keyOf b < keyOf a∧0 < bW a b):=by
 obtain ⟨l,s⟩:=a;obtain ⟨m,t⟩:=b;simp only [aA,jG,Bool.and_eq_true,decide_eq_true_eq] at ha hb;simp only [keyOf,bW,mQ,vW,Label.mk.injEq];rcases Int.lt_trichotomy l m with h | h | h
 · left;simp [h];omega
 · subst h;rcases Int.lt_trichotomy s t with h | h | h
   · left;simp [h]
   · subst h;right;left;simp
   · right;right;have:¬ s < t:=by omega
     simp [h,this]
 · right;right;have:¬ l < m:=by omega
   simp [h,this];omega
def yZ (l:List Task) (i:Nat):Bool :=
 if i=0 then decide ((nth l i).id=1)
 else if 0 < bW (nth l (i - 1)).label (nth l i).label then false
 else if bW (nth l (i - 1)).label (nth l i).label=0 then decide ((nth l i).id=(nth l (i - 1)).id+1) else decide ((nth l i).id=1)
def yQ (l:List Task) (x:Task):Bool:=decide (x.after=0) || decide (0≤pI l x.under x.after)
def tI (l:List Task) (i:Nat):Bool:=bJ (nth l i) && yZ l i && yQ l (nth l i)
def tS (l:List Task) (i:Nat):Bool:=bJ (nth l i) && yZ l i && yQ (l.take i) (nth l i)
def bn (l:List Task):Bool:=decide (l.length≤96) && (List.range l.length).all (tI l)
theorem dQ {x:Task} (h:bJ x=true):aA x.label=true:=by
 simp only [bJ,Bool.and_eq_true] at h;exact h.1.1.1.1.1.1.1
theorem x9 {x:Task} (h:bJ x=true):1≤x.id∧x.id≤12:=by
 simp only [bJ,Bool.and_eq_true] at h;exact dR h.1.1.1.1.1.1.2
theorem JV {x:Task} (h:bJ x=true):Fz x=true:=by
 simp only [bJ,Bool.and_eq_true] at h;exact h.1.2
theorem abR {l:List Task} {m:Nat} (h:yZ l (m+1)=true) (h1:bJ (nth l m)=true) (h2:bJ (nth l (m+1))=true) :
 (keyOf (nth l m).label < keyOf (nth l (m+1)).label∧(nth l (m+1)).id=1)∨((nth l m).label=(nth l (m+1)).label∧(nth l (m+1)).id=(nth l m).id+1):=by
 simp only [yZ,Nat.add_one_ne_zero,if_false,Nat.add_sub_cancel] at h;rcases qX (dQ h1) (dQ h2) with ⟨k,c⟩ | ⟨k,c⟩ | ⟨k,c⟩
 · left;rw [if_neg (by omega),if_neg (by omega)] at h;exact ⟨k,by simpa using h⟩
 · right;rw [if_neg (by omega),if_pos c] at h;exact ⟨k,by simpa using h⟩
 · rw [if_pos c] at h;cases h
theorem xZ {l:List Task} {a:Label} {n:Int}:0≤pI l a n↔∃ j,j < l.length∧(nth l j).label=a∧(nth l j).id=n:=by
 unfold pI;rcases rH (jv a n) l with ⟨h,hn⟩ | ⟨k,hk,h,hp,_⟩
 · rw [h];refine ⟨fun h=>absurd h (by decide),fun ⟨j,hj,h1,h2⟩=>?_⟩;have:=hn j hj;simp [jv,h1,h2] at this
 · rw [h];refine ⟨fun _=>⟨k,hk,?_⟩,fun _=>Int.natCast_nonneg _⟩;simpa [jv] using hp
theorem MX {α:Type} [Inhabited α] {l:List α} {i j:Nat} (h:j < i) (hi:i≤l.length):nth (l.take i) j=nth l j:=by
 rw [aO (by rw [List.length_take];omega),aO (by omega)];simp
theorem afg {a b:Int} (ha:jG a 0 7=true) (hb:jG b 0 7=true) (h:bits .and .i64 a b=a):a≤b:=by
 have h1:=dR ha;have h2:=dR hb;rcases (show a=0∨a=1∨a=2∨a=3∨a=4∨a=5∨a=6∨a=7 by omega) with rfl | rfl | rfl | rfl | rfl | rfl | rfl | rfl <;>
 rcases (show b=0∨b=1∨b=2∨b=3∨b=4∨b=5∨b=6∨b=7 by omega) with rfl | rfl | rfl | rfl | rfl | rfl | rfl | rfl <;>
 first | omega | (exfalso;revert h;decide)
theorem abw {a b:Label} (h:uU a b=true):keyOf a≤keyOf b:=by
 simp only [uU,mW,aA,Bool.and_eq_true,decide_eq_true_eq,beq_iff_eq] at h;have:=afg h.1.1.2 h.1.2.2 h.2.2;have h3:=h.2.1;unfold keyOf;omega
theorem Nh {l:List Task} {i j:Nat} (hj:j < l.length) (h:∀ k,k < l.length→tI l k=true) (hij:i≤j):keyOf (nth l i).label≤keyOf (nth l j).label∧((nth l i).label=(nth l j).label→(nth l i).id+(j - i:Nat)=(nth l j).id):=by
 induction j with
 | zero=>obtain rfl:i=0:=by omega
         exact ⟨Int.le_refl _,fun _=>by simp⟩
 | succ j ih =>
   rcases Nat.lt_or_ge j i with hlt | hge
   · obtain rfl:i=j+1:=by omega
     exact ⟨Int.le_refl _,fun _=>by simp⟩
   · obtain ⟨h1,h2⟩:=ih (by omega) hge;have a:=h j (by omega);have b:=h (j+1) hj;simp only [tI,Bool.and_eq_true] at a b;have e:j+1 - i=(j - i)+1:=by omega
     rcases abR b.1.2 a.1.1 b.1.1 with ⟨k,c⟩ | ⟨k,c⟩
     · refine ⟨by omega,fun he=>?_⟩;rw [← he] at k;omega
     · refine ⟨by rw [← k];exact h1,fun he=>?_⟩;have:=h2 (he.trans k.symm);rw [c,e];omega
theorem aeB {l:List Task} {i:Nat} (hi:i < l.length) (h:tS l i=true):tI l i=true:=by
 simp only [tS,tI,Bool.and_eq_true,yQ,Bool.or_eq_true,decide_eq_true_eq] at h ⊢;refine ⟨h.1,?_⟩;rcases h.2 with h | h
 · exact .inl h
 · right;obtain ⟨j,hj,h1,h2⟩:=xZ.1 h;rw [List.length_take] at hj;rw [MX (by omega) (by omega)] at h1 h2;exact xZ.2 ⟨j,by omega,h1,h2⟩
theorem aeC {l:List Task} (h:∀ k,k < l.length→tI l k=true) {i:Nat} (hi:i < l.length):tS l i=true:=by
 have hh:=h i hi;simp only [tS,tI,Bool.and_eq_true,yQ,Bool.or_eq_true,decide_eq_true_eq] at hh ⊢;refine ⟨hh.1,?_⟩;by_cases h0:(nth l i).after=0
 · exact .inl h0
 right;obtain ⟨j,hj,h1,h2⟩:=xZ.1 (hh.2.resolve_left h0);have hu:=JV hh.1.1;simp only [Fz,h0,if_false,Bool.and_eq_true,Bool.not_eq_true',Bool.and_eq_false_iff,decide_eq_false_iff_not] at hu;obtain ⟨⟨_,hb⟩,hn⟩:=hu;have hk:=abw hb;rcases Nat.lt_or_ge j i with hlt | hge
 · exact xZ.2 ⟨j,by rw [List.length_take];omega,by rw [MX hlt (by omega)];exact h1,by rw [MX hlt (by omega)];exact h2⟩
 · exfalso;obtain ⟨o1,o2⟩:=Nh hj h hge;rw [h1] at o1 o2;have hl:=dQ hh.1.1;have hlj:aA (nth l i).under=true:=by
    simp only [uU,Bool.and_eq_true] at hb;exact hb.1.1
   have he:(nth l i).under=(nth l i).label:=key_inj hlj hl (by omega);have o3:=o2 he.symm;rcases hn with hn | hn
   · exact hn he
   · rw [h2] at o3;omega
theorem CS {l:List Task} (h:∀ i,i < l.length→tI l i=true):bn l=decide (l.length≤96):=by
 unfold bn;rw [List.all_eq_true.mpr (fun k hk=>h k (List.mem_range.mp hk)),Bool.and_true]
theorem qQ {l:List Task} {i:Nat} (hi:i < l.length) (h:tI l i=false):bn l=false:=by
 unfold bn;rw [List.all_eq_false.mpr ⟨i,List.mem_range.mpr hi,by simp [h]⟩,Bool.and_false]
theorem jc {l:List Task} {i:Nat} (hi:i < l.length) (h:tS l i=false):bn l=false:=by
 rw [← Bool.not_eq_true];intro ht;simp only [bn,Bool.and_eq_true,List.all_eq_true,List.mem_range] at ht;rw [aeC ht.2 hi] at h;cases h
theorem Oa {l:List Task} (h:∀ i,i < l.length→tS l i=true):bn l=decide (l.length≤96):=CS fun i hi=>aeB hi (h i hi)
theorem yA {l:List Task} (h:96 < l.length):bn l=false:=by unfold bn;rw [decide_eq_false (by omega)];rfl
end Go.Proofs.YtbdicafambkhdaaGreat
/- The walk of TaskRight,the program's: it answers taskRight. -/
namespace Go.Proofs.YtbdicafambkhdaaGreat
open Go.Proofs.Tryz
open Go.RowKit
attribute [local irreducible] wpQuiet
theorem afy {α:Type} {l:List α}:decide (0 < l.length) = !decide (l = []):=by cases l <;> simp
theorem sS (c0 c1 c2 c3 c4 c5 c6 c7 c8 c9 c10 c11 c12:Value) (A:Option Addr) (n c:Nat) (w:World) :
 Calls prog 199 #[.agg #[c0,c1,c2,c3,c4,c5,c6,c7,c8,c9,c10,c11,c12,.slice A n c]] w fun e w'=>e=.returned (.bool (decide (0 < n)))∧Ext w w':=by
 go_enter func199,ntmps199;go_wp2;go_ret;exact ⟨au (by simp),(Ext.refl _).alloc _⟩
theorem PL {S:Nat→Prop} (x:Task) (cs:List Value) (w:World) (h:ETask.rel S w cs x) :
 Calls prog 195 #[.agg cs.toArray] w fun e w'=>e=.returned (.bool (bJ x))∧Ext w w':=by
 obtain ⟨v,rfl,hi,hr⟩:=h;obtain ⟨A,c,rfl,g1,g2⟩:=hr.form;unfold maxLen at g2;have HR:=ah hr;have HI:=ah hi;clear hr hi;have HO:Hid (Str x.owner):=ah (by have hf:=HI.out;simp only [eH] at hf;simp only [hf]);simp only [aB];go_enter func195,ntmps195;go_upto_region 1 with (fail)
 obtain ⟨W,B,hW,hB,hx0,hbox⟩:=fH w (Rt x (.slice A x.nodes.length c)) 76;rw [← hW,← hB];have AX:Hid (aF W B 76 (Rt x (.slice A x.nodes.length c))):=ah (by rw [hW,hB];exact aF.new w _ _);have XX:=ah hx0;clear hW hB hbox hx0;have ac:=AX.out.cell;go_wp2_with (first | (go_at_call 42;refine (bI _ _ _ _).mono ?_;rintro e w' ⟨rfl,rfl⟩) | (go_at_call 265;refine (xq _ _).mono ?_;rintro e w' ⟨rfl,rfl⟩) | (go_at_call 103;refine (Ql _ _).mono ?_;rintro e w' ⟨rfl,rfl⟩) | (go_at_call 263;refine (Ym _ _ _ _).mono ?_;rintro e w' ⟨rfl,rfl⟩) | (go_at_call 151;refine (eG _ _ HO.out).mono ?_;rintro e w' ⟨rfl,rfl⟩) | (go_at_call 150;(with_reducible refine (gy (S:=S) x.label [x.label.level,x.label.set] _ (aC (by have hf:=HI.out;simp only [eH] at hf;simp only [aP,hf,and_self]))).mono ?_);rintro e w1 ⟨rfl,hx⟩;replace AX:=ah (AX.out.ext hx);replace XX:=ah (XX.out.trans hx);clear hx ac;have ac:=AX.out.cell) | (go_at_call 264;(with_reducible refine (OJ (S:=S) (S':=S) x.under x.label [x.under.level,x.under.set] [x.label.level,x.label.set] _ (aC (by have hf:=HI.out;simp only [eH] at hf;simp only [aP,hf,and_self])) (aC (by have hf:=HI.out;simp only [eH] at hf;simp only [aP,hf,and_self]))).mono ?_);rintro e w1 ⟨rfl,hx⟩;replace AX:=ah (AX.out.ext hx);replace XX:=ah (XX.out.trans hx);clear hx ac;have ac:=AX.out.cell) | (go_at_call 199;(with_reducible refine (sS _ _ _ _ _ _ _ _ _ _ _ _ _ A x.nodes.length c _).mono ?_);rintro e w1 ⟨rfl,hx⟩;replace AX:=ah (AX.out.ext hx);replace XX:=ah (XX.out.trans hx);clear hx ac;have ac:=AX.out.cell) | (go_at_call 266;(with_reducible refine (JO x.nodes _ _ _ (HR.out.ext XX.out)).mono ?_);rintro e w1 ⟨rfl,hx⟩;replace XX:=ah (XX.out.trans hx);clear hx ac AX));all_goals (go_ret;exact ⟨au (by go_light;(try clear ac);(try clear AX);clear XX HI HO HR;simp_all [bJ,Fz,xQ,Label.ext_iff,afy];try first | omega | exact Bool.and_comm _ _ | (rw [decide_eq_false (show ¬ x.id≤x.after by omega),Bool.not_false,Bool.true_and];exact Bool.and_comm _ _)),XX.out⟩)
end Go.Proofs.YtbdicafambkhdaaGreat
/- The walk of TaskRight,the reference's: it answers taskRight. -/
namespace Go.Proofs.YtbdicafambkhdaaGreat
open Go.Proofs.Tryz
open Go.RowKit
attribute [local irreducible] wpQuiet
theorem Fa {S:Nat→Prop} (x:Task) (cs:List Value) (w:World) (h:ETask.rel S w cs x) :
 Calls prog 173 #[.agg cs.toArray] w fun e w'=>e=.returned (.bool (bJ x))∧Ext w w':=by
 obtain ⟨v,rfl,hi,hr⟩:=h;obtain ⟨A,c,rfl,g1,g2⟩:=hr.form;unfold maxLen at g2;have HR:=ah hr;have HI:=ah hi;clear hr hi;have HO:Hid (Str x.owner):=ah (by have hf:=HI.out;simp only [eH] at hf;simp only [hf]);simp only [aB];go_enter func173,ntmps173;go_upto_region 1 with (fail)
 obtain ⟨W,B,hW,hB,hx0,hbox⟩:=fH w (Rt x (.slice A x.nodes.length c)) 76;rw [← hW,← hB];have AX:Hid (aF W B 76 (Rt x (.slice A x.nodes.length c))):=ah (by rw [hW,hB];exact aF.new w _ _);have XX:=ah hx0;clear hW hB hbox hx0;have ac:=AX.out.cell;go_wp2_with (first | (go_at_call 32;refine (fG _ _ _ _).mono ?_;rintro e w' ⟨rfl,rfl⟩) | (go_at_call 249;refine (uZ _ _).mono ?_;rintro e w' ⟨rfl,rfl⟩) | (go_at_call 80;refine (MC _ _).mono ?_;rintro e w' ⟨rfl,rfl⟩) | (go_at_call 140;refine (fE _ _ HO.out).mono ?_;rintro e w' ⟨rfl,rfl⟩) | (go_at_call 139;(with_reducible refine (dB (S:=S) x.label [x.label.level,x.label.set] _ (aC (by have hf:=HI.out;simp only [eH] at hf;simp only [aP,hf,and_self]))).mono ?_);rintro e w1 ⟨rfl,hx⟩;replace AX:=ah (AX.out.ext hx);replace XX:=ah (XX.out.trans hx);clear hx ac;have ac:=AX.out.cell) | (go_at_call 248;(with_reducible refine (Py (S:=S) (S':=S) x.under x.label [x.under.level,x.under.set] [x.label.level,x.label.set] _ (aC (by have hf:=HI.out;simp only [eH] at hf;simp only [aP,hf,and_self])) (aC (by have hf:=HI.out;simp only [eH] at hf;simp only [aP,hf,and_self]))).mono ?_);rintro e w1 ⟨rfl,hx⟩;replace AX:=ah (AX.out.ext hx);replace XX:=ah (XX.out.trans hx);clear hx ac;have ac:=AX.out.cell) | (go_at_call 250;(with_reducible refine (Sm x.nodes _ _ (HR.out.ext XX.out)).mono ?_);rintro e w1 ⟨rfl,hx⟩;replace XX:=ah (XX.out.trans hx);clear hx ac AX));all_goals (go_ret;exact ⟨au (by go_light;(try clear ac);(try clear AX);clear XX HI HO HR;simp_all [bJ,Fz,xQ,xu,Label.ext_iff,afx];try omega),XX.out⟩)
end Go.Proofs.YtbdicafambkhdaaGreat
