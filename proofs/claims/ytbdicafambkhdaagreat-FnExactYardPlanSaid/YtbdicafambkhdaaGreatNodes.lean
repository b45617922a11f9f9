/- The walks of the functions on spans. The walk of impl.SpansRight. The walks of NodesRight, the program's and the reference's: both answer nodesRight. -/
import Derived.Test.YtbdicafambkhdaaGreatLabels
set_option maxHeartbeats 4000000
set_option maxRecDepth 50000
namespace Go.Proofs.YtbdicafambkhdaaGreat
open Go.Proofs.Tryz
open Go.RowKit
attribute [local irreducible] wpQuiet
theorem vg (x:Span) (w:World) :
 Calls prog 247 #[.agg (Rs x)] w fun e w'=>e=.returned (.bool (jw x))∧Ext w w':=by
 go_enter func247,ntmps247;go_wp2_with (go_at_call 249;refine (uZ _ _).mono ?_;rintro e w' ⟨rfl,rfl⟩);all_goals (go_ret;exact ⟨au (by simp_all [jw,oD,jG];try omega),(Ext.refl _).alloc _⟩)
theorem rC (x:Span) (w:World) :
 Calls prog 262 #[.agg (Rs x)] w fun e w'=>e=.returned (.bool (jw x))∧Ext w w':=by
 go_enter func262,ntmps262;go_wp2_with (go_at_call 265;refine (xq _ _).mono ?_;rintro e w' ⟨rfl,rfl⟩);all_goals (go_ret;exact ⟨au (by simp_all [jw,oD,jG];try omega),(Ext.refl _).alloc _⟩)
theorem Rd.span {S:Nat→Prop} {w:World} {v:Value} {l:List Span} (h:Rd dM S w v l) :
 ∃ A c,v=.slice A l.length c∧l.length≤c∧c≤maxLen ∧
   ∀ k,k < l.length→∃ b o,A=some ⟨b,o,none⟩∧b < w.heap.size∧w.cell? ⟨b,o+k * 2,none⟩=some (.int .i64 (nth l k).from_)∧w.cell? ⟨b,o+k * 2+1,none⟩=some (.int .i64 (nth l k).jA):=by
 obtain ⟨A,c,hv,h1,h2,hk⟩:=h.open_;refine ⟨A,c,hv,h1,h2,fun k hlt=>?_⟩;obtain ⟨b,o,cs,hA,_,⟨rfl,_⟩,hc⟩:=hk k hlt;have h0:=hc 0 _ rfl;exact ⟨b,o,hA,World.block_lt_of_cell? w ⟨b,o+k * 2,none⟩ h0,h0,hc 1 _ rfl⟩
theorem uI {S:Nat→Prop} (l:List Span) (v:Value) (w:World) (h:Rd dM S w v l) :
 Calls prog 172 #[v] w fun e w'=>e=.returned (.bool (dH l))∧Ext w w':=by
 obtain ⟨A,c,rfl,h1,h2,hk⟩:=h.span;unfold maxLen at h2;have HK:=ah hk;clear hk;clear h;go_enter func172,ntmps172;go_wp2_with fail;go_loopw [3] (fun i w'=>∃ k:Nat,k≤l.length∧k≤21∧i=.int .i64 k∧(∀ j,j < k→oC l j=true)∧Ext w w') (fun i _=>22 - (intOf i).toNat);case atStart=>exact ⟨0,by omega,by omega,rfl,fun j hj=>by omega,Ext.refl _⟩
 case round =>
  obtain ⟨k,hk1,hk2,rfl,hall,hx⟩:=hrel;have HA:=ah hall;clear hall;by_cases hlt:k < l.length
  · by_cases h20:k≤20
    · obtain ⟨b,o,rfl,hb,c0,c1⟩:=HK.out k hlt;have c0':=Ext.some hx c0;have c1':=Ext.some hx c1;clear c0 c1;by_cases hs:jw (nth l k)=true
      · by_cases h0:0 < k
        · obtain ⟨m,rfl⟩:∃ m,k=m+1:=⟨k - 1,by omega⟩
          obtain ⟨b',o',Ui,hb',d0,d1⟩:=HK.out m (by omega);cases Ui;have d1':=Ext.some hx d1;clear d0 d1 hb';have i0:(0:Int)≤(m:Int)+1:=by omega
          have i1:(m:Int)+1 < (l.length:Int):=by omega
          have i2:((m:Int)+1).toNat=m+1:=by omega
          have i3:IntKind.i64.wrap (m:Int)=(m:Int):=IntWalk.i64_in _ (by omega);have i4:m < l.length:=by omega
          by_cases hle:(nth l m).jA≤(nth l (m+1)).from_
          · go_wp2_with fail;refine ak (by kernel_rfl) (by kernel_rfl) ?_;repeat (
             (refine wpQuiet_step (fun K hK=>?_)
              go_simp;first
               | (refine hK _ ?_;clear hK K)
               | (apply Exists.intro
                  refine ⟨fun bH aj=>?_,hK _ ?_⟩
                  · have yt:=Ext.some aj c0';have IG:=Ext.some aj c1';have yP:=Ext.some aj d1';first | exact rfl | (go_simp;done) | (go_simp;exact rfl) | (go_at_call 247;exact aJ aj (vg _ _))
                  clear hK K)))
            refine wpQuiet_nil ?_;intro w1 hx1;go_wp2_with fail;go_roundw;case rel=>exact ⟨m+2,by omega,by omega,by go_num,all_succ HA.out (by rw [nI,hs];simpa using hle),hx.trans hx1⟩
            case measure=>simp [intOf];omega
          · have hgt:(nth l (m+1)).from_ < (nth l m).jA:=by omega
            clear hle;have HF:Hid (dH l=false):=ah (nX hlt (by rw [nI,hs];simpa using hgt));go_wp2_with fail;refine ak (by kernel_rfl) (by kernel_rfl) ?_;repeat (
             (refine wpQuiet_step (fun K hK=>?_)
              go_simp;first
               | (refine hK _ ?_;clear hK K)
               | (apply Exists.intro
                  refine ⟨fun bH aj=>?_,hK _ ?_⟩
                  · have yt:=Ext.some aj c0';have IG:=Ext.some aj c1';have yP:=Ext.some aj d1';first | exact rfl | (go_simp;done) | (go_simp;exact rfl) | (go_at_call 247;exact aJ aj (vg _ _))
                  clear hK K)))
            refine wpQuiet_nil ?_;intro w1 hx1;go_wp2_with fail;go_ret;exact ⟨au HF.out.symm,hx.trans hx1⟩
        · obtain rfl:k=0:=by omega
          simp only [Nat.zero_mul,Nat.add_zero] at c0' c1';go_wp2_with fail;refine ak (by kernel_rfl) (by kernel_rfl) ?_;repeat (
           (refine wpQuiet_step (fun K hK=>?_)
            go_simp;first
             | (refine hK _ ?_;clear hK K)
             | (apply Exists.intro
                refine ⟨fun bH aj=>?_,hK _ ?_⟩
                · have yt:=Ext.some aj c0';have IG:=Ext.some aj c1';first | exact rfl | (go_simp;done) | (go_simp;exact rfl) | (go_at_call 247;exact aJ aj (vg _ _))
                clear hK K)))
          refine wpQuiet_nil ?_;intro w1 hx1;go_wp2_with fail;go_roundw;case rel=>exact ⟨1,by omega,by omega,by go_num,all_succ HA.out (by rw [zK,hs]),hx.trans hx1⟩
          case measure=>simp [intOf]
      · have HF:Hid (dH l=false):=ah (nX hlt (NP (by simpa using hs)));simp only [Bool.not_eq_true] at hs;go_wp2_with fail;refine ak (by kernel_rfl) (by kernel_rfl) ?_;repeat (
         (refine wpQuiet_step (fun K hK=>?_)
          go_simp;first
           | (refine hK _ ?_;clear hK K)
           | (apply Exists.intro
              refine ⟨fun bH aj=>?_,hK _ ?_⟩
              · have yt:=Ext.some aj c0';have IG:=Ext.some aj c1';first | exact rfl | (go_simp;done) | (go_simp;exact rfl) | (go_at_call 247;exact aJ aj (vg _ _))
              clear hK K)))
        refine wpQuiet_nil ?_;intro w1 hx1;go_wp2_with fail;go_ret;exact ⟨au HF.out.symm,hx.trans hx1⟩
    · have HF:Hid (dH l=false):=ah (by unfold dH;rw [decide_eq_false (by omega)];rfl);go_wp2_with fail;go_ret;exact ⟨au (by rw [HF.out];simp;omega),hx⟩
  · have HF:Hid (dH l=decide (l.length≤20)):=ah (vZ fun i hi=>HA.out i (by omega));go_wp2_with fail;go_ret;exact ⟨au (by rw [HF.out];simp;omega),hx⟩
theorem NQ {S:Nat→Prop} (l:List Span) (v:Value) (w:World) (h:Rd dM S w v l) :
 Calls prog 194 #[v] w fun e w'=>e=.returned (.bool (dH l))∧Ext w w':=by
 obtain ⟨A,c,rfl,h1,h2,hk⟩:=h.span;unfold maxLen at h2;have HK:=ah hk;clear hk h;go_enter func194,ntmps194;go_wp2_with fail;go_loopw [7] (fun i w'=>∃ k:Nat,k≤l.length∧i=.int .i64 k∧(∀ j,j < k→oC l j=true)∧Ext w w') (fun i _=>l.length - (intOf i).toNat);case atStart=>exact ⟨0,by omega,rfl,fun j hj=>by omega,Ext.refl _⟩
 case round =>
  obtain ⟨k,hk1,rfl,hall,hx⟩:=hrel;have HA:=ah hall;clear hall;by_cases hlt:k < l.length
  · obtain ⟨b,o,rfl,hb,c0,c1⟩:=HK.out k hlt;have c0':=Ext.some hx c0;have c1':=Ext.some hx c1;clear c0 c1;by_cases hs:jw (nth l k)=true
    · by_cases h0:0 < k
      · obtain ⟨m,rfl⟩:∃ m,k=m+1:=⟨k - 1,by omega⟩
        obtain ⟨b',o',Ui,hb',d0,d1⟩:=HK.out m (by omega);cases Ui;have d1':=Ext.some hx d1;clear d0 d1 hb';have i0:(0:Int)≤(m:Int)+1:=by omega
        have i1:(m:Int)+1 < (l.length:Int):=by omega
        have i2:((m:Int)+1).toNat=m+1:=by omega
        have i3:IntKind.i64.wrap (m:Int)=(m:Int):=IntWalk.i64_in _ (by omega);have i4:m < l.length:=by omega
        by_cases hle:(nth l m).jA≤(nth l (m+1)).from_
        · go_wp2_with fail;obtain ⟨W,B,aX,aT,jF,aG⟩:=fH wr (Rs (nth l (m+1))) 142;rw [← aX,← aT];have e0:=aG 0 _ rfl;have e1:=aG 1 _ rfl;clear aX aT aG;have agT:=Ext.some jF d1';refine ak (by kernel_rfl) (by kernel_rfl) ?_;repeat (
           (refine wpQuiet_step (fun K hK=>?_)
            go_simp;first
             | (refine hK _ ?_;clear hK K)
             | (apply Exists.intro
                refine ⟨fun bH aj=>?_,hK _ ?_⟩
                · have oh:=Ext.some aj e0;have lX:=Ext.some aj e1;have agU:=Ext.some aj agT;first | exact rfl | (go_simp;done) | (go_simp;exact rfl) | (go_at_call 262;exact aJ aj (rC _ _))
                clear hK K)))
          refine wpQuiet_nil ?_;intro w1 hx1;go_wp2_with fail;go_roundw;case rel=>exact ⟨m+2,by omega,by go_num,all_succ HA.out (by rw [nI,hs];simpa using hle),hx.trans (jF.trans hx1)⟩
          case measure=>simp [intOf];omega
        · have hgt:(nth l (m+1)).from_ < (nth l m).jA:=by omega
          clear hle;have HF:Hid (dH l=false):=ah (nX hlt (by rw [nI,hs];simpa using hgt));go_wp2_with fail;obtain ⟨W,B,aX,aT,jF,aG⟩:=fH wr (Rs (nth l (m+1))) 142;rw [← aX,← aT];have e0:=aG 0 _ rfl;have e1:=aG 1 _ rfl;clear aX aT aG;have agT:=Ext.some jF d1';refine ak (by kernel_rfl) (by kernel_rfl) ?_;repeat (
           (refine wpQuiet_step (fun K hK=>?_)
            go_simp;first
             | (refine hK _ ?_;clear hK K)
             | (apply Exists.intro
                refine ⟨fun bH aj=>?_,hK _ ?_⟩
                · have oh:=Ext.some aj e0;have lX:=Ext.some aj e1;have agU:=Ext.some aj agT;first | exact rfl | (go_simp;done) | (go_simp;exact rfl) | (go_at_call 262;exact aJ aj (rC _ _))
                clear hK K)))
          refine wpQuiet_nil ?_;intro w1 hx1;go_wp2_with fail;go_ret;exact ⟨au HF.out.symm,hx.trans (jF.trans hx1)⟩
      · obtain rfl:k=0:=by omega
        simp only [Nat.zero_mul,Nat.add_zero] at c0' c1';go_wp2_with fail;obtain ⟨W,B,aX,aT,jF,aG⟩:=fH wr (Rs (nth l 0)) 142;rw [← aX,← aT];have e0:=aG 0 _ rfl;have e1:=aG 1 _ rfl;clear aX aT aG;refine ak (by kernel_rfl) (by kernel_rfl) ?_;repeat (
         (refine wpQuiet_step (fun K hK=>?_)
          go_simp;first
           | (refine hK _ ?_;clear hK K)
           | (apply Exists.intro
              refine ⟨fun bH aj=>?_,hK _ ?_⟩
              · have oh:=Ext.some aj e0;have lX:=Ext.some aj e1;first | exact rfl | (go_simp;done) | (go_simp;exact rfl) | (go_at_call 262;exact aJ aj (rC _ _))
              clear hK K)))
        refine wpQuiet_nil ?_;intro w1 hx1;go_wp2_with fail;go_roundw;case rel=>exact ⟨1,by omega,by go_num,all_succ HA.out (by rw [zK,hs]),hx.trans (jF.trans hx1)⟩
        case measure=>simp [intOf];omega
    · have HF:Hid (dH l=false):=ah (nX hlt (NP (by simpa using hs)));simp only [Bool.not_eq_true] at hs;go_wp2_with fail;obtain ⟨W,B,aX,aT,jF,aG⟩:=fH wr (Rs (nth l k)) 142;rw [← aX,← aT];have e0:=aG 0 _ rfl;have e1:=aG 1 _ rfl;clear aX aT aG;refine ak (by kernel_rfl) (by kernel_rfl) ?_;repeat (
       (refine wpQuiet_step (fun K hK=>?_)
        go_simp;first
         | (refine hK _ ?_;clear hK K)
         | (apply Exists.intro
            refine ⟨fun bH aj=>?_,hK _ ?_⟩
            · have oh:=Ext.some aj e0;have lX:=Ext.some aj e1;first | exact rfl | (go_simp;done) | (go_simp;exact rfl) | (go_at_call 262;exact aJ aj (rC _ _))
            clear hK K)))
      refine wpQuiet_nil ?_;intro w1 hx1;go_wp2_with fail;go_ret;exact ⟨au HF.out.symm,hx.trans (jF.trans hx1)⟩
  · have HF:Hid (dH l=decide (l.length≤20)):=ah (vZ fun i hi=>HA.out i (by omega));go_wp2_with fail;go_ret;exact ⟨au (by rw [HF.out];simp;omega),hx⟩
def Fg (n:Int):Bool:=jG n 1 3
def lU (x:Node):Bool:=Fg x.state && (decide (x.books.length≤4) && dH x.books)
def bT (l:List Node):Bool:=jG (l.length:Int) 1 6 && l.all lU
def qp (x:Node):Bool:=!lU x
theorem sU (n:Int) (w:World) :
 Calls prog 171 #[.int .i64 n] w fun e w'=>e=.returned (.bool (Fg n))∧w=w':=by
 go_enter func171,ntmps171;go_wp2_with (go_at_call 32;refine (fG _ _ _ _).mono ?_;rintro e w' ⟨rfl,rfl⟩);go_ret;exact ⟨rfl,rfl⟩
theorem rX (n:Int) (w:World) :
 Calls prog 193 #[.int .i64 n] w fun e w'=>e=.returned (.bool (Fg n))∧w=w':=by
 go_enter func193,ntmps193;go_wp2_with (go_at_call 42;refine (bI _ _ _ _).mono ?_;rintro e w' ⟨rfl,rfl⟩);go_ret;exact ⟨rfl,rfl⟩
theorem LY {S:Nat→Prop} (l:List Node) (p:Node→Bool) (v:Value) (f:Nat) (caps:Array Value) (w:World) (h:Rd ENode S w v l) (hcall:∀ (args:Array Value) (W:World),(callFunc f args).run prog W=.ok (.enter f args) W)
 (hf:∀ (cs:List Value) (x:Node) (w1:World),Ext w w1→ENode.rel S w1 cs x→Calls prog f (#[.agg cs.toArray] ++ caps) w1 fun e w'=>e=.returned (.bool (p x))∧Ext w1 w') :
 Calls prog 261 #[v,.func (.func f) #[] caps] w fun e w'=>e=.returned (.int .i64 (idxOf p l))∧Ext w w':=by
 obtain ⟨A,c,rfl,h1,h2,hk⟩:=h.open_;unfold maxLen at h2;have HK:=ah hk;have HF:=ah hf;clear hk h hf;go_enter func261,ntmps261;go_wp2_with fail;go_loopw [8] (fun i w'=>∃ k:Nat,k≤l.length∧i=.int .i64 k∧(∀ j,j < k→p (nth l j)=false)∧Ext w w') (fun i _=>l.length - (intOf i).toNat);case atStart=>exact ⟨0,by omega,rfl,fun j hj=>by omega,Ext.refl _⟩
 case round =>
  obtain ⟨k,hk1,rfl,hall,hx⟩:=hrel;have HA:=ah hall;have HX:=ah hx;clear hall;by_cases hlt:k < l.length
  · obtain ⟨b,o,cs,rfl,hb,hr,hc⟩:=HK.out k hlt;have HR:=ah (ENode.keep (hx.same S) hr);have HC:=ah (hx.range hc);have HI:Hid ((prog.info? 151).map (·.size)=some cs.length):=ah (by rw [ENode.len hr];kernel_rfl);clear hr hc hx;by_cases hp:p (nth l k)=true
    · have HE:Hid (idxOf p l=k):=ah (iP hlt HA.out hp);go_wp2_with (first | (refine wpList_load_mid rfl 151 _ rfl b (o+k * 2) rfl cs _ HC.out underlying151 rfl HI.out ?_) | ((with_reducible refine (HF.out cs (nth l k) _ HX.out HR.out).mono ?_);rintro e w1 ⟨rfl,hx1⟩;have jf:=ah hx1;clear hx1));go_ret;exact ⟨aI HE.out.symm,HX.out.trans jf.out⟩
    · simp only [Bool.not_eq_true] at hp;have HE:=ah (all_succ HA.out hp);go_wp2_with (first | (refine wpList_load_mid rfl 151 _ rfl b (o+k * 2) rfl cs _ HC.out underlying151 rfl HI.out ?_) | ((with_reducible refine (HF.out cs (nth l k) _ HX.out HR.out).mono ?_);rintro e w1 ⟨rfl,hx1⟩;have jf:=ah hx1;clear hx1));go_roundw;case rel=>exact ⟨k+1,by omega,by go_num,HE.out,HX.out.trans jf.out⟩
      case measure=>simp [intOf];omega
  · have HE:Hid (idxOf p l = -1):=ah (iO fun j hj=>HA.out j (by omega));go_wp2_with fail;go_ret;exact ⟨aI HE.out.symm,HX.out⟩
theorem Ep {S:Nat→Prop} (l:List Node) (p:Node→Bool) (v:Value) (f:Nat) (caps:Array Value) (w:World) (h:Rd ENode S w v l) (hcall:∀ (args:Array Value) (W:World),(callFunc f args).run prog W=.ok (.enter f args) W)
 (hf:∀ (cs:List Value) (x:Node) (w1:World),Ext w w1→ENode.rel S w1 cs x→Calls prog f (#[.agg cs.toArray] ++ caps) w1 fun e w'=>e=.returned (.bool (p x))∧Ext w1 w') :
 Calls prog 191 #[v,.func (.func f) #[] caps] w fun e w'=>e=.returned (.bool (l.any p))∧Ext w w':=by
 have HE:=ah (jr (p:=p) (l:=l));have H:=ah (LY l p v f caps w h hcall hf);clear h hcall hf;go_enter func191,ntmps191;go_wp2_with (refine H.out.mono ?_;rintro e w1 ⟨rfl,hx1⟩;have jf:=ah hx1;clear hx1);go_ret;exact ⟨au HE.out,jf.out⟩
theorem Az {S:Nat→Prop} (l:List Node) (p:Node→Bool) (v:Value) (f:Nat) (w:World) (h:Rd ENode S w v l) (hcall:∀ (args:Array Value) (W:World),(callFunc f args).run prog W=.ok (.enter f args) W)
 (hf:∀ (cs:List Value) (x:Node) (w1:World),Ext w w1→ENode.rel S w1 cs x→Calls prog f #[.agg cs.toArray] w1 fun e w'=>e=.returned (.bool (p x))∧Ext w1 w') :
 Calls prog 191 #[v,.func (.func f) #[] #[]] w fun e w'=>e=.returned (.bool (l.any p))∧Ext w w' :=
 Ep l p v f #[] w h hcall fun cs x w1 hx hr=>by rw [show (#[.agg cs.toArray] ++ #[]:Array Value) = #[.agg cs.toArray] from rfl];exact hf cs x w1 hx hr
theorem RI:∀ (args:Array Value) (W:World),(callFunc 192 args).run prog W=.ok (.enter 192 args) W:=by
 intro args W;go_simp
theorem VU {S:Nat→Prop} (x:Node) (cs:List Value) (w:World) (h:ENode.rel S w cs x) :
 Calls prog 192 #[.agg cs.toArray] w fun e w'=>e=.returned (.bool (qp x))∧Ext w w':=by
 obtain ⟨v,rfl,_,hr⟩:=h;obtain ⟨A,c,rfl,h1,h2⟩:=hr.form;have HR:=ah hr;clear hr;unfold maxLen at h2;simp only [lG];by_cases hs:Fg x.state=true
 · by_cases hb:x.books.length≤4
   · have HB:Hid (qp x = !dH x.books):=ah (by simp [qp,lU,hs,hb]);go_enter func192,ntmps192;go_wp2_with (first | (go_at_call 193;refine (rX _ _).mono ?_;rintro e w' ⟨rfl,rfl⟩) | (go_at_call 194;refine (NQ x.books _ _ (HR.out.ext ((Ext.refl _).alloc _))).mono ?_;rintro e w1 ⟨rfl,hx1⟩));go_ret;exact ⟨au (by rw [HB.out,decide_eq_false (by omega),Bool.false_or]),((Ext.refl _).alloc _).trans hx1⟩
   · have hb':4 < x.books.length:=by omega
     have HB:Hid (qp x=true):=ah (by simp [qp,lU,hb]);clear hb;go_enter func192,ntmps192;go_wp2_with (first | (go_at_call 193;refine (rX _ _).mono ?_;rintro e w' ⟨rfl,rfl⟩));go_ret;exact ⟨au HB.out.symm,((Ext.refl _).alloc _)⟩
 · simp only [Bool.not_eq_true] at hs;have HB:Hid (qp x=true):=ah (by simp [qp,lU,hs]);go_enter func192,ntmps192;go_wp2_with (first | (go_at_call 193;refine (rX _ _).mono ?_;rintro e w' ⟨rfl,rfl⟩));go_ret;exact ⟨au HB.out.symm,((Ext.refl _).alloc _)⟩
theorem Uz (l:List Node):(!l.any qp)=l.all lU:=by
 rw [List.not_any_eq_all_not];simp [qp]
theorem uH {S:Nat→Prop} (l:List Node) (v:Value) (w:World) (h:Rd ENode S w v l) :
 Calls prog 100 #[v] w fun e w'=>e=.returned (.bool (bT l))∧Ext w w':=by
 have HR:=ah h;obtain ⟨A,c,rfl,h1,h2⟩:=h.form;unfold maxLen at h2;clear h;by_cases hn:jG (l.length:Int) 1 6=true
 · have HN:Hid (bT l = !l.any qp):=ah (by rw [Uz];simp [bT,hn]);go_enter func100,ntmps100;go_wp2_with (first | (go_at_call 42;refine (bI _ _ _ _).mono ?_;rintro e w' ⟨rfl,rfl⟩) | (go_at_call 191;refine (Az l qp _ _ _ HR.out RI (fun cs x w1 _ hr=>VU x cs w1 hr)).mono ?_;rintro e w1 ⟨rfl,hx1⟩));go_ret;exact ⟨au HN.out.symm,hx1⟩
 · simp only [Bool.not_eq_true] at hn;have HN:Hid (bT l=false):=ah (by simp [bT,hn]);go_enter func100,ntmps100;go_wp2_with (first | (go_at_call 42;refine (bI _ _ _ _).mono ?_;rintro e w' ⟨rfl,rfl⟩));go_ret;exact ⟨au HN.out.symm,Ext.refl _⟩
theorem DK {S:Nat→Prop} (l:List Node) (v:Value) (w:World) (h:Rd ENode S w v l) :
 Calls prog 82 #[v] w fun e w'=>e=.returned (.bool (bT l))∧Ext w w':=by
 obtain ⟨A,c,rfl,h1,h2,hk⟩:=h.open_;unfold maxLen at h2;have HK:=ah hk;clear hk h;by_cases h0:l.length < 1
 · have HN:Hid (bT l=false):=ah (by unfold bT jG;rw [decide_eq_false (by omega)];rfl);go_enter func82,ntmps82;go_wp2_with fail;go_ret;exact ⟨au HN.out.symm,Ext.refl _⟩
 · have h0':1≤l.length:=by omega
   clear h0;by_cases h6:6 < l.length
   · have HN:Hid (bT l=false):=ah (by unfold bT jG;rw [decide_eq_false (by omega)];rfl);go_enter func82,ntmps82;go_wp2_with fail;go_ret;exact ⟨au HN.out.symm,Ext.refl _⟩
   · have h6':l.length≤6:=by omega
     clear h6;have HN:Hid (bT l=l.all lU):=ah (by unfold bT jG;rw [decide_eq_true (by omega),Bool.true_and]);go_enter func82,ntmps82;go_wp2_with fail;go_loopw [3] (fun i w'=>∃ k:Nat,k≤l.length∧i=.int .i64 k∧(∀ j,j < k→lU (nth l j)=true)∧Ext w w') (fun i _=>l.length - (intOf i).toNat);case atStart=>exact ⟨0,by omega,rfl,fun j hj=>by omega,Ext.refl _⟩
     case round =>
      obtain ⟨k,hk1,rfl,hall,hx⟩:=hrel;have HA:=ah hall;have HX:=ah hx;clear hall;by_cases hlt:k < l.length
      · obtain ⟨b,o,cs,rfl,hb,⟨v,rfl,_,hr⟩,hc⟩:=HK.out k hlt;have c0:=Ext.some hx (hc 0 _ rfl);have c1:=Ext.some hx (hc 1 _ rfl);simp only [ENode,Nat.add_zero] at c0 c1;have HR:=ah (hr.ext hx);obtain ⟨A1,c2,rfl,h3,h4⟩:=hr.form;unfold maxLen at h4;clear hc hr hx;by_cases hs:Fg (nth l k).state=true
        · by_cases hb:(nth l k).books.length≤4
          · by_cases hp:dH (nth l k).books=true
            · have HE:=ah (all_succ (p:=fun j=>lU (nth l j)=true) HA.out (by simp [lU,hs,hb,hp]));go_wp2_with (first | (go_at_call 171;refine (sU _ _).mono ?_;rintro e w' ⟨rfl,rfl⟩) | (go_at_call 172;refine (uI (nth l k).books _ _ HR.out).mono ?_;rintro e w1 ⟨rfl,hx1⟩;have jf:=ah hx1;clear hx1));go_roundw;case rel=>exact ⟨k+1,by omega,by go_num,HE.out,HX.out.trans jf.out⟩
              case measure=>simp [intOf];omega
            · simp only [Bool.not_eq_true] at hp;have HF:Hid (l.all lU=false):=ah (zY hlt (by simp [lU,hp]));go_wp2_with (first | (go_at_call 171;refine (sU _ _).mono ?_;rintro e w' ⟨rfl,rfl⟩) | (go_at_call 172;refine (uI (nth l k).books _ _ HR.out).mono ?_;rintro e w1 ⟨rfl,hx1⟩;have jf:=ah hx1;clear hx1));go_ret;exact ⟨au (by rw [HN.out,HF.out]),HX.out.trans jf.out⟩
          · have hb':4 < (nth l k).books.length:=by omega
            have HF:Hid (l.all lU=false):=ah (zY hlt (by simp [lU,hb]));clear hb;go_wp2_with (first | (go_at_call 171;refine (sU _ _).mono ?_;rintro e w' ⟨rfl,rfl⟩));go_ret;exact ⟨au (by rw [HN.out,HF.out]),HX.out⟩
        · simp only [Bool.not_eq_true] at hs;have HF:Hid (l.all lU=false):=ah (zY hlt (by simp [lU,hs]));go_wp2_with (first | (go_at_call 171;refine (sU _ _).mono ?_;rintro e w' ⟨rfl,rfl⟩));go_ret;exact ⟨au (by rw [HN.out,HF.out]),HX.out⟩
      · have HF:Hid (l.all lU=true):=ah (Kv fun j hj=>HA.out j (by omega));go_wp2_with fail;go_ret;exact ⟨au (by rw [HN.out,HF.out]),HX.out⟩
end Go.Proofs.YtbdicafambkhdaaGreat
