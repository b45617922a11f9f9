/- The walks of the functions on spans. The walk of impl.SpansRight. The walks of NodesRight, the program's and the reference's: both answer nodesRight. -/
import Derived.Test.YtoblacfjmcpbmaaGreatUsesC
set_option maxHeartbeats 4000000
set_option maxRecDepth 50000
namespace Go.Proofs.YtoblacfjmcpbmaaGreat
open Go.RowKit
attribute [local irreducible] wpQuiet
theorem spanRight_any (x:Span) (w:World) :
 Calls Tryz.prog 149 #[.agg #[.int .i64 x.from_,.int .i64 x.to_]] w fun e w'=>e=.returned (.bool (spanRight x))∧Ext w w':=by
 go_enter Tryz.func149,Tryz.ntmps149
 go_wp2_with (go_at_call 126;refine (isTime_any _ _).mono ?_;rintro e w' ⟨rfl,rfl⟩)
 all_goals (go_ret;exact ⟨ret_bool (by simp_all [spanRight,timeOk,isB];try omega),(Ext.refl _).alloc _⟩)
theorem Rd.span {S:Nat→Prop} {w:World} {v:Value} {l:List Span} (h:Rd ESpan S w v l) :
 ∃ A c,v=.slice A l.length c∧l.length≤c∧c≤maxLen ∧
   ∀ k,k < l.length→∃ b o,A=some ⟨b,o,none⟩∧b < w.heap.size∧w.cell? ⟨b,o+k * 2,none⟩=some (.int .i64 (nth l k).from_)∧w.cell? ⟨b,o+k * 2+1,none⟩=some (.int .i64 (nth l k).to_):=by
 obtain ⟨A,c,hv,h1,h2,hk⟩:=h.open_
 refine ⟨A,c,hv,h1,h2,fun k hlt=>?_⟩
 obtain ⟨b,o,cs,hA,_,⟨rfl,_⟩,hc⟩:=hk k hlt
 have h0:=hc 0 _ rfl
 exact ⟨b,o,hA,World.block_lt_of_cell? w ⟨b,o+k * 2,none⟩ h0,h0,hc 1 _ rfl⟩
end Go.Proofs.YtoblacfjmcpbmaaGreat
namespace Go.Proofs.YtoblacfjmcpbmaaGreat
open Go.RowKit
attribute [local irreducible] wpQuiet
theorem spansRight_any {S:Nat→Prop} (l:List Span) (v:Value) (w:World) (h:Rd ESpan S w v l) :
 Calls Tryz.prog 114 #[v] w fun e w'=>e=.returned (.bool (spansRight l))∧Ext w w':=by
 obtain ⟨A,c,rfl,h1,h2,hk⟩:=h.span
 unfold maxLen at h2
 have HK:=Lib.hid hk
 clear hk h
 go_enter Tryz.func114,Tryz.ntmps114
 go_wp2_with fail
 go_loopw [7] (fun i w'=>∃ k:Nat,k≤l.length∧i=.int .i64 k∧(∀ j,j < k→spanAt l j=true)∧Ext w w') (fun i _=>l.length - (intOf i).toNat)
 case atStart=>exact ⟨0,by omega,rfl,fun j hj=>by omega,Ext.refl _⟩
 case round =>
  obtain ⟨k,hk1,rfl,hall,hx⟩:=hrel
  have HA:=Lib.hid hall
  clear hall
  by_cases hlt:k < l.length
  · obtain ⟨b,o,rfl,hb,c0,c1⟩:=HK.out k hlt
    have c0':=Ext.some hx c0
    have c1':=Ext.some hx c1
    clear c0 c1
    by_cases hs:spanRight (nth l k)=true
    · by_cases h0:0 < k
      · obtain ⟨m,rfl⟩:∃ m,k=m+1:=⟨k - 1,by omega⟩
        obtain ⟨b',o',hbo,hb',d0,d1⟩:=HK.out m (by omega)
        cases hbo
        have d1':=Ext.some hx d1
        clear d0 d1 hb'
        have i0:(0:Int)≤(m:Int)+1:=by omega
        have i1:(m:Int)+1 < (l.length:Int):=by omega
        have i2:((m:Int)+1).toNat=m+1:=by omega
        have i3:IntKind.i64.wrap (m:Int)=(m:Int):=IntWalk.i64_in _ (by omega)
        have i4:m < l.length:=by omega
        by_cases hle:(nth l m).to_≤(nth l (m+1)).from_
        · go_wp2_with fail
          obtain ⟨W,B,hW__,hB__,hxW,hbox__⟩:=box_new wr #[.int .i64 (nth l (m+1)).from_,.int .i64 (nth l (m+1)).to_] 133
          rw [← hW__,← hB__]
          have e0:=hbox__ 0 _ rfl
          have e1:=hbox__ 1 _ rfl
          clear hW__ hB__ hbox__
          have d1'':=Ext.some hxW d1'
          refine wp_region_ext (by kernel_rfl) (by kernel_rfl) ?_
          repeat (
           (refine wpQuiet_step (fun K hK=>?_)
            go_simp
            first
             | (refine hK _ ?_;clear hK K)
             | (apply Exists.intro
                refine ⟨fun w__ hx__=>?_,hK _ ?_⟩
                · have e0__:=Ext.some hx__ e0;have e1__:=Ext.some hx__ e1;have d1''__:=Ext.some hx__ d1'';first | exact rfl | (go_simp;done) | (go_simp;exact rfl) | (go_at_call 149;exact ext_of hx__ (spanRight_any _ _))
                clear hK K)))
          refine wpQuiet_nil ?_
          intro w1 hx1
          go_wp2_with fail
          go_roundw
          case rel=>exact ⟨m+2,by omega,by go_num,all_succ HA.out (by rw [spanAt_succ,hs];simpa using hle),hx.trans (hxW.trans hx1)⟩
          case measure=>simp [intOf];omega
        · have hgt:(nth l (m+1)).from_ < (nth l m).to_:=by omega
          clear hle
          have HF:Hid (spansRight l=false):=Lib.hid (spansRight_false hlt (by rw [spanAt_succ,hs];simpa using hgt))
          go_wp2_with fail
          obtain ⟨W,B,hW__,hB__,hxW,hbox__⟩:=box_new wr #[.int .i64 (nth l (m+1)).from_,.int .i64 (nth l (m+1)).to_] 133
          rw [← hW__,← hB__]
          have e0:=hbox__ 0 _ rfl
          have e1:=hbox__ 1 _ rfl
          clear hW__ hB__ hbox__
          have d1'':=Ext.some hxW d1'
          refine wp_region_ext (by kernel_rfl) (by kernel_rfl) ?_
          repeat (
           (refine wpQuiet_step (fun K hK=>?_)
            go_simp
            first
             | (refine hK _ ?_;clear hK K)
             | (apply Exists.intro
                refine ⟨fun w__ hx__=>?_,hK _ ?_⟩
                · have e0__:=Ext.some hx__ e0;have e1__:=Ext.some hx__ e1;have d1''__:=Ext.some hx__ d1'';first | exact rfl | (go_simp;done) | (go_simp;exact rfl) | (go_at_call 149;exact ext_of hx__ (spanRight_any _ _))
                clear hK K)))
          refine wpQuiet_nil ?_
          intro w1 hx1
          go_wp2_with fail
          go_ret
          exact ⟨ret_bool HF.out.symm,hx.trans (hxW.trans hx1)⟩
      · obtain rfl:k=0:=by omega
        simp only [Nat.zero_mul,Nat.add_zero] at c0' c1'
        go_wp2_with fail
        obtain ⟨W,B,hW__,hB__,hxW,hbox__⟩:=box_new wr #[.int .i64 (nth l 0).from_,.int .i64 (nth l 0).to_] 133
        rw [← hW__,← hB__]
        have e0:=hbox__ 0 _ rfl
        have e1:=hbox__ 1 _ rfl
        clear hW__ hB__ hbox__
        refine wp_region_ext (by kernel_rfl) (by kernel_rfl) ?_
        repeat (
         (refine wpQuiet_step (fun K hK=>?_)
          go_simp
          first
           | (refine hK _ ?_;clear hK K)
           | (apply Exists.intro
              refine ⟨fun w__ hx__=>?_,hK _ ?_⟩
              · have e0__:=Ext.some hx__ e0;have e1__:=Ext.some hx__ e1;first | exact rfl | (go_simp;done) | (go_simp;exact rfl) | (go_at_call 149;exact ext_of hx__ (spanRight_any _ _))
              clear hK K)))
        refine wpQuiet_nil ?_
        intro w1 hx1
        go_wp2_with fail
        go_roundw
        case rel=>exact ⟨1,by omega,by go_num,all_succ HA.out (by rw [spanAt_zero,hs]),hx.trans (hxW.trans hx1)⟩
        case measure=>simp [intOf];omega
    · have HF:Hid (spansRight l=false):=Lib.hid (spansRight_false hlt (spanAt_bad (by simpa using hs)))
      simp only [Bool.not_eq_true] at hs
      go_wp2_with fail
      obtain ⟨W,B,hW__,hB__,hxW,hbox__⟩:=box_new wr #[.int .i64 (nth l k).from_,.int .i64 (nth l k).to_] 133
      rw [← hW__,← hB__]
      have e0:=hbox__ 0 _ rfl
      have e1:=hbox__ 1 _ rfl
      clear hW__ hB__ hbox__
      refine wp_region_ext (by kernel_rfl) (by kernel_rfl) ?_
      repeat (
       (refine wpQuiet_step (fun K hK=>?_)
        go_simp
        first
         | (refine hK _ ?_;clear hK K)
         | (apply Exists.intro
            refine ⟨fun w__ hx__=>?_,hK _ ?_⟩
            · have e0__:=Ext.some hx__ e0;have e1__:=Ext.some hx__ e1;first | exact rfl | (go_simp;done) | (go_simp;exact rfl) | (go_at_call 149;exact ext_of hx__ (spanRight_any _ _))
            clear hK K)))
      refine wpQuiet_nil ?_
      intro w1 hx1
      go_wp2_with fail
      go_ret
      exact ⟨ret_bool HF.out.symm,hx.trans (hxW.trans hx1)⟩
  · have HF:Hid (spansRight l=decide (l.length≤20)):=Lib.hid (spansRight_of fun i hi=>HA.out i (by omega))
    go_wp2_with fail
    go_ret
    exact ⟨ret_bool (by rw [HF.out];simp;omega),hx⟩
end Go.Proofs.YtoblacfjmcpbmaaGreat
namespace Go.Proofs.YtoblacfjmcpbmaaGreat
open Go.RowKit
attribute [local irreducible] wpQuiet
def stateOk (n:Int):Bool:=isB n 1 3
def nodeOk (x:Node):Bool:=stateOk x.state && (decide (x.books.length≤4) && spansRight x.books)
def nodesRight (l:List Node):Bool:=isB (l.length:Int) 1 6 && l.all nodeOk
def nodeBad (x:Node):Bool:=!nodeOk x
theorem isNodeState_any (n:Int) (w:World) :
 Calls Tryz.prog 113 #[.int .i64 n] w fun e w'=>e=.returned (.bool (stateOk n))∧w=w':=by
 go_enter Tryz.func113,Tryz.ntmps113
 go_wp2_with (go_at_call 30;refine (within_any _ _ _ _).mono ?_;rintro e w' ⟨rfl,rfl⟩)
 go_ret
 exact ⟨rfl,rfl⟩
theorem indexFunc_Node {S:Nat→Prop} (l:List Node) (p:Node→Bool) (v:Value) (f:Nat) (caps:Array Value) (w:World) (h:Rd ENode S w v l) (hcall:∀ (args:Array Value) (W:World),(callFunc f args).run Tryz.prog W=.ok (.enter f args) W)
 (hf:∀ (cs:List Value) (x:Node) (w1:World),Ext w w1→ENode.rel S w1 cs x→Calls Tryz.prog f (#[.agg cs.toArray] ++ caps) w1 fun e w'=>e=.returned (.bool (p x))∧Ext w1 w') :
 Calls Tryz.prog 148 #[v,.func (.func f) #[] caps] w fun e w'=>e=.returned (.int .i64 (idxOf p l))∧Ext w w':=by
 obtain ⟨A,c,rfl,h1,h2,hk⟩:=h.open_
 unfold maxLen at h2
 have HK:=Lib.hid hk
 have HF:=Lib.hid hf
 clear hk h hf
 go_enter Tryz.func148,Tryz.ntmps148
 go_wp2_with fail
 go_loopw [8] (fun i w'=>∃ k:Nat,k≤l.length∧i=.int .i64 k∧(∀ j,j < k→p (nth l j)=false)∧Ext w w') (fun i _=>l.length - (intOf i).toNat)
 case atStart=>exact ⟨0,by omega,rfl,fun j hj=>by omega,Ext.refl _⟩
 case round =>
  obtain ⟨k,hk1,rfl,hall,hx⟩:=hrel
  have HA:=Lib.hid hall
  have HX:=Lib.hid hx
  clear hall
  by_cases hlt:k < l.length
  · obtain ⟨b,o,cs,rfl,hb,hr,hc⟩:=HK.out k hlt
    have HR:=Lib.hid (ENode.keep (hx.same S) hr)
    have HC:=Lib.hid (hx.range hc)
    have HI:Hid ((Tryz.prog.info? 107).map (·.size)=some cs.length):=Lib.hid (by rw [ENode.len hr];kernel_rfl)
    clear hr hc hx
    by_cases hp:p (nth l k)=true
    · have HE:Hid (idxOf p l=k):=Lib.hid (idxOf_some hlt HA.out hp)
      go_wp2_with (first | (refine wpList_load_mid rfl 107 _ rfl b (o+k * 2) rfl cs _ HC.out Tryz.underlying107 rfl HI.out ?_) | ((with_reducible refine (HF.out cs (nth l k) _ HX.out HR.out).mono ?_);rintro e w1 ⟨rfl,hx1⟩;have HX1:=Lib.hid hx1;clear hx1))
      go_ret
      exact ⟨ret_int HE.out.symm,HX.out.trans HX1.out⟩
    · simp only [Bool.not_eq_true] at hp
      have HE:=Lib.hid (all_succ HA.out hp)
      go_wp2_with (first | (refine wpList_load_mid rfl 107 _ rfl b (o+k * 2) rfl cs _ HC.out Tryz.underlying107 rfl HI.out ?_) | ((with_reducible refine (HF.out cs (nth l k) _ HX.out HR.out).mono ?_);rintro e w1 ⟨rfl,hx1⟩;have HX1:=Lib.hid hx1;clear hx1))
      go_roundw
      case rel=>exact ⟨k+1,by omega,by go_num,HE.out,HX.out.trans HX1.out⟩
      case measure=>simp [intOf];omega
  · have HE:Hid (idxOf p l = -1):=Lib.hid (idxOf_none fun j hj=>HA.out j (by omega))
    go_wp2_with fail
    go_ret
    exact ⟨ret_int HE.out.symm,HX.out⟩
theorem containsFunc_Node {S:Nat→Prop} (l:List Node) (p:Node→Bool) (v:Value) (f:Nat) (caps:Array Value) (w:World) (h:Rd ENode S w v l) (hcall:∀ (args:Array Value) (W:World),(callFunc f args).run Tryz.prog W=.ok (.enter f args) W)
 (hf:∀ (cs:List Value) (x:Node) (w1:World),Ext w w1→ENode.rel S w1 cs x→Calls Tryz.prog f (#[.agg cs.toArray] ++ caps) w1 fun e w'=>e=.returned (.bool (p x))∧Ext w1 w') :
 Calls Tryz.prog 111 #[v,.func (.func f) #[] caps] w fun e w'=>e=.returned (.bool (l.any p))∧Ext w w':=by
 have HE:=Lib.hid (idxOf_any (p:=p) (l:=l))
 have H:=Lib.hid (indexFunc_Node l p v f caps w h hcall hf)
 clear h hcall hf
 go_enter Tryz.func111,Tryz.ntmps111
 go_wp2_with (refine H.out.mono ?_;rintro e w1 ⟨rfl,hx1⟩;have HX1:=Lib.hid hx1;clear hx1)
 go_ret
 exact ⟨ret_bool HE.out,HX1.out⟩
theorem containsFunc_Node_0 {S:Nat→Prop} (l:List Node) (p:Node→Bool) (v:Value) (f:Nat) (w:World) (h:Rd ENode S w v l) (hcall:∀ (args:Array Value) (W:World),(callFunc f args).run Tryz.prog W=.ok (.enter f args) W)
 (hf:∀ (cs:List Value) (x:Node) (w1:World),Ext w w1→ENode.rel S w1 cs x→Calls Tryz.prog f #[.agg cs.toArray] w1 fun e w'=>e=.returned (.bool (p x))∧Ext w1 w') :
 Calls Tryz.prog 111 #[v,.func (.func f) #[] #[]] w fun e w'=>e=.returned (.bool (l.any p))∧Ext w w' :=
 containsFunc_Node l p v f #[] w h hcall fun cs x w1 hx hr=>by rw [show (#[.agg cs.toArray] ++ #[]:Array Value) = #[.agg cs.toArray] from rfl];exact hf cs x w1 hx hr
theorem call_nodeBad:∀ (args:Array Value) (W:World),(callFunc 112 args).run Tryz.prog W=.ok (.enter 112 args) W:=by
 intro args W
 go_simp
theorem nodeBad_any {S:Nat→Prop} (x:Node) (cs:List Value) (w:World) (h:ENode.rel S w cs x) :
 Calls Tryz.prog 112 #[.agg cs.toArray] w fun e w'=>e=.returned (.bool (nodeBad x))∧Ext w w':=by
 obtain ⟨v,rfl,_,hr⟩:=h
 obtain ⟨A,c,rfl,h1,h2⟩:=hr.form
 have HR:=Lib.hid hr
 clear hr
 unfold maxLen at h2
 simp only [cellsNode]
 by_cases hs:stateOk x.state=true
 · by_cases hb:x.books.length≤4
   · have HB:Hid (nodeBad x = !spansRight x.books):=Lib.hid (by simp [nodeBad,nodeOk,hs,hb])
     go_enter Tryz.func112,Tryz.ntmps112
     go_wp2_with (first | (go_at_call 113;refine (isNodeState_any _ _).mono ?_;rintro e w' ⟨rfl,rfl⟩) | (go_at_call 114;refine (spansRight_any x.books _ _ (HR.out.ext ((Ext.refl _).alloc _))).mono ?_;rintro e w1 ⟨rfl,hx1⟩))
     go_ret
     exact ⟨ret_bool (by rw [HB.out,decide_eq_false (by omega),Bool.false_or]),((Ext.refl _).alloc _).trans hx1⟩
   · have hb':4 < x.books.length:=by omega
     have HB:Hid (nodeBad x=true):=Lib.hid (by simp [nodeBad,nodeOk,hb])
     clear hb
     go_enter Tryz.func112,Tryz.ntmps112
     go_wp2_with (first | (go_at_call 113;refine (isNodeState_any _ _).mono ?_;rintro e w' ⟨rfl,rfl⟩))
     go_ret
     exact ⟨ret_bool HB.out.symm,((Ext.refl _).alloc _)⟩
 · simp only [Bool.not_eq_true] at hs
   have HB:Hid (nodeBad x=true):=Lib.hid (by simp [nodeBad,nodeOk,hs])
   go_enter Tryz.func112,Tryz.ntmps112
   go_wp2_with (first | (go_at_call 113;refine (isNodeState_any _ _).mono ?_;rintro e w' ⟨rfl,rfl⟩))
   go_ret
   exact ⟨ret_bool HB.out.symm,((Ext.refl _).alloc _)⟩
theorem any_nodeBad (l:List Node):(!l.any nodeBad)=l.all nodeOk:=by
 rw [List.not_any_eq_all_not]
 simp [nodeBad]
theorem nodesRight_any {S:Nat→Prop} (l:List Node) (v:Value) (w:World) (h:Rd ENode S w v l) :
 Calls Tryz.prog 57 #[v] w fun e w'=>e=.returned (.bool (nodesRight l))∧Ext w w':=by
 have HR:=Lib.hid h
 obtain ⟨A,c,rfl,h1,h2⟩:=h.form
 unfold maxLen at h2
 clear h
 by_cases hn:isB (l.length:Int) 1 6=true
 · have HN:Hid (nodesRight l = !l.any nodeBad):=Lib.hid (by rw [any_nodeBad];simp [nodesRight,hn])
   go_enter Tryz.func57,Tryz.ntmps57
   go_wp2_with (first | (go_at_call 30;refine (within_any _ _ _ _).mono ?_;rintro e w' ⟨rfl,rfl⟩) | (go_at_call 111;refine (containsFunc_Node_0 l nodeBad _ _ _ HR.out call_nodeBad (fun cs x w1 _ hr=>nodeBad_any x cs w1 hr)).mono ?_;rintro e w1 ⟨rfl,hx1⟩))
   go_ret
   exact ⟨ret_bool HN.out.symm,hx1⟩
 · simp only [Bool.not_eq_true] at hn
   have HN:Hid (nodesRight l=false):=Lib.hid (by simp [nodesRight,hn])
   go_enter Tryz.func57,Tryz.ntmps57
   go_wp2_with (first | (go_at_call 30;refine (within_any _ _ _ _).mono ?_;rintro e w' ⟨rfl,rfl⟩))
   go_ret
   exact ⟨ret_bool HN.out.symm,Ext.refl _⟩
end Go.Proofs.YtoblacfjmcpbmaaGreat
