/- The walks over lists of node numbers: nodesRight and l04Nodes. -/
import Derived.Test.YtlonjlaecaemgaaSmall
set_option maxHeartbeats 4000000
namespace Go.Proofs.Ytlonjlaecaemgaa
open Go.RowKit
attribute [local irreducible] wpQuiet
def numAt (l:List Int) (i:Nat):Bool:=isB (nth l i) 0 5 && (decide (i=0) || decide (nth l (i - 1) < nth l i))
def numsOk (l:List Int):Bool:=(List.range l.length).all (numAt l)
theorem numsOk_false {l:List Int} {i:Nat} (hi:i < l.length) (h:numAt l i=false):numsOk l=false:=by
 unfold numsOk
 rw [List.all_eq_false]
 exact ⟨i,List.mem_range.2 hi,by simp [h]⟩
theorem numsOk_of {l:List Int} (h:∀ i,i < l.length→numAt l i=true):numsOk l=true:=List.all_eq_true.2 fun i hi=>h i (List.mem_range.1 hi)
theorem numAt_zero {l:List Int}:numAt l 0=isB (nth l 0) 0 5:=by simp [numAt]
theorem numAt_succ {l:List Int} {m:Nat}:numAt l (m+1)=(isB (nth l (m+1)) 0 5 && decide (nth l m < nth l (m+1))):=by simp [numAt]
theorem numAt_bad {l:List Int} {k:Nat} (h:isB (nth l k) 0 5=false):numAt l k=false:=by simp [numAt,h]
theorem Rd.ints {S:Nat→Prop} {w:World} {v:Value} {l:List Int} (h:Rd EInt S w v l) :
 ∃ A c,v=.slice A l.length c∧l.length≤c∧c≤maxLen∧∀ k,k < l.length→∃ b o,A=some ⟨b,o,none⟩∧w.cell? ⟨b,o+k,none⟩=some (.int .i64 (nth l k)):=by
 obtain ⟨A,c,hv,h1,h2,hk⟩:=h.open_
 refine ⟨A,c,hv,h1,h2,fun k hlt=>?_⟩
 obtain ⟨b,o,cs,hA,_,⟨rfl,_⟩,hc⟩:=hk k hlt
 have h0:=hc 0 _ rfl
 simp only [EInt,Nat.mul_one,Nat.add_zero] at h0
 exact ⟨b,o,hA,h0⟩
theorem l04Nodes_any {S:Nat→Prop} (l:List Int) (v:Value) (w:World) (h:Rd EInt S w v l) :
 Calls Try.prog 50 #[v] w fun e w'=>e=.returned (.bool (numsOk l))∧Ext w w':=by
 obtain ⟨A,c,rfl,h1,h2,hk⟩:=h.ints
 unfold maxLen at h2
 have HK:=Lib.hid hk
 clear hk h
 go_enter Try.func50,Try.ntmps50
 go_wp2_with fail
 go_loopw [3] (fun i w'=>∃ k:Nat,k≤l.length∧i=.int .i64 k∧(∀ j,j < k→numAt l j=true)∧Ext w w') (fun i _=>l.length - (intOf i).toNat)
 case atStart=>exact ⟨0,by omega,rfl,fun j hj=>by omega,Ext.refl _⟩
 case round =>
  obtain ⟨k,hk1,rfl,hall,hx⟩:=hrel
  have HA:=Lib.hid hall
  clear hall
  by_cases hlt:k < l.length
  · obtain ⟨b,o,rfl,c0⟩:=HK.out k hlt
    have c0':=Ext.some hx c0
    clear c0
    by_cases hs:isB (nth l k) 0 5=true
    · by_cases h0:0 < k
      · obtain ⟨m,rfl⟩:∃ m,k=m+1:=⟨k - 1,by omega⟩
        obtain ⟨b',o',hbo,d0⟩:=HK.out m (by omega)
        cases hbo
        have d0':=Ext.some hx d0
        clear d0
        have i0:(0:Int)≤(m:Int)+1:=by omega
        have i1:(m:Int)+1 < (l.length:Int):=by omega
        have i2:((m:Int)+1).toNat=m+1:=by omega
        have i3:IntKind.i64.wrap (m:Int)=(m:Int):=IntWalk.i64_in _ (by omega)
        have i4:m < l.length:=by omega
        by_cases hle:nth l m < nth l (m+1)
        · go_wp2_with fail
          refine wp_region_ext (by kernel_rfl) (by kernel_rfl) ?_
          repeat (
           (refine wpQuiet_step (fun K hK=>?_)
            go_simp
            first
             | (refine hK _ ?_;clear hK K)
             | (apply Exists.intro
                refine ⟨fun w__ hx__=>?_,hK _ ?_⟩
                · have c0'__:=Ext.some hx__ c0';have d0'__:=Ext.some hx__ d0';first | exact rfl | (go_simp;done) | (go_simp;exact rfl) | (go_at_call 32;exact ext_of_same hx__ (l02Is_any _ _ _ _))
                clear hK K)))
          refine wpQuiet_nil ?_
          intro w1 hx1
          go_wp2_with fail
          go_roundw
          case rel=>exact ⟨m+2,by omega,by go_num,all_succ HA.out (by rw [numAt_succ,hs];simpa using hle),hx.trans hx1⟩
          case measure=>simp [intOf];omega
        · have hgt:nth l (m+1)≤nth l m:=by omega
          clear hle
          have HF:Hid (numsOk l=false):=Lib.hid (numsOk_false hlt (by rw [numAt_succ,hs];simpa using hgt))
          go_wp2_with fail
          refine wp_region_ext (by kernel_rfl) (by kernel_rfl) ?_
          repeat (
           (refine wpQuiet_step (fun K hK=>?_)
            go_simp
            first
             | (refine hK _ ?_;clear hK K)
             | (apply Exists.intro
                refine ⟨fun w__ hx__=>?_,hK _ ?_⟩
                · have c0'__:=Ext.some hx__ c0';have d0'__:=Ext.some hx__ d0';first | exact rfl | (go_simp;done) | (go_simp;exact rfl) | (go_at_call 32;exact ext_of_same hx__ (l02Is_any _ _ _ _))
                clear hK K)))
          refine wpQuiet_nil ?_
          intro w1 hx1
          go_wp2_with fail
          go_ret
          exact ⟨ret_bool HF.out.symm,hx.trans hx1⟩
      · obtain rfl:k=0:=by omega
        simp only [Nat.add_zero] at c0'
        go_wp2_with fail
        refine wp_region_ext (by kernel_rfl) (by kernel_rfl) ?_
        repeat (
         (refine wpQuiet_step (fun K hK=>?_)
          go_simp
          first
           | (refine hK _ ?_;clear hK K)
           | (apply Exists.intro
              refine ⟨fun w__ hx__=>?_,hK _ ?_⟩
              · have c0'__:=Ext.some hx__ c0';first | exact rfl | (go_simp;done) | (go_simp;exact rfl) | (go_at_call 32;exact ext_of_same hx__ (l02Is_any _ _ _ _))
              clear hK K)))
        refine wpQuiet_nil ?_
        intro w1 hx1
        go_wp2_with fail
        go_roundw
        case rel=>exact ⟨1,by omega,by go_num,all_succ HA.out (by rw [numAt_zero,hs]),hx.trans hx1⟩
        case measure=>simp [intOf];omega
    · have HF:Hid (numsOk l=false):=Lib.hid (numsOk_false hlt (numAt_bad (by simpa using hs)))
      simp only [Bool.not_eq_true] at hs
      go_wp2_with fail
      refine wp_region_ext (by kernel_rfl) (by kernel_rfl) ?_
      repeat (
       (refine wpQuiet_step (fun K hK=>?_)
        go_simp
        first
         | (refine hK _ ?_;clear hK K)
         | (apply Exists.intro
            refine ⟨fun w__ hx__=>?_,hK _ ?_⟩
            · have c0'__:=Ext.some hx__ c0';first | exact rfl | (go_simp;done) | (go_simp;exact rfl) | (go_at_call 32;exact ext_of_same hx__ (l02Is_any _ _ _ _))
            clear hK K)))
      refine wpQuiet_nil ?_
      intro w1 hx1
      go_wp2_with fail
      go_ret
      exact ⟨ret_bool HF.out.symm,hx.trans hx1⟩
  · have HF:Hid (numsOk l=true):=Lib.hid (numsOk_of fun i hi=>HA.out i (by omega))
    go_wp2_with fail
    go_ret
    exact ⟨ret_bool HF.out.symm,hx⟩
theorem nodesRight1_any {S:Nat→Prop} (l:List Int) (need:Int) (v:Value) (w:World) (h:Rd EInt S w v l) :
 Calls Try.prog 44 #[v,.int .i64 need] w fun e w'=>e=.returned (.bool (numsOk l && decide ((l.length:Int)=need)))∧Ext w w':=by
 obtain ⟨A,c,rfl,h1,h2,hk⟩:=h.ints
 unfold maxLen at h2
 have HK:=Lib.hid hk
 clear hk h
 go_enter Try.func44,Try.ntmps44
 go_wp2_with fail
 go_loopw [9] (fun i w'=>∃ k:Nat,k≤l.length∧i=.int .i64 k∧(∀ j,j < k→numAt l j=true)∧Ext w w') (fun i _=>l.length - (intOf i).toNat)
 case atStart=>exact ⟨0,by omega,rfl,fun j hj=>by omega,Ext.refl _⟩
 case round =>
  obtain ⟨k,hk1,rfl,hall,hx⟩:=hrel
  have HA:=Lib.hid hall
  clear hall
  by_cases hlt:k < l.length
  · obtain ⟨b,o,rfl,c0⟩:=HK.out k hlt
    have c0':=Ext.some hx c0
    clear c0
    have HX:=Lib.hid hx
    clear hx
    by_cases hs:isB (nth l k) 0 5=true
    · by_cases h0:0 < k
      · obtain ⟨m,rfl⟩:∃ m,k=m+1:=⟨k - 1,by omega⟩
        obtain ⟨b',o',hbo,d0⟩:=HK.out m (by omega)
        cases hbo
        have d0':=Ext.some HX.out d0
        clear d0
        have i0:(0:Int)≤(m:Int)+1:=by omega
        have i1:(m:Int)+1 < (l.length:Int):=by omega
        have i2:((m:Int)+1).toNat=m+1:=by omega
        have i3:IntKind.i64.wrap (m:Int)=(m:Int):=IntWalk.i64_in _ (by omega)
        have i4:m < l.length:=by omega
        by_cases hle:nth l m < nth l (m+1)
        · go_wp2_with (go_at_call 37;refine (within_any _ _ _ _).mono ?_;rintro e w' ⟨rfl,rfl⟩)
          go_roundw
          case rel=>exact ⟨m+2,by omega,by go_num,all_succ HA.out (by rw [numAt_succ,hs];simpa using hle),HX.out⟩
          case measure=>simp [intOf];omega
        · have hgt:nth l (m+1)≤nth l m:=by omega
          clear hle
          have HF:Hid (numsOk l=false):=Lib.hid (numsOk_false hlt (by rw [numAt_succ,hs];simpa using hgt))
          go_wp2_with (go_at_call 37;refine (within_any _ _ _ _).mono ?_;rintro e w' ⟨rfl,rfl⟩)
          go_ret
          exact ⟨ret_bool (by rw [HF.out];rfl),HX.out⟩
      · obtain rfl:k=0:=by omega
        simp only [Nat.add_zero] at c0'
        go_wp2_with (go_at_call 37;refine (within_any _ _ _ _).mono ?_;rintro e w' ⟨rfl,rfl⟩)
        go_roundw
        case rel=>exact ⟨1,by omega,by go_num,all_succ HA.out (by rw [numAt_zero,hs]),HX.out⟩
        case measure=>simp [intOf];omega
    · have HF:Hid (numsOk l=false):=Lib.hid (numsOk_false hlt (numAt_bad (by simpa using hs)))
      simp only [Bool.not_eq_true] at hs
      go_wp2_with (go_at_call 37;refine (within_any _ _ _ _).mono ?_;rintro e w' ⟨rfl,rfl⟩)
      go_ret
      exact ⟨ret_bool (by rw [HF.out];rfl),HX.out⟩
  · have HF:Hid (numsOk l=true):=Lib.hid (numsOk_of fun i hi=>HA.out i (by omega))
    have HX:=Lib.hid hx
    go_wp2_with fail
    go_ret
    exact ⟨ret_bool (by rw [HF.out,Bool.true_and];simp [Bool.beq_eq_decide_eq]),HX.out⟩
end Go.Proofs.Ytlonjlaecaemgaa
