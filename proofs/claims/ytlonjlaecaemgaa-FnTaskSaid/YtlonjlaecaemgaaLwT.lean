/- Two lists of numbers, or two tasks, that read alike are found alike. -/
import Derived.Test.YtlonjlaecaemgaaGElems
import Derived.Test.YtlonjlaecaemgaaSmall
import Derived.BigQuiet
set_option maxHeartbeats 8000000
namespace Go.Proofs.Ytlonjlaecaemgaa
open Go.RowKit
attribute [local irreducible] wpQuiet
theorem lwNums_same {S S':Nat→Prop} (l:List Int) (v u:Value) (w:World) (h:Rd EInt S w v l) (g:Rd EInt S' w u l) :
 Calls Try.prog 35 #[v,u] w fun e w'=>e=.returned (.bool true)∧Ext w w':=by
 obtain ⟨A,c,rfl,h1,h2,hk⟩:=h.open_
 obtain ⟨A',c',rfl,g1,g2,gk⟩:=g.open_
 unfold maxLen at h2 g2
 have HK:=Lib.hid hk
 have GK:=Lib.hid gk
 clear hk gk h g
 go_enter Try.func35,Try.ntmps35
 go_wp2_with fail
 go_loopw [5] (fun i w'=>∃ k:Nat,k≤l.length∧i=.int .i64 k∧Ext w w') (fun i _=>l.length - (intOf i).toNat)
 case atStart=>exact ⟨0,by omega,rfl,Ext.refl _⟩
 case round =>
  obtain ⟨k,hk1,rfl,hx⟩:=hrel
  have HX:=Lib.hid hx
  by_cases hlt:k < l.length
  · obtain ⟨b,o,cs,rfl,_,hr,hc⟩:=HK.out k hlt
    obtain ⟨b',o',ds,rfl,_,gr,gc⟩:=GK.out k hlt
    obtain ⟨rfl,f1⟩:=hr
    obtain ⟨rfl,f2⟩:=gr
    have c0:=Ext.some hx (hc 0 _ rfl)
    have d0:=Ext.some hx (gc 0 _ rfl)
    simp only [EInt,Nat.add_zero,Nat.mul_one] at c0 d0
    clear hc gc hx f1 f2
    go_wp2_with fail
    refine wp_region_ext (by kernel_rfl) (by kernel_rfl) ?_
    repeat (
     (refine wpQuiet_step (fun K hK=>?_)
      go_simp
      first
       | (refine hK _ ?_;clear hK K)
       | (apply Exists.intro
          refine ⟨fun w__ hx__=>?_,hK _ ?_⟩
          · have c0__:=Ext.some hx__ c0;have d0__:=Ext.some hx__ d0;first | exact rfl | (go_simp;done) | (go_simp;exact rfl)
          clear hK K)))
    refine wpQuiet_nil ?_
    intro w1 hx1
    have HE:=Lib.hid hx1
    clear c0 d0 hx1
    go_wp2_with fail
    go_roundw
    case rel=>exact ⟨k+1,by omega,by go_num,HX.out.trans HE.out⟩
    case measure=>simp [intOf];omega
  · go_wp2_with fail
    go_ret
    exact ⟨rfl,HX.out⟩
set_option maxRecDepth 50000 in
theorem lwTask_same {S S':Nat→Prop} (x:Task) (cs ds:List Value) (w:World) (h:ETask.rel S w cs x) (g:ETask.rel S' w ds x) :
 Calls Try.prog 10 #[.agg cs.toArray,.agg ds.toArray] w fun e w'=>e=.returned (.bool true)∧Ext w w':=by
 obtain ⟨v1,rfl,-,h1⟩:=h
 obtain ⟨u1,rfl,-,g1⟩:=g
 have H1:=Lib.hid h1
 have G1:=Lib.hid g1
 clear h1 g1
 simp only [cellsTask]
 go_enter Try.func10,Try.ntmps10
 go_wp2_with (go_at_call 35;(with_reducible refine (lwNums_same (S:=S) (S':=S') x.nodes _ _ _ (H1.out.ext (((Ext.refl w).alloc _).alloc _)) (G1.out.ext (((Ext.refl w).alloc _).alloc _))).mono ?_);rintro e w1 ⟨rfl,hx1⟩)
 go_ret
 exact ⟨rfl,(((Ext.refl w).alloc _).alloc _).trans hx1⟩
theorem lwTasks_same {S S':Nat→Prop} (l:List Task) (v u:Value) (w:World) (h:Rd ETask S w v l) (g:Rd ETask S' w u l) :
 Calls Try.prog 15 #[v,u] w fun e w'=>e=.returned (.bool true)∧Ext w w':=by
 obtain ⟨A,c,rfl,h1,h2,hk⟩:=h.open_
 obtain ⟨A',c',rfl,g1,g2,gk⟩:=g.open_
 unfold maxLen at h2 g2
 have HK:=Lib.hid hk
 have GK:=Lib.hid gk
 clear hk gk h g
 go_enter Try.func15,Try.ntmps15
 go_wp2_with fail
 go_loopw [5] (fun i w'=>∃ k:Nat,k≤l.length∧i=.int .i64 k∧Ext w w') (fun i _=>l.length - (intOf i).toNat)
 case atStart=>exact ⟨0,by omega,rfl,Ext.refl _⟩
 case round =>
  obtain ⟨k,hk1,rfl,hx⟩:=hrel
  have HX:=Lib.hid hx
  by_cases hlt:k < l.length
  · obtain ⟨b,o,cs,rfl,_,hr,hc⟩:=HK.out k hlt
    obtain ⟨b',o',ds,rfl,_,gr,gc⟩:=GK.out k hlt
    have HR:=Lib.hid (ETask.keep (hx.same S) hr)
    have GR:=Lib.hid (ETask.keep (hx.same S') gr)
    have HC:=Lib.hid (hx.range hc)
    have GC:=Lib.hid (hx.range gc)
    have HI:Hid ((Try.prog.info? 27).map (·.size)=some cs.length):=Lib.hid (by rw [ETask.len hr];kernel_rfl)
    have GI:Hid ((Try.prog.info? 27).map (·.size)=some ds.length):=Lib.hid (by rw [ETask.len gr];kernel_rfl)
    clear hc gc hx hr gr
    go_wp2_with fail
    refine wp_region_ext (by kernel_rfl) (by kernel_rfl) ?_
    repeat (
     first
     | (refine wpQuiet_load (by rfl) 27 _ rfl b (o+k * 14) rfl cs _ (fun w__ hx__=>hx__.range HC.out) Try.underlying27 rfl HI.out ?_;simp only [Act.put,List.setIfInBounds_toArray,List.set_cons_zero,List.set_cons_succ])
     | (refine wpQuiet_load (by rfl) 27 _ rfl b' (o'+k * 14) rfl ds _ (fun w__ hx__=>hx__.range GC.out) Try.underlying27 rfl GI.out ?_;simp only [Act.put,List.setIfInBounds_toArray,List.set_cons_zero,List.set_cons_succ])
     | (refine wpQuiet_step (fun K hK=>?_)
        go_simp
        first
         | (refine hK _ ?_;clear hK K)
         | (apply Exists.intro
            refine ⟨fun w__ hx__=>?_,hK _ ?_⟩
            · first | exact rfl | (go_simp;done) | (go_simp;exact rfl) | (go_at_call 10;exact ext_of hx__ (lwTask_same (nth l k) cs ds _ (ETask.keep (hx__.same S) HR.out) (ETask.keep (hx__.same S') GR.out)))
            clear hK K)))
    refine wpQuiet_nil ?_
    intro w1 hx1
    have HE:=Lib.hid hx1
    clear hx1
    go_wp2_with fail
    go_roundw
    case rel=>exact ⟨k+1,by omega,by go_num,HX.out.trans HE.out⟩
    case measure=>simp [intOf];omega
  · go_wp2_with fail
    go_ret
    exact ⟨rfl,HX.out⟩
end Go.Proofs.Ytlonjlaecaemgaa
