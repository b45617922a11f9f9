/- The walk of impl.TasksRight. The walks of LiveOf, the program's and the reference's. -/
import Derived.Test.YtlonjlaecaemgaaTasksP
import Derived.Test.YtlonjlaecaemgaaTaskRI
import Derived.Test.YtlonjlaecaemgaaTasksS
namespace Go.Proofs.Ytlonjlaecaemgaa
open Go.RowKit
attribute [local irreducible] wpQuiet
set_option maxHeartbeats 4000000 in
set_option maxRecDepth 50000 in
theorem tasksRight_any {S:Nat→Prop} (l:List Task) (v:Value) (w:World) (h:Rd ETask S w v l) :
 Calls Try.prog 17 #[v] w fun e w'=>e=.returned (.bool (tasksRight l))∧Ext w w':=by
 have HR:=Lib.hid h
 obtain ⟨A,c,rfl,h1,h2,hk⟩:=h.open_
 unfold maxLen at h2
 have HK:=Lib.hid hk
 clear hk h
 by_cases h96:96 < l.length
 · have HN:=Lib.hid (tasksRight_long h96)
   go_enter Try.func17,Try.ntmps17
   go_wp2_with fail
   go_ret
   exact ⟨ret_bool HN.out.symm,Ext.refl _⟩
 have h96':l.length≤96:=by omega
 clear h96
 go_enter Try.func17,Try.ntmps17
 go_wp2_with fail
 go_loopw [12] (fun i w'=>∃ k:Nat,k≤l.length∧i=.int .i64 k∧(∀ j,j < k→tI l j=true)∧Ext w w') (fun i _=>l.length - (intOf i).toNat)
 case atStart=>exact ⟨0,by omega,rfl,fun j hj=>by omega,Ext.refl _⟩
 case round =>
  obtain ⟨k,hk1,rfl,hall,hx⟩:=hrel
  have HA:=Lib.hid hall
  have HX:=Lib.hid hx
  clear hall
  by_cases hlt:k < l.length
  · obtain ⟨b,q,cs,rfl,_,⟨v1,rfl,hfit,hrd⟩,hc⟩:=HK.out k hlt
    obtain ⟨A1,c1',rfl,-⟩:=hrd.form
    have HFit:=Lib.hid hfit
    have HRD:=Lib.hid hrd
    have c0:=Ext.some hx (hc 0 _ rfl)
    have c1:=Ext.some hx (hc 1 _ rfl)
    have c2:=Ext.some hx (hc 2 _ rfl)
    have c3:=Ext.some hx (hc 3 _ rfl)
    have c4:=Ext.some hx (hc 4 _ rfl)
    have c5:=Ext.some hx (hc 5 _ rfl)
    have c6:=Ext.some hx (hc 6 _ rfl)
    have c7:=Ext.some hx (hc 7 _ rfl)
    have c8:=Ext.some hx (hc 8 _ rfl)
    have c9:=Ext.some hx (hc 9 _ rfl)
    have c10:=Ext.some hx (hc 10 _ rfl)
    have c11:=Ext.some hx (hc 11 _ rfl)
    have c12:=Ext.some hx (hc 12 _ rfl)
    have c13:=Ext.some hx (hc 13 _ rfl)
    simp only [ETask,Nat.add_zero] at c0 c1 c2 c3 c4 c5 c6 c7 c8 c9 c10 c11 c12 c13
    clear hc hfit hrd hx
    go_wp2_with fail
    obtain ⟨W,B,hW__,hB__,hxW,hbox__⟩:=box_new wr #[.int .i64 (nth l k).label.level,.int .i64 (nth l k).label.set,.int .i64 (nth l k).id,.string (nth l k).owner,.int .i64 (nth l k).need,.int .i64 (nth l k).long,.int .i64 (nth l k).prio,.int .i64 (nth l k).under.level,.int .i64 (nth l k).under.set,.int .i64 (nth l k).after,.int .i64 (nth l k).born,.int .i64 (nth l k).state,.int .i64 (nth l k).start,.slice A1 (nth l k).nodes.length c1'] 27
    rw [← hW__,← hB__]
    have e0:=hbox__ 0 _ rfl
    have e1:=hbox__ 1 _ rfl
    have e2:=hbox__ 2 _ rfl
    have e7:=hbox__ 7 _ rfl
    have e8:=hbox__ 8 _ rfl
    have e9:=hbox__ 9 _ rfl
    clear hW__ hB__ hbox__
    have HW:=Lib.hid (HX.out.trans hxW)
    refine (taskRight_any (S:=S) (nth l k) _ _ (rel_Task HFit.out (HRD.out.ext HW.out))).mono ?_
    rintro e w2 ⟨rfl,hx2⟩
    have X2:=Lib.hid (HW.out.trans hx2)
    replace e0:=Ext.some hx2 e0
    replace e1:=Ext.some hx2 e1
    replace e2:=Ext.some hx2 e2
    replace e7:=Ext.some hx2 e7
    replace e8:=Ext.some hx2 e8
    replace e9:=Ext.some hx2 e9
    clear hx2 hxW c0 c1 c2 c3 c4 c5 c6 c7 c8 c9 c10 c11 c12 c13
    by_cases ht:taskRight (nth l k)=true
    · have HT:=Lib.hid ht
      by_cases h0:0 < k
      · obtain ⟨m,rfl⟩:∃ m,k=m+1:=⟨k - 1,by omega⟩
        obtain ⟨b',q',cs',hbo,_,⟨v',rfl,hfit',_⟩,hd⟩:=HK.out m (by omega)
        cases hbo
        have HF1:=Lib.hid hfit'
        have d0:=Ext.some X2.out (hd 0 _ rfl)
        have d1:=Ext.some X2.out (hd 1 _ rfl)
        have d2:=Ext.some X2.out (hd 2 _ rfl)
        simp only [ETask,Nat.add_zero] at d0 d1 d2
        have ha:=HA.out m (by omega)
        simp only [tI,Bool.and_eq_true] at ha
        obtain ⟨p1,p2⟩:=taskRight_id ha.1.1
        clear hd hfit' ha
        have i0:(0:Int)≤(m:Int)+1:=by omega
        have i1:(m:Int)+1 < (l.length:Int):=by omega
        have i2:((m:Int)+1).toNat=m+1:=by omega
        have i3:IntKind.i64.wrap (m:Int)=(m:Int):=IntWalk.i64_in _ (by omega)
        have i4:m < l.length:=by omega
        have HFa:Hid (FitLabel (nth l m).label):=Lib.hid ⟨HF1.out.1,HF1.out.2.1⟩
        have HFb:Hid (FitLabel (nth l (m+1)).label):=Lib.hid ⟨HFit.out.1,HFit.out.2.1⟩
        go_wp2_with fail
        refine wp_region_ext (by kernel_rfl) (by kernel_rfl) ?_
        repeat (
         (refine wpQuiet_step (fun K hK=>?_)
          go_simp
          first
           | (refine hK _ ?_;clear hK K)
           | (apply Exists.intro
              refine ⟨fun w__ hx__=>?_,hK _ ?_⟩
              · have d0__:=Ext.some hx__ d0;have d1__:=Ext.some hx__ d1;have e0__:=Ext.some hx__ e0;have e1__:=Ext.some hx__ e1;first | exact rfl | (go_simp;done) | (go_simp;exact rfl) | (go_at_call 55;exact ext_of hx__ (compareLabels_any (S:=S) (S':=S) (nth l m).label (nth l (m+1)).label _ _ _ (rel_Label HFa.out) (rel_Label HFb.out)))
              clear hK K)))
        refine wpQuiet_nil ?_
        intro w1 hx1
        have X3:=Lib.hid (X2.out.trans hx1)
        replace d2:=Ext.some hx1 d2
        replace e2:=Ext.some hx1 e2
        replace e7:=Ext.some hx1 e7
        replace e8:=Ext.some hx1 e8
        replace e9:=Ext.some hx1 e9
        clear hx1 d0 d1 e0 e1
        clear i2 i3
        go_wp2_with (go_at_call 56;(with_reducible refine (taskAt_any (S:=S) l (nth l (m+1)).under (nth l (m+1)).after _ _ (HR.out.ext X3.out)).mono ?_);rintro e w4 ⟨rfl,hx4⟩;have X4:=Lib.hid (X3.out.trans hx4);clear hx4)
        all_goals first
         | (go_ret;exact ⟨ret_bool (tasksRight_false hlt (by have ht:=HT.out;go_light;simp only [tI,idOk,depI,ht,Nat.add_one_ne_zero,if_false,Nat.add_sub_cancel];grind)).symm,by first | exact X4.out | exact X3.out⟩)
         | (refine ⟨⟨m+2,by omega,by go_num,all_succ HA.out (by have ht:=HT.out;go_light;simp only [tI,idOk,depI,ht,Nat.add_one_ne_zero,if_false,Nat.add_sub_cancel];grind),by first | exact X4.out | exact X3.out⟩,?_⟩
            simp [intOf]
            omega)
      · obtain rfl:k=0:=by omega
        clear e0 e1
        go_wp2_with (go_at_call 56;(with_reducible refine (taskAt_any (S:=S) l (nth l 0).under (nth l 0).after _ _ (HR.out.ext X2.out)).mono ?_);rintro e w4 ⟨rfl,hx4⟩;have X4:=Lib.hid (X2.out.trans hx4);clear hx4)
        all_goals first
         | (go_ret;exact ⟨ret_bool (tasksRight_false hlt (by have ht:=HT.out;go_light;simp only [tI,idOk,depI,ht,if_true];grind)).symm,by first | exact X4.out | exact X2.out⟩)
         | (refine ⟨⟨1,by omega,by go_num,all_succ HA.out (by have ht:=HT.out;go_light;simp only [tI,idOk,depI,ht,if_true];grind),by first | exact X4.out | exact X2.out⟩,?_⟩
            simp [intOf]
            omega)
    · simp only [Bool.not_eq_true] at ht
      have HF:Hid (tasksRight l=false):=Lib.hid (tasksRight_false hlt (by simp [tI,ht]))
      go_wp2_with fail
      go_ret
      exact ⟨ret_bool HF.out.symm,X2.out⟩
  · have HF:Hid (tasksRight l=true):=Lib.hid (by rw [tasksRight_of fun i hi=>HA.out i (by omega)];exact decide_eq_true h96')
    go_wp2_with fail
    go_ret
    exact ⟨ret_bool HF.out.symm,HX.out⟩
end Go.Proofs.Ytlonjlaecaemgaa
namespace Go.Proofs.Ytlonjlaecaemgaa
open Go.RowKit
attribute [local irreducible] wpQuiet
end Go.Proofs.Ytlonjlaecaemgaa
