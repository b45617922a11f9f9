/- The walk of spec.TasksRight. -/
import Derived.Test.YtlonjlaecaemgaaTasksP
import Derived.Test.YtlonjlaecaemgaaTaskRS
namespace Go.Proofs.Ytlonjlaecaemgaa
open Go.RowKit
attribute [local irreducible] wpQuiet
set_option maxHeartbeats 4000000 in
set_option maxRecDepth 50000 in
theorem specTasksRight_any {S:Nat→Prop} (l:List Task) (v:Value) (w:World) (h:Rd ETask S w v l) :
 Calls Try.prog 18 #[v] w fun e w'=>e=.returned (.bool (tasksRight l))∧Ext w w':=by
 have HR:=Lib.hid h
 obtain ⟨A,c,rfl,h1,h2,hk⟩:=h.open_
 unfold maxLen at h2
 have HK:=Lib.hid hk
 clear hk h
 by_cases h96:96 < l.length
 · have HN:=Lib.hid (tasksRight_long h96)
   go_enter Try.func18,Try.ntmps18
   go_wp2_with fail
   go_ret
   exact ⟨ret_bool HN.out.symm,Ext.refl _⟩
 have h96':l.length≤96:=by omega
 clear h96
 go_enter Try.func18,Try.ntmps18
 go_wp2_with fail
 go_loopw [3] (fun i w'=>∃ k:Nat,k≤l.length∧i=.int .i64 k∧(∀ j,j < k→tS l j=true)∧Ext w w') (fun i _=>l.length - (intOf i).toNat)
 case atStart=>exact ⟨0,by omega,rfl,fun j hj=>by omega,Ext.refl _⟩
 case round =>
  obtain ⟨k,hk1,rfl,hall,hx⟩:=hrel
  have HA:=Lib.hid hall
  have HX:=Lib.hid hx
  clear hall
  by_cases hlt:k < l.length
  · obtain ⟨b,q,cs,rfl,_,⟨v1,rfl,hfit,hrd⟩,hc⟩:=HK.out k hlt
    obtain ⟨A1,c1',rfl,-⟩:=hrd.form
    have HFit:=Lib.hid hfit
    have HRD:=Lib.hid hrd
    have c0:=Ext.some hx (hc 0 _ rfl)
    have c1:=Ext.some hx (hc 1 _ rfl)
    have c2:=Ext.some hx (hc 2 _ rfl)
    have c3:=Ext.some hx (hc 3 _ rfl)
    have c4:=Ext.some hx (hc 4 _ rfl)
    have c5:=Ext.some hx (hc 5 _ rfl)
    have c6:=Ext.some hx (hc 6 _ rfl)
    have c7:=Ext.some hx (hc 7 _ rfl)
    have c8:=Ext.some hx (hc 8 _ rfl)
    have c9:=Ext.some hx (hc 9 _ rfl)
    have c10:=Ext.some hx (hc 10 _ rfl)
    have c11:=Ext.some hx (hc 11 _ rfl)
    have c12:=Ext.some hx (hc 12 _ rfl)
    have c13:=Ext.some hx (hc 13 _ rfl)
    simp only [ETask,Nat.add_zero] at c0 c1 c2 c3 c4 c5 c6 c7 c8 c9 c10 c11 c12 c13
    clear hc hfit hrd hx
    go_wp2_with fail
    obtain ⟨W,B,hW__,hB__,hxW,hbox__⟩:=box_new wr #[.int .i64 (nth l k).label.level,.int .i64 (nth l k).label.set,.int .i64 (nth l k).id,.string (nth l k).owner,.int .i64 (nth l k).need,.int .i64 (nth l k).long,.int .i64 (nth l k).prio,.int .i64 (nth l k).under.level,.int .i64 (nth l k).under.set,.int .i64 (nth l k).after,.int .i64 (nth l k).born,.int .i64 (nth l k).state,.int .i64 (nth l k).start,.slice A1 (nth l k).nodes.length c1'] 27
    rw [← hW__,← hB__]
    have e0:=hbox__ 0 _ rfl
    have e1:=hbox__ 1 _ rfl
    have e2:=hbox__ 2 _ rfl
    have e7:=hbox__ 7 _ rfl
    have e8:=hbox__ 8 _ rfl
    have e9:=hbox__ 9 _ rfl
    clear hW__ hB__ hbox__
    have HW:=Lib.hid (HX.out.trans hxW)
    refine (specTaskRight_any (S:=S) (nth l k) _ _ (rel_Task HFit.out (HRD.out.ext HW.out))).mono ?_
    rintro e w2 ⟨rfl,hx2⟩
    have X2:=Lib.hid (HW.out.trans hx2)
    replace e0:=Ext.some hx2 e0
    replace e1:=Ext.some hx2 e1
    replace e2:=Ext.some hx2 e2
    replace e7:=Ext.some hx2 e7
    replace e8:=Ext.some hx2 e8
    replace e9:=Ext.some hx2 e9
    clear hx2 hxW c0 c1 c2 c3 c4 c5 c6 c7 c8 c9 c10 c11 c12 c13
    by_cases ht:taskRight (nth l k)=true
    · have HT:=Lib.hid ht
      have hl:=taskRight_label ht
      have HLB:=Lib.hid hl
      clear hl
      by_cases h0:0 < k
      · obtain ⟨m,rfl⟩:∃ m,k=m+1:=⟨k - 1,by omega⟩
        obtain ⟨b',q',cs',hbo,_,⟨v',rfl,hfit',_⟩,hd⟩:=HK.out m (by omega)
        cases hbo
        have HF1:=Lib.hid hfit'
        have d0:=Ext.some X2.out (hd 0 _ rfl)
        have d1:=Ext.some X2.out (hd 1 _ rfl)
        have d2:=Ext.some X2.out (hd 2 _ rfl)
        simp only [ETask,Nat.add_zero] at d0 d1 d2
        have ha:=HA.out m (by omega)
        simp only [tS,Bool.and_eq_true] at ha
        obtain ⟨p1,p2⟩:=taskRight_id ha.1.1
        have HLA:=Lib.hid (taskRight_label ha.1.1)
        clear hd hfit' ha
        have ha:=HLA.out
        have hb:=HLB.out
        simp only [labelRight,Bool.and_eq_true] at ha hb
        have HA4:=Lib.hid ha
        have HB4:=Lib.hid hb
        have hbo:=isB_true ha.1
        have hbp:=isB_true ha.2
        have hbq:=isB_true hb.1
        have hbr:=isB_true hb.2
        clear ha hb
        have i0:(0:Int)≤(m:Int)+1:=by omega
        have i1:(m:Int)+1 < (l.length:Int):=by omega
        have i2:((m:Int)+1).toNat=m+1:=by omega
        have i3:IntKind.i64.wrap (m:Int)=(m:Int):=IntWalk.i64_in _ (by omega)
        have i4:m < l.length:=by omega
        have im:((m:Int)+1 == 0)=false:=by simp;omega
        have i5:(m:Int)+1≤(c:Int):=by omega
        have i6:m+1≤c:=by omega
        have HTK:=Lib.hid (Rd.take HR.out (Nat.le_of_lt hlt))
        by_cases hkey:8 * (nth l m).label.level+(nth l m).label.set < 8 * (nth l (m+1)).label.level+(nth l (m+1)).label.set
        · have HKey:=Lib.hid hkey
          have hkd:decide (8 * (nth l m).label.level+(nth l m).label.set < 8 * (nth l (m+1)).label.level+(nth l (m+1)).label.set)=true:=decide_eq_true hkey
          clear hkey
          go_wp2_with fail
          refine wp_region_ext (by kernel_rfl) (by kernel_rfl) ?_
          repeat (
           (refine wpQuiet_step (fun K hK=>?_)
            go_simp
            first
             | (refine hK _ ?_;clear hK K)
             | (apply Exists.intro
                refine ⟨fun w__ hx__=>?_,hK _ ?_⟩
                · have d0__:=Ext.some hx__ d0;have d1__:=Ext.some hx__ d1;have e0__:=Ext.some hx__ e0;have e1__:=Ext.some hx__ e1;first | exact rfl | (go_simp;done) | (go_simp;exact rfl) | (go_at_call 57;exact ext_of hx__ (l09Ord_any (nth l m).label.level (nth l m).label.set _ HA4.out.1 HA4.out.2)) | (go_at_call 57;exact ext_of hx__ (l09Ord_any (nth l (m+1)).label.level (nth l (m+1)).label.set _ HB4.out.1 HB4.out.2))
                clear hK K)))
          refine wpQuiet_nil ?_
          intro w1 hx1
          have X3:=Lib.hid (X2.out.trans hx1)
          replace d0:=Ext.some hx1 d0
          replace d1:=Ext.some hx1 d1
          replace d2:=Ext.some hx1 d2
          replace e0:=Ext.some hx1 e0
          replace e1:=Ext.some hx1 e1
          replace e2:=Ext.some hx1 e2
          replace e7:=Ext.some hx1 e7
          replace e8:=Ext.some hx1 e8
          replace e9:=Ext.some hx1 e9
          clear hx1
          rename World=>V3
          have i7:IntKind.i64.wrap ((nth l m).id+1)=(nth l m).id+1:=IntWalk.i64_in _ (by omega)
          go_wp2_with fail
          all_goals refine wp_region_ext (by kernel_rfl) (by kernel_rfl) ?_
          all_goals have ite__:=@ite_ok
          all_goals have itn__:=@ite_no
          repeat (any_goals (
           refine wpQuiet_step (fun K hK=>?_)
           go_simp
           first
            | (refine hK _ ?_;clear hK K)
            | (apply Exists.intro
               refine ⟨fun w__ hx__=>?_,hK _ ?_⟩
               · have d0__:=Ext.some hx__ d0;have d1__:=Ext.some hx__ d1;have d2__:=Ext.some hx__ d2;have e0__:=Ext.some hx__ e0;have e1__:=Ext.some hx__ e1;have e2__:=Ext.some hx__ e2;(first | exact rfl | (go_simp;done) | (go_simp;exact rfl))
               clear hK K)
            | (split
               all_goals (first
                | (refine hK _ ?_;clear hK K)
                | (apply Exists.intro
                   refine ⟨fun w__ hx__=>?_,hK _ ?_⟩
                   · have d0__:=Ext.some hx__ d0;have d1__:=Ext.some hx__ d1;have d2__:=Ext.some hx__ d2;have e0__:=Ext.some hx__ e0;have e1__:=Ext.some hx__ e1;have e2__:=Ext.some hx__ e2;(first | exact rfl | (go_simp;done) | (go_simp;exact rfl))
                   clear hK K)))))
          all_goals (refine wpQuiet_nil ?_)
          all_goals (intro w1 hx1;clear ite__ itn__)
          all_goals have X4:=Lib.hid (X3.out.trans hx1)
          all_goals replace e7:=Ext.some hx1 e7
          all_goals replace e8:=Ext.some hx1 e8
          all_goals replace e9:=Ext.some hx1 e9
          all_goals clear hx1 d0 d1 d2 e0 e1 e2 i7
          all_goals rename World=>V4
          all_goals go_wp2_with fail
          all_goals first
           | (go_ret;exact ⟨ret_bool (tasksRight_falseS hlt (by have ht:=HT.out;have hk:=cmp_key HLA.out HLB.out;have hy:=HKey.out;simp only [keyOf,Label.ext_iff] at hk;go_light;simp only [tS,idOk,depI,ht,Nat.add_one_ne_zero,if_false,Nat.add_sub_cancel];grind)).symm,X4.out⟩)
           | skip
          all_goals refine wp_region_ext (by kernel_rfl) (by kernel_rfl) ?_
          all_goals have ite__:=@ite_ok
          repeat (any_goals (
           refine wpQuiet_step (fun K hK=>?_)
           go_simp
           first
            | (refine hK _ ?_;clear hK K)
            | (apply Exists.intro
               refine ⟨fun w__ hx__=>?_,hK _ ?_⟩
               · have e7__:=Ext.some hx__ e7;have e8__:=Ext.some hx__ e8;have e9__:=Ext.some hx__ e9;(first | exact rfl | (go_simp;done) | (go_simp;exact rfl) | (go_at_call 54;exact ext_of hx__ (l12At_any (S:=S) (l.take (m+1)) (nth l (m+1)).under (nth l (m+1)).after _ _ (HTK.out.ext (X4.out.trans hx__)))))
               clear hK K)
            | (split
               all_goals (first
                | (refine hK _ ?_;clear hK K)
                | (apply Exists.intro
                   refine ⟨fun w__ hx__=>?_,hK _ ?_⟩
                   · have e7__:=Ext.some hx__ e7;have e8__:=Ext.some hx__ e8;have e9__:=Ext.some hx__ e9;(first | exact rfl | (go_simp;done) | (go_simp;exact rfl) | (go_at_call 54;exact ext_of hx__ (l12At_any (S:=S) (l.take (m+1)) (nth l (m+1)).under (nth l (m+1)).after _ _ (HTK.out.ext (X4.out.trans hx__)))))
                   clear hK K)))))
          all_goals (refine wpQuiet_nil ?_)
          all_goals (intro w1 hx1;clear ite__)
          all_goals have X5:=Lib.hid (X4.out.trans hx1)
          all_goals clear hx1 e7 e8 e9
          all_goals go_wp2_with fail
          all_goals first
           | (go_ret;exact ⟨ret_bool (tasksRight_falseS hlt (by have ht:=HT.out;have hk:=cmp_key HLA.out HLB.out;have hy:=HKey.out;simp only [keyOf,Label.ext_iff] at hk;go_light;simp only [tS,idOk,depI,ht,Nat.add_one_ne_zero,if_false,Nat.add_sub_cancel];grind)).symm,X5.out⟩)
           | (refine ⟨⟨m+2,by omega,by go_num,all_succ HA.out (by have ht:=HT.out;have hk:=cmp_key HLA.out HLB.out;have hy:=HKey.out;simp only [keyOf,Label.ext_iff] at hk;go_light;simp only [tS,idOk,depI,ht,Nat.add_one_ne_zero,if_false,Nat.add_sub_cancel];grind),X5.out⟩,?_⟩
              simp [intOf]
              omega)
        · have HKey:=Lib.hid hkey
          have hkd:decide (8 * (nth l m).label.level+(nth l m).label.set < 8 * (nth l (m+1)).label.level+(nth l (m+1)).label.set)=false:=decide_eq_false hkey
          clear hkey
          go_wp2_with fail
          refine wp_region_ext (by kernel_rfl) (by kernel_rfl) ?_
          repeat (
           (refine wpQuiet_step (fun K hK=>?_)
            go_simp
            first
             | (refine hK _ ?_;clear hK K)
             | (apply Exists.intro
                refine ⟨fun w__ hx__=>?_,hK _ ?_⟩
                · have d0__:=Ext.some hx__ d0;have d1__:=Ext.some hx__ d1;have e0__:=Ext.some hx__ e0;have e1__:=Ext.some hx__ e1;first | exact rfl | (go_simp;done) | (go_simp;exact rfl) | (go_at_call 57;exact ext_of hx__ (l09Ord_any (nth l m).label.level (nth l m).label.set _ HA4.out.1 HA4.out.2)) | (go_at_call 57;exact ext_of hx__ (l09Ord_any (nth l (m+1)).label.level (nth l (m+1)).label.set _ HB4.out.1 HB4.out.2))
                clear hK K)))
          refine wpQuiet_nil ?_
          intro w1 hx1
          have X3:=Lib.hid (X2.out.trans hx1)
          replace d0:=Ext.some hx1 d0
          replace d1:=Ext.some hx1 d1
          replace d2:=Ext.some hx1 d2
          replace e0:=Ext.some hx1 e0
          replace e1:=Ext.some hx1 e1
          replace e2:=Ext.some hx1 e2
          replace e7:=Ext.some hx1 e7
          replace e8:=Ext.some hx1 e8
          replace e9:=Ext.some hx1 e9
          clear hx1
          rename World=>V3
          have i7:IntKind.i64.wrap ((nth l m).id+1)=(nth l m).id+1:=IntWalk.i64_in _ (by omega)
          go_wp2_with fail
          all_goals refine wp_region_ext (by kernel_rfl) (by kernel_rfl) ?_
          all_goals have ite__:=@ite_ok
          all_goals have itn__:=@ite_no
          repeat (any_goals (
           refine wpQuiet_step (fun K hK=>?_)
           go_simp
           first
            | (refine hK _ ?_;clear hK K)
            | (apply Exists.intro
               refine ⟨fun w__ hx__=>?_,hK _ ?_⟩
               · have d0__:=Ext.some hx__ d0;have d1__:=Ext.some hx__ d1;have d2__:=Ext.some hx__ d2;have e0__:=Ext.some hx__ e0;have e1__:=Ext.some hx__ e1;have e2__:=Ext.some hx__ e2;(first | exact rfl | (go_simp;done) | (go_simp;exact rfl))
               clear hK K)
            | (split
               all_goals (first
                | (refine hK _ ?_;clear hK K)
                | (apply Exists.intro
                   refine ⟨fun w__ hx__=>?_,hK _ ?_⟩
                   · have d0__:=Ext.some hx__ d0;have d1__:=Ext.some hx__ d1;have d2__:=Ext.some hx__ d2;have e0__:=Ext.some hx__ e0;have e1__:=Ext.some hx__ e1;have e2__:=Ext.some hx__ e2;(first | exact rfl | (go_simp;done) | (go_simp;exact rfl))
                   clear hK K)))))
          all_goals (refine wpQuiet_nil ?_)
          all_goals (intro w1 hx1;clear ite__ itn__)
          all_goals have X4:=Lib.hid (X3.out.trans hx1)
          all_goals replace e7:=Ext.some hx1 e7
          all_goals replace e8:=Ext.some hx1 e8
          all_goals replace e9:=Ext.some hx1 e9
          all_goals clear hx1 d0 d1 d2 e0 e1 e2 i7
          all_goals rename World=>V4
          all_goals go_wp2_with fail
          all_goals first
           | (go_ret;exact ⟨ret_bool (tasksRight_falseS hlt (by have ht:=HT.out;have hk:=cmp_key HLA.out HLB.out;have hy:=HKey.out;simp only [keyOf,Label.ext_iff] at hk;go_light;simp only [tS,idOk,depI,ht,Nat.add_one_ne_zero,if_false,Nat.add_sub_cancel];grind)).symm,X4.out⟩)
           | skip
          all_goals refine wp_region_ext (by kernel_rfl) (by kernel_rfl) ?_
          all_goals have ite__:=@ite_ok
          repeat (any_goals (
           refine wpQuiet_step (fun K hK=>?_)
           go_simp
           first
            | (refine hK _ ?_;clear hK K)
            | (apply Exists.intro
               refine ⟨fun w__ hx__=>?_,hK _ ?_⟩
               · have e7__:=Ext.some hx__ e7;have e8__:=Ext.some hx__ e8;have e9__:=Ext.some hx__ e9;(first | exact rfl | (go_simp;done) | (go_simp;exact rfl) | (go_at_call 54;exact ext_of hx__ (l12At_any (S:=S) (l.take (m+1)) (nth l (m+1)).under (nth l (m+1)).after _ _ (HTK.out.ext (X4.out.trans hx__)))))
               clear hK K)
            | (split
               all_goals (first
                | (refine hK _ ?_;clear hK K)
                | (apply Exists.intro
                   refine ⟨fun w__ hx__=>?_,hK _ ?_⟩
                   · have e7__:=Ext.some hx__ e7;have e8__:=Ext.some hx__ e8;have e9__:=Ext.some hx__ e9;(first | exact rfl | (go_simp;done) | (go_simp;exact rfl) | (go_at_call 54;exact ext_of hx__ (l12At_any (S:=S) (l.take (m+1)) (nth l (m+1)).under (nth l (m+1)).after _ _ (HTK.out.ext (X4.out.trans hx__)))))
                   clear hK K)))))
          all_goals (refine wpQuiet_nil ?_)
          all_goals (intro w1 hx1;clear ite__)
          all_goals have X5:=Lib.hid (X4.out.trans hx1)
          all_goals clear hx1 e7 e8 e9
          all_goals go_wp2_with fail
          all_goals first
           | (go_ret;exact ⟨ret_bool (tasksRight_falseS hlt (by have ht:=HT.out;have hk:=cmp_key HLA.out HLB.out;have hy:=HKey.out;simp only [keyOf,Label.ext_iff] at hk;go_light;simp only [tS,idOk,depI,ht,Nat.add_one_ne_zero,if_false,Nat.add_sub_cancel];grind)).symm,X5.out⟩)
           | (refine ⟨⟨m+2,by omega,by go_num,all_succ HA.out (by have ht:=HT.out;have hk:=cmp_key HLA.out HLB.out;have hy:=HKey.out;simp only [keyOf,Label.ext_iff] at hk;go_light;simp only [tS,idOk,depI,ht,Nat.add_one_ne_zero,if_false,Nat.add_sub_cancel];grind),X5.out⟩,?_⟩
              simp [intOf]
              omega)
      · obtain rfl:k=0:=by omega
        have HTK:=Lib.hid (Rd.take HR.out (Nat.zero_le l.length))
        have i5:(0:Int)≤(c:Int):=by omega
        go_wp2_with fail
        refine wp_region_ext (by kernel_rfl) (by kernel_rfl) ?_
        repeat (
         (refine wpQuiet_step (fun K hK=>?_)
          go_simp
          first
           | (refine hK _ ?_;clear hK K)
           | (apply Exists.intro
              refine ⟨fun w__ hx__=>?_,hK _ ?_⟩
              · first | exact rfl | (go_simp;done) | (go_simp;exact rfl)
              clear hK K)))
        refine wpQuiet_nil ?_
        intro w1 hx1
        have X3:=Lib.hid (X2.out.trans hx1)
        replace e2:=Ext.some hx1 e2
        replace e7:=Ext.some hx1 e7
        replace e8:=Ext.some hx1 e8
        replace e9:=Ext.some hx1 e9
        clear hx1 e0 e1
        rename World=>V3
        go_wp2_with fail
        all_goals refine wp_region_ext (by kernel_rfl) (by kernel_rfl) ?_
        all_goals have ite__:=@ite_ok
        repeat (any_goals (
         refine wpQuiet_step (fun K hK=>?_)
         go_simp
         first
          | (refine hK _ ?_;clear hK K)
          | (apply Exists.intro
             refine ⟨fun w__ hx__=>?_,hK _ ?_⟩
             · have e2__:=Ext.some hx__ e2;(first | exact rfl | (go_simp;done) | (go_simp;exact rfl))
             clear hK K)
          | (split
             all_goals (first
              | (refine hK _ ?_;clear hK K)
              | (apply Exists.intro
                 refine ⟨fun w__ hx__=>?_,hK _ ?_⟩
                 · have e2__:=Ext.some hx__ e2;(first | exact rfl | (go_simp;done) | (go_simp;exact rfl))
                 clear hK K)))))
        all_goals (refine wpQuiet_nil ?_)
        all_goals (intro w1 hx1;clear ite__)
        all_goals have X4:=Lib.hid (X3.out.trans hx1)
        all_goals replace e7:=Ext.some hx1 e7
        all_goals replace e8:=Ext.some hx1 e8
        all_goals replace e9:=Ext.some hx1 e9
        all_goals clear hx1 e2
        all_goals rename World=>V4
        all_goals go_wp2_with fail
        all_goals first
         | (go_ret;exact ⟨ret_bool (tasksRight_falseS hlt (by have ht:=HT.out;go_light;simp only [tS,idOk,depI,ht,if_true];grind)).symm,X4.out⟩)
         | skip
        all_goals refine wp_region_ext (by kernel_rfl) (by kernel_rfl) ?_
        all_goals have ite__:=@ite_ok
        repeat (any_goals (
         refine wpQuiet_step (fun K hK=>?_)
         go_simp
         first
          | (refine hK _ ?_;clear hK K)
          | (apply Exists.intro
             refine ⟨fun w__ hx__=>?_,hK _ ?_⟩
             · have e7__:=Ext.some hx__ e7;have e8__:=Ext.some hx__ e8;have e9__:=Ext.some hx__ e9;(first | exact rfl | (go_simp;done) | (go_simp;exact rfl) | (go_at_call 54;exact ext_of hx__ (l12At_any (S:=S) (l.take 0) (nth l 0).under (nth l 0).after _ _ (HTK.out.ext (X4.out.trans hx__)))))
             clear hK K)
          | (split
             all_goals (first
              | (refine hK _ ?_;clear hK K)
              | (apply Exists.intro
                 refine ⟨fun w__ hx__=>?_,hK _ ?_⟩
                 · have e7__:=Ext.some hx__ e7;have e8__:=Ext.some hx__ e8;have e9__:=Ext.some hx__ e9;(first | exact rfl | (go_simp;done) | (go_simp;exact rfl) | (go_at_call 54;exact ext_of hx__ (l12At_any (S:=S) (l.take 0) (nth l 0).under (nth l 0).after _ _ (HTK.out.ext (X4.out.trans hx__)))))
                 clear hK K)))))
        all_goals (refine wpQuiet_nil ?_)
        all_goals (intro w1 hx1;clear ite__)
        all_goals have X5:=Lib.hid (X4.out.trans hx1)
        all_goals clear hx1 e7 e8 e9
        all_goals go_wp2_with fail
        all_goals first
         | (go_ret;exact ⟨ret_bool (tasksRight_falseS hlt (by have ht:=HT.out;go_light;simp only [tS,idOk,depI,ht,if_true];grind)).symm,X5.out⟩)
         | (refine ⟨⟨1,by omega,by go_num,all_succ HA.out (by have ht:=HT.out;go_light;simp only [tS,idOk,depI,ht,if_true];grind),X5.out⟩,?_⟩
            simp [intOf]
            omega)
    · simp only [Bool.not_eq_true] at ht
      have HF:Hid (tasksRight l=false):=Lib.hid (tasksRight_falseS hlt (by simp [tS,ht]))
      go_wp2_with fail
      go_ret
      exact ⟨ret_bool HF.out.symm,X2.out⟩
  · have HF:Hid (tasksRight l=true):=Lib.hid (by rw [tasksRight_ofS fun i hi=>HA.out i (by omega)];exact decide_eq_true h96')
    go_wp2_with fail
    go_ret
    exact ⟨ret_bool HF.out.symm,HX.out⟩
end Go.Proofs.Ytlonjlaecaemgaa
