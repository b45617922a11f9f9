/- The walk of TaskRight, the program's: it answers taskRight. -/
import Derived.Test.YtoblacfjmcpbmaaGreatTaskR
import Derived.Test.YtoblacfjmcpbmaaGreatTasksP
set_option maxHeartbeats 8000000
set_option maxRecDepth 50000
namespace Go.Proofs.YtoblacfjmcpbmaaGreat
open Go.RowKit
attribute [local irreducible] wpQuiet
theorem len_pos {α:Type} {l:List α}:decide (0 < l.length) = !decide (l = []):=by cases l <;> simp
theorem hasPlace_any (c0 c1 c2 c3 c4 c5 c6 c7 c8 c9 c10 c11 c12:Value) (A:Option Addr) (n c:Nat) (w:World) :
 Calls Tryz.prog 118 #[.agg #[c0,c1,c2,c3,c4,c5,c6,c7,c8,c9,c10,c11,c12,.slice A n c]] w fun e w'=>e=.returned (.bool (decide (0 < n)))∧Ext w w':=by
 go_enter Tryz.func118,Tryz.ntmps118
 go_wp2
 go_ret
 exact ⟨ret_bool (by simp),(Ext.refl _).alloc _⟩
theorem taskRight_any {S:Nat→Prop} (x:Task) (cs:List Value) (w:World) (h:ETask.rel S w cs x) :
 Calls Tryz.prog 77 #[.agg cs.toArray] w fun e w'=>e=.returned (.bool (taskRight x))∧Ext w w':=by
 obtain ⟨v,rfl,hi,hr⟩:=h
 obtain ⟨A,c,rfl,g1,g2⟩:=hr.form
 unfold maxLen at g2
 have HR:=Lib.hid hr
 have HI:=Lib.hid hi
 clear hr hi
 have HO:Hid (Str x.owner):=Lib.hid (by have hf:=HI.out;simp only [FitTask] at hf;simp only [hf])
 simp only [cellsTask]
 go_enter Tryz.func77,Tryz.ntmps77
 go_upto_region 1 with (fail)
 obtain ⟨W,B,hW,hB,hx0,hbox⟩:=box_new w #[.int .i64 x.label.level,.int .i64 x.label.set,.int .i64 x.id,.string x.owner,.int .i64 x.need,.int .i64 x.long,.int .i64 x.prio,.int .i64 x.under.level,.int .i64 x.under.set,.int .i64 x.after,.int .i64 x.born,.int .i64 x.state,.int .i64 x.start,.slice A x.nodes.length c] 46
 rw [← hW,← hB]
 have AX:Hid (Blk W B 46 #[.int .i64 x.label.level,.int .i64 x.label.set,.int .i64 x.id,.string x.owner,.int .i64 x.need,.int .i64 x.long,.int .i64 x.prio,.int .i64 x.under.level,.int .i64 x.under.set,.int .i64 x.after,.int .i64 x.born,.int .i64 x.state,.int .i64 x.start,.slice A x.nodes.length c]):=Lib.hid (by rw [hW,hB];exact Blk.new w _ _)
 have XX:=Lib.hid hx0
 clear hW hB hbox hx0
 have ac:=AX.out.cell
 go_wp2_with (first | (go_at_call 30;refine (within_any _ _ _ _).mono ?_;rintro e w' ⟨rfl,rfl⟩) | (go_at_call 126;refine (isTime_any _ _).mono ?_;rintro e w' ⟨rfl,rfl⟩) | (go_at_call 58;refine (isNow_any _ _).mono ?_;rintro e w' ⟨rfl,rfl⟩) | (go_at_call 66;refine (isWork_any _ _ _ _).mono ?_;rintro e w' ⟨rfl,rfl⟩) | (go_at_call 65;refine (nameRight_any _ _ HO.out).mono ?_;rintro e w' ⟨rfl,rfl⟩) | (go_at_call 67;(with_reducible refine (labelRight_any (S:=S) x.label [.int .i64 x.label.level,.int .i64 x.label.set] _ (rel_Label (by have hf:=HI.out;simp only [FitTask] at hf;simp only [FitLabel,hf,and_self]))).mono ?_);rintro e w1 ⟨rfl,hx⟩;replace AX:=Lib.hid (AX.out.ext hx);replace XX:=Lib.hid (XX.out.trans hx);clear hx ac;have ac:=AX.out.cell) | (go_at_call 125;(with_reducible refine (implBelow_any (S:=S) (S':=S) x.under x.label [.int .i64 x.under.level,.int .i64 x.under.set] [.int .i64 x.label.level,.int .i64 x.label.set] _ (rel_Label (by have hf:=HI.out;simp only [FitTask] at hf;simp only [FitLabel,hf,and_self])) (rel_Label (by have hf:=HI.out;simp only [FitTask] at hf;simp only [FitLabel,hf,and_self]))).mono ?_);rintro e w1 ⟨rfl,hx⟩;replace AX:=Lib.hid (AX.out.ext hx);replace XX:=Lib.hid (XX.out.trans hx);clear hx ac;have ac:=AX.out.cell) | (go_at_call 118;(with_reducible refine (hasPlace_any _ _ _ _ _ _ _ _ _ _ _ _ _ A x.nodes.length c _).mono ?_);rintro e w1 ⟨rfl,hx⟩;replace AX:=Lib.hid (AX.out.ext hx);replace XX:=Lib.hid (XX.out.trans hx);clear hx ac;have ac:=AX.out.cell) | (go_at_call 127;(with_reducible refine (nodesRight1_any x.nodes _ _ _ (HR.out.ext XX.out)).mono ?_);rintro e w1 ⟨rfl,hx⟩;replace XX:=Lib.hid (XX.out.trans hx);clear hx ac AX))
 all_goals (go_ret;exact ⟨ret_bool (by go_light;(try clear ac);(try clear AX);clear XX HI HO HR;simp_all [taskRight,underOk,placeOk,Label.ext_iff,len_pos];try first | omega | exact Bool.and_comm _ _ | (rw [decide_eq_false (show ¬ x.id≤x.after by omega),Bool.not_false,Bool.true_and];exact Bool.and_comm _ _)),XX.out⟩)
end Go.Proofs.YtoblacfjmcpbmaaGreat
/- The walk of impl.TasksRight. The walks of LiveOf,the program's and the reference's. -/
namespace Go.Proofs.YtoblacfjmcpbmaaGreat
open Go.RowKit
attribute [local irreducible] wpQuiet
theorem tasksRight_any {S:Nat→Prop} (l:List Task) (v:Value) (w:World) (h:Rd ETask S w v l) :
 Calls Tryz.prog 31 #[v] w fun e w'=>e=.returned (.bool (tasksRight l))∧Ext w w':=by
 have HR:=Lib.hid h
 obtain ⟨A,c,rfl,h1,h2,hk⟩:=h.open_
 unfold maxLen at h2
 have HK:=Lib.hid hk
 clear hk h
 by_cases h96:96 < l.length
 · have HN:=Lib.hid (tasksRight_long h96)
   go_enter Tryz.func31,Tryz.ntmps31
   go_wp2_with fail
   go_ret
   exact ⟨ret_bool HN.out.symm,Ext.refl _⟩
 have h96':l.length≤96:=by omega
 clear h96
 go_enter Tryz.func31,Tryz.ntmps31
 go_wp2_with fail
 go_loopw [12] (fun i w'=>∃ k:Nat,k≤l.length∧i=.int .i64 k∧(∀ j,j < k→tI l j=true)∧Ext w w') (fun i _=>l.length - (intOf i).toNat)
 case atStart=>exact ⟨0,by omega,rfl,fun j hj=>by omega,Ext.refl _⟩
 case round =>
  obtain ⟨k,hk1,rfl,hall,hx⟩:=hrel
  have HA:=Lib.hid hall
  have HX:=Lib.hid hx
  clear hall
  by_cases hlt:k < l.length
  · obtain ⟨b,q,cs,rfl,_,⟨v1,rfl,hfit,hrd⟩,hc⟩:=HK.out k hlt
    obtain ⟨A1,c1',rfl,-⟩:=hrd.form
    have HFit:=Lib.hid hfit
    have HRD:=Lib.hid hrd
    have c0:=Ext.some hx (hc 0 _ rfl)
    have c1:=Ext.some hx (hc 1 _ rfl)
    have c2:=Ext.some hx (hc 2 _ rfl)
    have c3:=Ext.some hx (hc 3 _ rfl)
    have c4:=Ext.some hx (hc 4 _ rfl)
    have c5:=Ext.some hx (hc 5 _ rfl)
    have c6:=Ext.some hx (hc 6 _ rfl)
    have c7:=Ext.some hx (hc 7 _ rfl)
    have c8:=Ext.some hx (hc 8 _ rfl)
    have c9:=Ext.some hx (hc 9 _ rfl)
    have c10:=Ext.some hx (hc 10 _ rfl)
    have c11:=Ext.some hx (hc 11 _ rfl)
    have c12:=Ext.some hx (hc 12 _ rfl)
    have c13:=Ext.some hx (hc 13 _ rfl)
    simp only [ETask,Nat.add_zero] at c0 c1 c2 c3 c4 c5 c6 c7 c8 c9 c10 c11 c12 c13
    clear hc hfit hrd hx
    go_wp2_with fail
    obtain ⟨W,B,hW__,hB__,hxW,hbox__⟩:=box_new wr #[.int .i64 (nth l k).label.level,.int .i64 (nth l k).label.set,.int .i64 (nth l k).id,.string (nth l k).owner,.int .i64 (nth l k).need,.int .i64 (nth l k).long,.int .i64 (nth l k).prio,.int .i64 (nth l k).under.level,.int .i64 (nth l k).under.set,.int .i64 (nth l k).after,.int .i64 (nth l k).born,.int .i64 (nth l k).state,.int .i64 (nth l k).start,.slice A1 (nth l k).nodes.length c1'] 46
    rw [← hW__,← hB__]
    have e0:=hbox__ 0 _ rfl
    have e1:=hbox__ 1 _ rfl
    have e2:=hbox__ 2 _ rfl
    have e7:=hbox__ 7 _ rfl
    have e8:=hbox__ 8 _ rfl
    have e9:=hbox__ 9 _ rfl
    clear hW__ hB__ hbox__
    have HW:=Lib.hid (HX.out.trans hxW)
    refine (taskRight_any (S:=S) (nth l k) _ _ (rel_Task HFit.out (HRD.out.ext HW.out))).mono ?_
    rintro e w2 ⟨rfl,hx2⟩
    have X2:=Lib.hid (HW.out.trans hx2)
    replace e0:=Ext.some hx2 e0
    replace e1:=Ext.some hx2 e1
    replace e2:=Ext.some hx2 e2
    replace e7:=Ext.some hx2 e7
    replace e8:=Ext.some hx2 e8
    replace e9:=Ext.some hx2 e9
    clear hx2 hxW c0 c1 c2 c3 c4 c5 c6 c7 c8 c9 c10 c11 c12 c13
    by_cases ht:taskRight (nth l k)=true
    · have HT:=Lib.hid ht
      by_cases h0:0 < k
      · obtain ⟨m,rfl⟩:∃ m,k=m+1:=⟨k - 1,by omega⟩
        obtain ⟨b',q',cs',hbo,_,⟨v',rfl,hfit',_⟩,hd⟩:=HK.out m (by omega)
        cases hbo
        have HF1:=Lib.hid hfit'
        have d0:=Ext.some X2.out (hd 0 _ rfl)
        have d1:=Ext.some X2.out (hd 1 _ rfl)
        have d2:=Ext.some X2.out (hd 2 _ rfl)
        simp only [ETask,Nat.add_zero] at d0 d1 d2
        have ha:=HA.out m (by omega)
        simp only [tI,Bool.and_eq_true] at ha
        obtain ⟨p1,p2⟩:=taskRight_id ha.1.1
        clear hd hfit' ha
        have i0:(0:Int)≤(m:Int)+1:=by omega
        have i1:(m:Int)+1 < (l.length:Int):=by omega
        have i2:((m:Int)+1).toNat=m+1:=by omega
        have i3:IntKind.i64.wrap (m:Int)=(m:Int):=IntWalk.i64_in _ (by omega)
        have i4:m < l.length:=by omega
        have HFa:Hid (FitLabel (nth l m).label):=Lib.hid ⟨HF1.out.1,HF1.out.2.1⟩
        have HFb:Hid (FitLabel (nth l (m+1)).label):=Lib.hid ⟨HFit.out.1,HFit.out.2.1⟩
        go_wp2_with fail
        refine wp_region_ext (by kernel_rfl) (by kernel_rfl) ?_
        repeat (
         (refine wpQuiet_step (fun K hK=>?_)
          go_simp
          first
           | (refine hK _ ?_;clear hK K)
           | (apply Exists.intro
              refine ⟨fun w__ hx__=>?_,hK _ ?_⟩
              · have d0__:=Ext.some hx__ d0;have d1__:=Ext.some hx__ d1;have e0__:=Ext.some hx__ e0;have e1__:=Ext.some hx__ e1;first | exact rfl | (go_simp;done) | (go_simp;exact rfl) | (go_at_call 75;exact ext_of hx__ (compareLabels_any (S:=S) (S':=S) (nth l m).label (nth l (m+1)).label _ _ _ (rel_Label HFa.out) (rel_Label HFb.out)))
              clear hK K)))
        refine wpQuiet_nil ?_
        intro w1 hx1
        have X3:=Lib.hid (X2.out.trans hx1)
        replace d2:=Ext.some hx1 d2
        replace e2:=Ext.some hx1 e2
        replace e7:=Ext.some hx1 e7
        replace e8:=Ext.some hx1 e8
        replace e9:=Ext.some hx1 e9
        clear hx1 d0 d1 e0 e1
        clear i2 i3
        go_wp2_with (go_at_call 24;(with_reducible refine (taskAt_any (S:=S) l (nth l (m+1)).under (nth l (m+1)).after _ _ (HR.out.ext X3.out)).mono ?_);rintro e w4 ⟨rfl,hx4⟩;have X4:=Lib.hid (X3.out.trans hx4);clear hx4)
        all_goals first
         | (go_ret;exact ⟨ret_bool (tasksRight_false hlt (by have ht:=HT.out;go_light;simp only [tI,idOk,depI,ht,Nat.add_one_ne_zero,if_false,Nat.add_sub_cancel];grind)).symm,by first | exact X4.out | exact X3.out⟩)
         | (refine ⟨⟨m+2,by omega,by go_num,all_succ HA.out (by have ht:=HT.out;go_light;simp only [tI,idOk,depI,ht,Nat.add_one_ne_zero,if_false,Nat.add_sub_cancel];grind),by first | exact X4.out | exact X3.out⟩,?_⟩
            simp [intOf]
            omega)
      · obtain rfl:k=0:=by omega
        clear e0 e1
        go_wp2_with (go_at_call 24;(with_reducible refine (taskAt_any (S:=S) l (nth l 0).under (nth l 0).after _ _ (HR.out.ext X2.out)).mono ?_);rintro e w4 ⟨rfl,hx4⟩;have X4:=Lib.hid (X2.out.trans hx4);clear hx4)
        all_goals first
         | (go_ret;exact ⟨ret_bool (tasksRight_false hlt (by have ht:=HT.out;go_light;simp only [tI,idOk,depI,ht,if_true];grind)).symm,by first | exact X4.out | exact X2.out⟩)
         | (refine ⟨⟨1,by omega,by go_num,all_succ HA.out (by have ht:=HT.out;go_light;simp only [tI,idOk,depI,ht,if_true];grind),by first | exact X4.out | exact X2.out⟩,?_⟩
            simp [intOf]
            omega)
    · simp only [Bool.not_eq_true] at ht
      have HF:Hid (tasksRight l=false):=Lib.hid (tasksRight_false hlt (by simp [tI,ht]))
      go_wp2_with fail
      go_ret
      exact ⟨ret_bool HF.out.symm,X2.out⟩
  · have HF:Hid (tasksRight l=true):=Lib.hid (by rw [tasksRight_of fun i hi=>HA.out i (by omega)];exact decide_eq_true h96')
    go_wp2_with fail
    go_ret
    exact ⟨ret_bool HF.out.symm,HX.out⟩
end Go.Proofs.YtoblacfjmcpbmaaGreat
namespace Go.Proofs.YtoblacfjmcpbmaaGreat
open Go.RowKit
attribute [local irreducible] wpQuiet
def liveB (n:Int):Bool:=isB n 1 3
def isLive (a:Label) (x:Task):Bool:=decide (x.label=a) && liveB x.state
def liveN (l:List Task) (a:Label):Nat:=l.countP (isLive a)
theorem liveN_succ {l:List Task} {a:Label} {k:Nat} (hk:k < l.length):liveN (l.take (k+1)) a=liveN (l.take k) a+if isLive a (nth l k)=true then 1 else 0:=by
 have h:l.take (k+1)=l.take k ++ [nth l k]:=by
  rw [List.take_succ_eq_append_getElem hk,nth_eq hk]
 rw [h]
 simp [liveN,List.countP_append,List.countP_cons]
theorem liveN_le (l:List Task) (a:Label) (k:Nat):liveN (l.take k) a≤k:=Nat.le_trans List.countP_le_length (List.length_take_le _ _)
theorem isLive_iff {a:Label} {x:Task}:isLive a x=(decide (x.label.level=a.level) && decide (x.label.set=a.set) && liveB x.state):=by
 obtain ⟨⟨l,s⟩,i,_⟩:=x
 obtain ⟨m,t⟩:=a
 simp [isLive]
theorem isLive_any (l s i:Int) (o:ByteArray) (ne lo pr ul us af bo st sa:Int) (A:Option Addr) (n c:Nat) (w:World) :
 Calls Tryz.prog 48 #[.agg #[.int .i64 l,.int .i64 s,.int .i64 i,.string o,.int .i64 ne,.int .i64 lo,.int .i64 pr,.int .i64 ul,.int .i64 us,.int .i64 af,.int .i64 bo,.int .i64 st,.int .i64 sa,.slice A n c]] w fun e w'=>e=.returned (.bool (liveB st))∧Ext w w':=by
 go_enter Tryz.func48,Tryz.ntmps48
 go_wp2_with (go_at_call 30;refine (within_any _ _ _ _).mono ?_;rintro e w' ⟨rfl,rfl⟩)
 go_ret
 exact ⟨rfl,(Ext.refl _).alloc _⟩
theorem liveOfN_any {S:Nat→Prop} (l:List Task) (a:Label) (v:Value) (w:World) (h:Rd ETask S w v l) (hl:l.length≤96) :
 Calls Tryz.prog 25 #[v,.agg #[.int .i64 a.level,.int .i64 a.set]] w fun e w'=>e=.returned (.int .i64 (liveN l a))∧Ext w w':=by
 obtain ⟨A,c,rfl,h1,h2,hk⟩:=h.open_
 unfold maxLen at h2
 have HK:=Lib.hid hk
 clear hk h
 go_enter Tryz.func25,Tryz.ntmps25
 go_upto_region 1 with (fail)
 obtain ⟨W,B,hW__,hB__,hxW,hbox__⟩:=box_new w #[.int .i64 a.level,.int .i64 a.set] 24
 rw [← hW__,← hB__]
 have b0:=hbox__ 0 _ rfl
 have b1:=hbox__ 1 _ rfl
 clear hW__ hB__ hbox__
 have HB0:=Lib.hid b0
 have HB1:=Lib.hid b1
 have HW:=Lib.hid hxW
 clear b0 b1 hxW
 go_wp2_with fail
 go_loopw [5,10] (fun n i w'=>∃ k:Nat,k≤l.length∧i=.int .i64 k∧n=.int .i64 (liveN (l.take k) a)∧Ext W w') (fun _ i _=>l.length - (intOf i).toNat)
 case atStart=>exact ⟨0,by omega,rfl,rfl,Ext.refl _⟩
 case round =>
  obtain ⟨k,hk1,rfl,rfl,hx⟩:=hrel
  have HX:=Lib.hid hx
  by_cases hlt:k < l.length
  · obtain ⟨b,q,cs,rfl,_,⟨v1,rfl,hfit,hrd⟩,hc⟩:=HK.out k hlt
    obtain ⟨A1,c1',rfl,-⟩:=hrd.form
    have hxx:=HW.out.trans hx
    have c0:=Ext.some hxx (hc 0 _ rfl)
    have c1:=Ext.some hxx (hc 1 _ rfl)
    have c2:=Ext.some hxx (hc 2 _ rfl)
    have c3:=Ext.some hxx (hc 3 _ rfl)
    have c4:=Ext.some hxx (hc 4 _ rfl)
    have c5:=Ext.some hxx (hc 5 _ rfl)
    have c6:=Ext.some hxx (hc 6 _ rfl)
    have c7:=Ext.some hxx (hc 7 _ rfl)
    have c8:=Ext.some hxx (hc 8 _ rfl)
    have c9:=Ext.some hxx (hc 9 _ rfl)
    have c10:=Ext.some hxx (hc 10 _ rfl)
    have c11:=Ext.some hxx (hc 11 _ rfl)
    have c12:=Ext.some hxx (hc 12 _ rfl)
    have c13:=Ext.some hxx (hc 13 _ rfl)
    simp only [ETask,Nat.add_zero] at c0 c1 c2 c3 c4 c5 c6 c7 c8 c9 c10 c11 c12 c13
    have d0:=fun o:Obj=>Ext.some (hx.alloc o) HB0.out
    have d1:=fun o:Obj=>Ext.some (hx.alloc o) HB1.out
    have HS:=Lib.hid (liveN_succ (a:=a) hlt)
    have hle:=liveN_le l a k
    clear hc hfit hrd hx hxx
    generalize hn:liveN (l.take k) a=n at *
    have HN:=Lib.hid hn
    clear hn
    have ite__:=@ite_ok
    go_wp2_with (go_at_call 48;refine (isLive_any _ _ _ _ _ _ _ _ _ _ _ _ _ _ _ _ _).mono ?_;rintro e w2 ⟨rfl,hx2⟩;have X2:=Lib.hid ((HX.out.alloc _).trans hx2);clear hx2)
    all_goals
     refine ⟨⟨k+1,by omega,by go_num,by rw [HS.out,isLive_iff];clear ite__;go_light;simp [*],by first | exact X2.out | exact HX.out.alloc _⟩,?_⟩
     simp [intOf]
     omega
  · obtain rfl:k=l.length:=by omega
    go_wp2_with fail
    go_ret
    exact ⟨ret_int (by rw [List.take_length]),HW.out.trans HX.out⟩
end Go.Proofs.YtoblacfjmcpbmaaGreat
/- The walks of TaskReady,the program's and the reference's. -/
namespace Go.Proofs.YtoblacfjmcpbmaaGreat
open Go.RowKit
attribute [local irreducible] wpQuiet
def readyB (l:List Task) (x:Task):Bool :=
 if x.state≠1∨x.after=0 then decide (x.state=1)
 else l.any fun y=>isTask x.under x.after y && decide ((l.find? (isTask x.under x.after)).map (·.state)=some 4)
theorem ready_found {l:List Task} {x:Task} (h1:x.state=1) (h2:x.after≠0) {k:Nat} (hk:k < l.length) (hp:isTask x.under x.after (nth l k)=true) (hn:∀ j,j < k→isTask x.under x.after (nth l j)=false):readyB l x=decide ((nth l k).state=4):=by
 have hf:l.find? (isTask x.under x.after)=some (nth l k):=by
  rw [List.find?_eq_some_iff_getElem]
  refine ⟨hp,k,hk,(nth_eq hk).symm,fun j hj=>?_⟩
  have:=hn j hj
  rw [nth_eq (by omega)] at this
  simpa using this
 unfold readyB
 rw [if_neg (by simp [h1,h2]),hf]
 by_cases h4:(nth l k).state=4
 · rw [decide_eq_true h4]
   exact List.any_eq_true.2 ⟨nth l k,nth_mem hk,by simp [hp,h4]⟩
 · rw [decide_eq_false h4,List.any_eq_false]
   intro y _
   simp [h4]
theorem ready_none {l:List Task} {x:Task} (h1:x.state=1) (h2:x.after≠0) (hn:∀ j,j < l.length→isTask x.under x.after (nth l j)=false):readyB l x=false:=by
 unfold readyB
 rw [if_neg (by simp [h1,h2]),List.any_eq_false]
 intro y hy
 obtain ⟨j,hj,rfl⟩:=List.getElem_of_mem hy
 have:=hn j hj
 rw [nth_eq hj] at this
 simp [this]
theorem ready_plain {l:List Task} {x:Task} (h:x.state≠1∨x.after=0):readyB l x=decide (x.state=1):=by unfold readyB;rw [if_pos h]
theorem ready_any {S S':Nat→Prop} (l:List Task) (x:Task) (v:Value) (cs:List Value) (w:World) (h:Rd ETask S w v l) (g:ETask.rel S' w cs x) :
 Calls Tryz.prog 83 #[v,.agg cs.toArray] w fun e w'=>e=.returned (.bool (readyB l x))∧Ext w w':=by
 have HR:=Lib.hid h
 obtain ⟨A,c,rfl,h1,h2,hk⟩:=h.open_
 unfold maxLen at h2
 have HK:=Lib.hid hk
 clear hk h
 obtain ⟨v1,rfl,_,hrd⟩:=g
 obtain ⟨A1,c1,rfl,-⟩:=hrd.form
 clear hrd
 simp only [cellsTask]
 by_cases hp:x.state≠1∨x.after=0
 · have HE:=Lib.hid (ready_plain (l:=l) hp)
   go_enter Tryz.func83,Tryz.ntmps83
   rcases hp with hp | hp
   · go_wp2_with fail
     all_goals (go_ret;exact ⟨ret_bool (by rw [HE.out];go_light;grind),(Ext.refl _).alloc _⟩)
   · go_wp2_with fail
     all_goals (go_ret;exact ⟨ret_bool (by rw [HE.out];go_light;grind),(Ext.refl _).alloc _⟩)
 · simp only [ne_eq,not_or,Classical.not_not] at hp
   obtain ⟨p1,p2⟩:=hp
   have P1:=Lib.hid p1
   have P2:=Lib.hid p2
   clear p1 p2
   go_enter Tryz.func83,Tryz.ntmps83
   go_upto_region 1 with (fail)
   obtain ⟨W,B,hW__,hB__,hxW,hbox__⟩:=box_new w #[.int .i64 x.label.level,.int .i64 x.label.set,.int .i64 x.id,.string x.owner,.int .i64 x.need,.int .i64 x.long,.int .i64 x.prio,.int .i64 x.under.level,.int .i64 x.under.set,.int .i64 x.after,.int .i64 x.born,.int .i64 x.state,.int .i64 x.start,.slice A1 x.nodes.length c1] 46
   rw [← hW__,← hB__]
   have e7:=hbox__ 7 _ rfl
   have e8:=hbox__ 8 _ rfl
   have e9:=hbox__ 9 _ rfl
   have e11:=hbox__ 11 _ rfl
   clear hW__ hB__ hbox__
   have HW:=Lib.hid hxW
   clear hxW
   have p1:=P1.out
   have p2:=P2.out
   go_wp2_with fail
   refine (taskAt_any (S:=S) l x.under x.after _ _ (HR.out.ext HW.out)).mono ?_
   rintro e w1 ⟨rfl,hx1⟩
   have X1:=Lib.hid (HW.out.trans hx1)
   clear hx1 e7 e8 e9 e11 p1 p2
   rcases idxOf_cases (isTask x.under x.after) l with ⟨hi,hn⟩ | ⟨k,hlt,hi,hq,hn⟩
   · have HI:Hid (taskIx l x.under x.after = -1):=Lib.hid hi
     have HE:=Lib.hid (ready_none P1.out P2.out hn)
     clear hi hn
     rw [HI.out]
     go_wp2_with fail
     go_ret
     exact ⟨ret_bool HE.out.symm,X1.out⟩
   · have HI:Hid (taskIx l x.under x.after=k):=Lib.hid hi
     have HE:=Lib.hid (ready_found P1.out P2.out hlt hq hn)
     obtain ⟨b,q,cs,rfl,_,⟨v2,rfl,_,_⟩,hc⟩:=HK.out k hlt
     have c11:=Ext.some X1.out (hc 11 _ rfl)
     simp only [ETask] at c11
     clear hi hq hn hc
     rw [HI.out]
     go_wp2_with fail
     go_ret
     exact ⟨ret_bool (by rw [HE.out];go_light;first | rfl | (rw [Bool.eq_iff_iff];simp)),X1.out⟩
end Go.Proofs.YtoblacfjmcpbmaaGreat
