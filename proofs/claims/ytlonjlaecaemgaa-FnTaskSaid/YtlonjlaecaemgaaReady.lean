/- The walks of TaskReady, the program's and the reference's. -/
import Derived.Test.YtlonjlaecaemgaaLive
set_option maxHeartbeats 4000000
set_option maxRecDepth 50000
namespace Go.Proofs.Ytlonjlaecaemgaa
open Go.RowKit
attribute [local irreducible] wpQuiet
def readyB (l:List Task) (x:Task):Bool :=
 if x.state≠1∨x.after=0 then decide (x.state=1)
 else l.any fun y=>isTask x.under x.after y && decide ((l.find? (isTask x.under x.after)).map (·.state)=some 4)
def taskReady (l:List Task) (x:Task):Bool:=tasksRight l && taskRight x && readyB l x
theorem ready_found {l:List Task} {x:Task} (h1:x.state=1) (h2:x.after≠0) {k:Nat} (hk:k < l.length) (hp:isTask x.under x.after (nth l k)=true) (hn:∀ j,j < k→isTask x.under x.after (nth l j)=false):readyB l x=decide ((nth l k).state=4):=by
 have hf:l.find? (isTask x.under x.after)=some (nth l k):=by
  rw [List.find?_eq_some_iff_getElem]
  refine ⟨hp,k,hk,(nth_eq hk).symm,fun j hj=>?_⟩
  have:=hn j hj
  rw [nth_eq (by omega)] at this
  simpa using this
 unfold readyB
 rw [if_neg (by simp [h1,h2]),hf]
 by_cases h4:(nth l k).state=4
 · rw [decide_eq_true h4]
   exact List.any_eq_true.2 ⟨nth l k,nth_mem hk,by simp [hp,h4]⟩
 · rw [decide_eq_false h4,List.any_eq_false]
   intro y _
   simp [h4]
theorem ready_none {l:List Task} {x:Task} (h1:x.state=1) (h2:x.after≠0) (hn:∀ j,j < l.length→isTask x.under x.after (nth l j)=false):readyB l x=false:=by
 unfold readyB
 rw [if_neg (by simp [h1,h2]),List.any_eq_false]
 intro y hy
 obtain ⟨j,hj,rfl⟩:=List.getElem_of_mem hy
 have:=hn j hj
 rw [nth_eq hj] at this
 simp [this]
theorem ready_plain {l:List Task} {x:Task} (h:x.state≠1∨x.after=0):readyB l x=decide (x.state=1):=by unfold readyB;rw [if_pos h]
theorem ready_any {S S':Nat→Prop} (l:List Task) (x:Task) (v:Value) (cs:List Value) (w:World) (h:Rd ETask S w v l) (g:ETask.rel S' w cs x) :
 Calls Try.prog 59 #[v,.agg cs.toArray] w fun e w'=>e=.returned (.bool (readyB l x))∧Ext w w':=by
 have HR:=Lib.hid h
 obtain ⟨A,c,rfl,h1,h2,hk⟩:=h.open_
 unfold maxLen at h2
 have HK:=Lib.hid hk
 clear hk h
 obtain ⟨v1,rfl,_,hrd⟩:=g
 obtain ⟨A1,c1,rfl,-⟩:=hrd.form
 clear hrd
 simp only [cellsTask]
 by_cases hp:x.state≠1∨x.after=0
 · have HE:=Lib.hid (ready_plain (l:=l) hp)
   go_enter Try.func59,Try.ntmps59
   rcases hp with hp | hp
   · go_wp2_with fail
     all_goals (go_ret;exact ⟨ret_bool (by rw [HE.out];go_light;grind),(Ext.refl _).alloc _⟩)
   · go_wp2_with fail
     all_goals (go_ret;exact ⟨ret_bool (by rw [HE.out];go_light;grind),(Ext.refl _).alloc _⟩)
 · simp only [ne_eq,not_or,Classical.not_not] at hp
   obtain ⟨p1,p2⟩:=hp
   have P1:=Lib.hid p1
   have P2:=Lib.hid p2
   clear p1 p2
   go_enter Try.func59,Try.ntmps59
   go_upto_region 1 with (fail)
   obtain ⟨W,B,hW__,hB__,hxW,hbox__⟩:=box_new w #[.int .i64 x.label.level,.int .i64 x.label.set,.int .i64 x.id,.string x.owner,.int .i64 x.need,.int .i64 x.long,.int .i64 x.prio,.int .i64 x.under.level,.int .i64 x.under.set,.int .i64 x.after,.int .i64 x.born,.int .i64 x.state,.int .i64 x.start,.slice A1 x.nodes.length c1] 27
   rw [← hW__,← hB__]
   have e7:=hbox__ 7 _ rfl
   have e8:=hbox__ 8 _ rfl
   have e9:=hbox__ 9 _ rfl
   have e11:=hbox__ 11 _ rfl
   clear hW__ hB__ hbox__
   have HW:=Lib.hid hxW
   clear hxW
   have p1:=P1.out
   have p2:=P2.out
   go_wp2_with fail
   refine (taskAt_any (S:=S) l x.under x.after _ _ (HR.out.ext HW.out)).mono ?_
   rintro e w1 ⟨rfl,hx1⟩
   have X1:=Lib.hid (HW.out.trans hx1)
   clear hx1 e7 e8 e9 e11 p1 p2
   rcases idxOf_cases (isTask x.under x.after) l with ⟨hi,hn⟩ | ⟨k,hlt,hi,hq,hn⟩
   · have HI:Hid (taskIx l x.under x.after = -1):=Lib.hid hi
     have HE:=Lib.hid (ready_none P1.out P2.out hn)
     clear hi hn
     rw [HI.out]
     go_wp2_with fail
     go_ret
     exact ⟨ret_bool HE.out.symm,X1.out⟩
   · have HI:Hid (taskIx l x.under x.after=k):=Lib.hid hi
     have HE:=Lib.hid (ready_found P1.out P2.out hlt hq hn)
     obtain ⟨b,q,cs,rfl,_,⟨v2,rfl,_,_⟩,hc⟩:=HK.out k hlt
     have c11:=Ext.some X1.out (hc 11 _ rfl)
     simp only [ETask] at c11
     clear hi hq hn hc
     rw [HI.out]
     go_wp2_with fail
     go_ret
     exact ⟨ret_bool (by rw [HE.out];go_light;first | rfl | (rw [Bool.eq_iff_iff];simp)),X1.out⟩
theorem taskReady_any {S S':Nat→Prop} (l:List Task) (x:Task) (v:Value) (cs:List Value) (w:World) (h:Rd ETask S w v l) (g:ETask.rel S' w cs x) :
 Calls Try.prog 20 #[v,.agg cs.toArray] w fun e w'=>e=.returned (.bool (taskReady l x))∧Ext w w':=by
 have HR:=Lib.hid h
 obtain ⟨v1,rfl,hfit,hrd⟩:=g
 obtain ⟨A1,c1,rfl,-⟩:=hrd.form
 have HF:=Lib.hid hfit
 have HD:=Lib.hid hrd
 clear h hrd hfit
 simp only [cellsTask]
 go_enter Try.func20,Try.ntmps20
 go_upto_region 1 with (fail)
 obtain ⟨W,B,hW__,hB__,hxW,hbox__⟩:=box_new w #[.int .i64 x.label.level,.int .i64 x.label.set,.int .i64 x.id,.string x.owner,.int .i64 x.need,.int .i64 x.long,.int .i64 x.prio,.int .i64 x.under.level,.int .i64 x.under.set,.int .i64 x.after,.int .i64 x.born,.int .i64 x.state,.int .i64 x.start,.slice A1 x.nodes.length c1] 27
 rw [← hW__,← hB__]
 have e0:=hbox__ 0 _ rfl
 have e1:=hbox__ 1 _ rfl
 have e2:=hbox__ 2 _ rfl
 have e3:=hbox__ 3 _ rfl
 have e4:=hbox__ 4 _ rfl
 have e5:=hbox__ 5 _ rfl
 have e6:=hbox__ 6 _ rfl
 have e7:=hbox__ 7 _ rfl
 have e8:=hbox__ 8 _ rfl
 have e9:=hbox__ 9 _ rfl
 have e10:=hbox__ 10 _ rfl
 have e11:=hbox__ 11 _ rfl
 have e12:=hbox__ 12 _ rfl
 have e13:=hbox__ 13 _ rfl
 clear hW__ hB__ hbox__
 have HW:=Lib.hid hxW
 clear hxW
 go_wp2_with fail
 refine (tasksRight_any (S:=S) l _ _ (HR.out.ext HW.out)).mono ?_
 rintro e w1 ⟨rfl,hx1⟩
 have X1:=Lib.hid (HW.out.trans hx1)
 replace e0:=Ext.some hx1 e0
 replace e1:=Ext.some hx1 e1
 replace e2:=Ext.some hx1 e2
 replace e3:=Ext.some hx1 e3
 replace e4:=Ext.some hx1 e4
 replace e5:=Ext.some hx1 e5
 replace e6:=Ext.some hx1 e6
 replace e7:=Ext.some hx1 e7
 replace e8:=Ext.some hx1 e8
 replace e9:=Ext.some hx1 e9
 replace e10:=Ext.some hx1 e10
 replace e11:=Ext.some hx1 e11
 replace e12:=Ext.some hx1 e12
 replace e13:=Ext.some hx1 e13
 clear hx1
 by_cases ht:tasksRight l=true
 · go_wp2_with fail
   refine (taskRight_any (S:=S') x _ _ (rel_Task HF.out (HD.out.ext X1.out))).mono ?_
   rintro e w2 ⟨rfl,hx2⟩
   have X2:=Lib.hid (X1.out.trans hx2)
   replace e0:=Ext.some hx2 e0
   replace e1:=Ext.some hx2 e1
   replace e2:=Ext.some hx2 e2
   replace e3:=Ext.some hx2 e3
   replace e4:=Ext.some hx2 e4
   replace e5:=Ext.some hx2 e5
   replace e6:=Ext.some hx2 e6
   replace e7:=Ext.some hx2 e7
   replace e8:=Ext.some hx2 e8
   replace e9:=Ext.some hx2 e9
   replace e10:=Ext.some hx2 e10
   replace e11:=Ext.some hx2 e11
   replace e12:=Ext.some hx2 e12
   replace e13:=Ext.some hx2 e13
   clear hx2
   by_cases hr:taskRight x=true
   · have HE:Hid (taskReady l x=readyB l x):=Lib.hid (by simp [taskReady,ht,hr])
     go_wp2_with fail
     refine (ready_any (S:=S) (S':=S') l x _ _ _ (HR.out.ext X2.out) (rel_Task HF.out (HD.out.ext X2.out))).mono ?_
     rintro e w3 ⟨rfl,hx3⟩
     have X3:=Lib.hid (X2.out.trans hx3)
     clear hx3 e0 e1 e2 e3 e4 e5 e6 e7 e8 e9 e10 e11 e12 e13
     go_wp2_with fail
     go_ret
     exact ⟨ret_bool HE.out.symm,X3.out⟩
   · have HE:Hid (taskReady l x=false):=Lib.hid (by simp [taskReady,hr])
     simp only [Bool.not_eq_true] at hr
     go_wp2_with fail
     go_ret
     exact ⟨ret_bool HE.out.symm,X2.out⟩
 · have HE:Hid (taskReady l x=false):=Lib.hid (by simp [taskReady,ht])
   simp only [Bool.not_eq_true] at ht
   go_wp2_with fail
   go_ret
   exact ⟨ret_bool HE.out.symm,X1.out⟩
end Go.Proofs.Ytlonjlaecaemgaa
