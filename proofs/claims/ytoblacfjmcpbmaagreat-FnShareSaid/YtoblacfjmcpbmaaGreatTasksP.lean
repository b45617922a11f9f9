/- The walks of the search for a task: l12At and taskAt. TasksRight as plain Lean: what the program asks and what the reference asks say the same. -/
import Derived.Test.YtoblacfjmcpbmaaGreatOrdU
import Derived.Test.YtoblacfjmcpbmaaGreatTaskR
set_option maxHeartbeats 4000000
namespace Go.Proofs.YtoblacfjmcpbmaaGreat
open Go.RowKit
attribute [local irreducible] wpQuiet
set_option maxRecDepth 50000 in
theorem indexFunc_Task {S:Nat→Prop} (l:List Task) (p:Task→Bool) (v:Value) (f:Nat) (caps:Array Value) (w:World) (h:Rd ETask S w v l) (hcall:∀ (args:Array Value) (W:World),(callFunc f args).run Tryz.prog W=.ok (.enter f args) W)
 (hf:∀ (cs:List Value) (x:Task) (w1:World),Ext w w1→ETask.rel S w1 cs x→Calls Tryz.prog f (#[.agg cs.toArray] ++ caps) w1 fun e w'=>e=.returned (.bool (p x))∧Ext w1 w') :
 Calls Tryz.prog 68 #[v,.func (.func f) #[] caps] w fun e w'=>e=.returned (.int .i64 (idxOf p l))∧Ext w w':=by
 obtain ⟨A,c,rfl,h1,h2,hk⟩:=h.open_
 unfold maxLen at h2
 have HK:=Lib.hid hk
 have HF:=Lib.hid hf
 clear hk h hf
 go_enter Tryz.func68,Tryz.ntmps68
 go_wp2_with fail
 go_loopw [8] (fun i w'=>∃ k:Nat,k≤l.length∧i=.int .i64 k∧(∀ j,j < k→p (nth l j)=false)∧Ext w w') (fun i _=>l.length - (intOf i).toNat)
 case atStart=>exact ⟨0,by omega,rfl,fun j hj=>by omega,Ext.refl _⟩
 case round =>
  obtain ⟨k,hk1,rfl,hall,hx⟩:=hrel
  have HA:=Lib.hid hall
  have HX:=Lib.hid hx
  clear hall
  by_cases hlt:k < l.length
  · obtain ⟨b,o,cs,rfl,hb,hr,hc⟩:=HK.out k hlt
    have HR:=Lib.hid (ETask.keep (hx.same S) hr)
    have HC:=Lib.hid (hx.range hc)
    have HI:Hid ((Tryz.prog.info? 46).map (·.size)=some cs.length):=Lib.hid (by rw [ETask.len hr];kernel_rfl)
    clear hr hc hx
    by_cases hp:p (nth l k)=true
    · have HE:Hid (idxOf p l=k):=Lib.hid (idxOf_some hlt HA.out hp)
      go_wp2_with (first | (refine wpList_load_mid rfl 46 _ rfl b (o+k * 14) rfl cs _ HC.out Tryz.underlying46 rfl HI.out ?_) | ((with_reducible refine (HF.out cs (nth l k) _ HX.out HR.out).mono ?_);rintro e w1 ⟨rfl,hx1⟩;have HX1:=Lib.hid hx1;clear hx1))
      go_ret
      exact ⟨ret_int HE.out.symm,HX.out.trans HX1.out⟩
    · simp only [Bool.not_eq_true] at hp
      have HE:=Lib.hid (all_succ HA.out hp)
      go_wp2_with (first | (refine wpList_load_mid rfl 46 _ rfl b (o+k * 14) rfl cs _ HC.out Tryz.underlying46 rfl HI.out ?_) | ((with_reducible refine (HF.out cs (nth l k) _ HX.out HR.out).mono ?_);rintro e w1 ⟨rfl,hx1⟩;have HX1:=Lib.hid hx1;clear hx1))
      go_roundw
      case rel=>exact ⟨k+1,by omega,by go_num,HE.out,HX.out.trans HX1.out⟩
      case measure=>simp [intOf];omega
  · have HE:Hid (idxOf p l = -1):=Lib.hid (idxOf_none fun j hj=>HA.out j (by omega))
    go_wp2_with fail
    go_ret
    exact ⟨ret_int HE.out.symm,HX.out⟩
theorem indexFunc_Task_2 {S:Nat→Prop} (l:List Task) (p:Task→Bool) (v:Value) (f:Nat) (c1 c2:Value) (w:World) (h:Rd ETask S w v l) (hcall:∀ (args:Array Value) (W:World),(callFunc f args).run Tryz.prog W=.ok (.enter f args) W)
 (hf:∀ (cs:List Value) (x:Task) (w1:World),Ext w w1→ETask.rel S w1 cs x→Calls Tryz.prog f #[.agg cs.toArray,c1,c2] w1 fun e w'=>e=.returned (.bool (p x))∧Ext w1 w') :
 Calls Tryz.prog 68 #[v,.func (.func f) #[] #[c1,c2]] w fun e w'=>e=.returned (.int .i64 (idxOf p l))∧Ext w w' :=
 indexFunc_Task l p v f #[c1,c2] w h hcall fun cs x w1 hx hr=>by rw [show (#[.agg cs.toArray] ++ #[c1,c2]:Array Value) = #[.agg cs.toArray,c1,c2] from rfl];exact hf cs x w1 hx hr
def isTask (a:Label) (n:Int) (x:Task):Bool:=decide (x.label=a) && decide (x.id=n)
theorem isTask_iff {a:Label} {n:Int} {x:Task}:isTask a n x=(decide (x.label.level=a.level) && decide (x.label.set=a.set) && decide (x.id=n)):=by
 obtain ⟨⟨l,s⟩,i,_⟩:=x
 obtain ⟨m,t⟩:=a
 simp [isTask]
def taskIx (l:List Task) (a:Label) (n:Int):Int:=idxOf (isTask a n) l
theorem call_taskAt1:∀ (args:Array Value) (W:World),(callFunc 69 args).run Tryz.prog W=.ok (.enter 69 args) W:=by
 intro args W
 go_simp
theorem taskAt1_any {S:Nat→Prop} (x:Task) (a:Label) (n:Int) (cs:List Value) (B:Nat) (w:World) (h:ETask.rel S w cs x) (d0:w.cell? ⟨B,0,none⟩=some (.int .i64 a.level)) (d1:w.cell? ⟨B,1,none⟩=some (.int .i64 a.set)) (d2:w.cell? ⟨B+1,0,none⟩=some (.int .i64 n)) :
 Calls Tryz.prog 69 #[.agg cs.toArray,.pointer (some ⟨B,0,none⟩),.pointer (some ⟨B+1,0,none⟩)] w fun e w'=>e=.returned (.bool (isTask a n x))∧Ext w w':=by
 obtain ⟨v1,rfl,hi,hr⟩:=h
 obtain ⟨A,c,rfl,-⟩:=hr.form
 clear hi hr
 have d0':=fun ob:Obj=>Ext.some ((Ext.refl w).alloc ob) d0
 have d1':=fun ob:Obj=>Ext.some ((Ext.refl w).alloc ob) d1
 have d2':=fun ob:Obj=>Ext.some ((Ext.refl w).alloc ob) d2
 have ite__:=@ite_ok
 simp only [cellsTask]
 go_enter Tryz.func69,Tryz.ntmps69
 go_wp2_with fail
 all_goals (go_ret;exact ⟨ret_bool (by rw [isTask_iff];simp [*] <;> (rw [Bool.eq_iff_iff];simp)),(Ext.refl _).alloc _⟩)
theorem taskAt_any {S:Nat→Prop} (l:List Task) (a:Label) (n:Int) (v:Value) (w:World) (h:Rd ETask S w v l) :
 Calls Tryz.prog 24 #[v,.agg #[.int .i64 a.level,.int .i64 a.set],.int .i64 n] w fun e w'=>e=.returned (.int .i64 (taskIx l a n))∧Ext w w':=by
 have HR:=Lib.hid h
 clear h
 go_enter Tryz.func24,Tryz.ntmps24
 go_wp2_with fail
 obtain ⟨W,B,hW,hB,hx0,a0,b0⟩:=boxes2 w #[.int .i64 a.level,.int .i64 a.set] #[.int .i64 n] 24 2
 rw [← hW,← hB]
 clear hW hB
 refine (indexFunc_Task_2 l (isTask a n) v _ _ _ _ (HR.out.ext hx0) call_taskAt1 (fun cs x w1 hx hr=>taskAt1_any x a n cs B w1 hr ((a0.ext hx).cell 0) ((a0.ext hx).cell 1) ((b0.ext hx).cell 0))).mono ?_
 rintro e w1 ⟨rfl,hx1⟩
 clear a0 b0
 have HX:=Lib.hid (hx0.trans hx1)
 clear hx0 hx1
 go_wp2_with fail
 go_ret
 exact ⟨rfl,HX.out⟩
end Go.Proofs.YtoblacfjmcpbmaaGreat
namespace Go.Proofs.YtoblacfjmcpbmaaGreat
open Go.RowKit
theorem cmp_key {a b:Label} (ha:labelRight a=true) (hb:labelRight b=true):(keyOf a < keyOf b∧cmpLabels a b < 0)∨(a=b∧cmpLabels a b=0)∨(keyOf b < keyOf a∧0 < cmpLabels a b):=by
 obtain ⟨l,s⟩:=a
 obtain ⟨m,t⟩:=b
 simp only [labelRight,isB,Bool.and_eq_true,decide_eq_true_eq] at ha hb
 simp only [keyOf,cmpLabels,cmp3,orOf,Label.mk.injEq]
 rcases Int.lt_trichotomy l m with h | h | h
 · left;simp [h];omega
 · subst h
   rcases Int.lt_trichotomy s t with h | h | h
   · left;simp [h]
   · subst h;right;left;simp
   · right;right
     have:¬ s < t:=by omega
     simp [h,this]
 · right;right
   have:¬ l < m:=by omega
   simp [h,this];omega
def idOk (l:List Task) (i:Nat):Bool :=
 if i=0 then decide ((nth l i).id=1)
 else if 0 < cmpLabels (nth l (i - 1)).label (nth l i).label then false
 else if cmpLabels (nth l (i - 1)).label (nth l i).label=0 then decide ((nth l i).id=(nth l (i - 1)).id+1) else decide ((nth l i).id=1)
def depI (l:List Task) (x:Task):Bool:=decide (x.after=0) || decide (0≤taskIx l x.under x.after)
def tI (l:List Task) (i:Nat):Bool:=taskRight (nth l i) && idOk l i && depI l (nth l i)
def tS (l:List Task) (i:Nat):Bool:=taskRight (nth l i) && idOk l i && depI (l.take i) (nth l i)
def tasksRight (l:List Task):Bool:=decide (l.length≤96) && (List.range l.length).all (tI l)
theorem taskRight_label {x:Task} (h:taskRight x=true):labelRight x.label=true:=by
 simp only [taskRight,Bool.and_eq_true] at h
 exact h.1.1.1.1.1.1.1
theorem taskRight_id {x:Task} (h:taskRight x=true):1≤x.id∧x.id≤12:=by
 simp only [taskRight,Bool.and_eq_true] at h
 exact isB_true h.1.1.1.1.1.1.2
theorem taskRight_under {x:Task} (h:taskRight x=true):underOk x=true:=by
 simp only [taskRight,Bool.and_eq_true] at h
 exact h.1.2
theorem idOk_step {l:List Task} {m:Nat} (h:idOk l (m+1)=true) (h1:taskRight (nth l m)=true) (h2:taskRight (nth l (m+1))=true) :
 (keyOf (nth l m).label < keyOf (nth l (m+1)).label∧(nth l (m+1)).id=1)∨((nth l m).label=(nth l (m+1)).label∧(nth l (m+1)).id=(nth l m).id+1):=by
 simp only [idOk,Nat.add_one_ne_zero,if_false,Nat.add_sub_cancel] at h
 rcases cmp_key (taskRight_label h1) (taskRight_label h2) with ⟨k,c⟩ | ⟨k,c⟩ | ⟨k,c⟩
 · left
   rw [if_neg (by omega),if_neg (by omega)] at h
   exact ⟨k,by simpa using h⟩
 · right
   rw [if_neg (by omega),if_pos c] at h
   exact ⟨k,by simpa using h⟩
 · rw [if_pos c] at h
   cases h
theorem taskIx_mem {l:List Task} {a:Label} {n:Int}:0≤taskIx l a n↔∃ j,j < l.length∧(nth l j).label=a∧(nth l j).id=n:=by
 unfold taskIx
 rcases idxOf_cases (isTask a n) l with ⟨h,hn⟩ | ⟨k,hk,h,hp,_⟩
 · rw [h]
   refine ⟨fun h=>absurd h (by decide),fun ⟨j,hj,h1,h2⟩=>?_⟩
   have:=hn j hj
   simp [isTask,h1,h2] at this
 · rw [h]
   refine ⟨fun _=>⟨k,hk,?_⟩,fun _=>Int.natCast_nonneg _⟩
   simpa [isTask] using hp
theorem nth_take {α:Type} [Inhabited α] {l:List α} {i j:Nat} (h:j < i) (hi:i≤l.length):nth (l.take i) j=nth l j:=by
 rw [nth_eq (by rw [List.length_take];omega),nth_eq (by omega)]
 simp
theorem bits_le {a b:Int} (ha:isB a 0 7=true) (hb:isB b 0 7=true) (h:bits .and .i64 a b=a):a≤b:=by
 have h1:=isB_true ha
 have h2:=isB_true hb
 rcases (show a=0∨a=1∨a=2∨a=3∨a=4∨a=5∨a=6∨a=7 by omega) with rfl | rfl | rfl | rfl | rfl | rfl | rfl | rfl <;>
 rcases (show b=0∨b=1∨b=2∨b=3∨b=4∨b=5∨b=6∨b=7 by omega) with rfl | rfl | rfl | rfl | rfl | rfl | rfl | rfl <;>
 first | omega | (exfalso;revert h;decide)
theorem below_key {a b:Label} (h:belowOk a b=true):keyOf a≤keyOf b:=by
 simp only [belowOk,belowB,labelRight,Bool.and_eq_true,decide_eq_true_eq,beq_iff_eq] at h
 have:=bits_le h.1.1.2 h.1.2.2 h.2.2
 have h3:=h.2.1
 unfold keyOf
 omega
theorem order_of {l:List Task} {i j:Nat} (hj:j < l.length) (h:∀ k,k < l.length→tI l k=true) (hij:i≤j):keyOf (nth l i).label≤keyOf (nth l j).label∧((nth l i).label=(nth l j).label→(nth l i).id+(j - i:Nat)=(nth l j).id):=by
 induction j with
 | zero=>obtain rfl:i=0:=by omega
         exact ⟨Int.le_refl _,fun _=>by simp⟩
 | succ j ih =>
   rcases Nat.lt_or_ge j i with hlt | hge
   · obtain rfl:i=j+1:=by omega
     exact ⟨Int.le_refl _,fun _=>by simp⟩
   · obtain ⟨h1,h2⟩:=ih (by omega) hge
     have a:=h j (by omega)
     have b:=h (j+1) hj
     simp only [tI,Bool.and_eq_true] at a b
     have e:j+1 - i=(j - i)+1:=by omega
     rcases idOk_step b.1.2 a.1.1 b.1.1 with ⟨k,c⟩ | ⟨k,c⟩
     · refine ⟨by omega,fun he=>?_⟩
       rw [← he] at k
       omega
     · refine ⟨by rw [← k];exact h1,fun he=>?_⟩
       have:=h2 (he.trans k.symm)
       rw [c,e]
       omega
theorem tS_of_tI {l:List Task} (h:∀ k,k < l.length→tI l k=true) {i:Nat} (hi:i < l.length):tS l i=true:=by
 have hh:=h i hi
 simp only [tS,tI,Bool.and_eq_true,depI,Bool.or_eq_true,decide_eq_true_eq] at hh ⊢
 refine ⟨hh.1,?_⟩
 by_cases h0:(nth l i).after=0
 · exact .inl h0
 right
 obtain ⟨j,hj,h1,h2⟩:=taskIx_mem.1 (hh.2.resolve_left h0)
 have hu:=taskRight_under hh.1.1
 simp only [underOk,h0,if_false,Bool.and_eq_true,Bool.not_eq_true',Bool.and_eq_false_iff,decide_eq_false_iff_not] at hu
 obtain ⟨⟨_,hb⟩,hn⟩:=hu
 have hk:=below_key hb
 rcases Nat.lt_or_ge j i with hlt | hge
 · exact taskIx_mem.2 ⟨j,by rw [List.length_take];omega,by rw [nth_take hlt (by omega)];exact h1,by rw [nth_take hlt (by omega)];exact h2⟩
 · exfalso
   obtain ⟨o1,o2⟩:=order_of hj h hge
   rw [h1] at o1 o2
   have hl:=taskRight_label hh.1.1
   have hlj:labelRight (nth l i).under=true:=by
    simp only [belowOk,Bool.and_eq_true] at hb
    exact hb.1.1
   have he:(nth l i).under=(nth l i).label:=key_inj hlj hl (by omega)
   have o3:=o2 he.symm
   rcases hn with hn | hn
   · exact hn he
   · rw [h2] at o3
     omega
theorem tasksRight_of {l:List Task} (h:∀ i,i < l.length→tI l i=true):tasksRight l=decide (l.length≤96):=by
 unfold tasksRight
 rw [List.all_eq_true.mpr (fun k hk=>h k (List.mem_range.mp hk)),Bool.and_true]
theorem tasksRight_false {l:List Task} {i:Nat} (hi:i < l.length) (h:tI l i=false):tasksRight l=false:=by
 unfold tasksRight
 rw [List.all_eq_false.mpr ⟨i,List.mem_range.mpr hi,by simp [h]⟩,Bool.and_false]
theorem tasksRight_long {l:List Task} (h:96 < l.length):tasksRight l=false:=by unfold tasksRight;rw [decide_eq_false (by omega)];rfl
end Go.Proofs.YtoblacfjmcpbmaaGreat
