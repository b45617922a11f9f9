/- What a yard must be, in plain Lean. The walks of the program's QuotaOf, and of what YardRight calls besides. The walks of the program's taskFits and YardRight. Printed by wip/yard.py. The walks of what the reference's YardRight calls. The walks of the reference's l13Task and YardRight. Printed by wip/yards.py. -/
import Derived.Test.YtoblacfjmcpbmaaGreatConf1
import Derived.Test.YtoblacfjmcpbmaaGreatReady
import Derived.Test.YtoblacfjmcpbmaaGreatNodes
import Derived.Test.YtoblacfjmcpbmaaGreatUsesC
import Derived.Test.YtoblacfjmcpbmaaGreatTaskR
import Derived.Test.YtoblacfjmcpbmaaGreatConf4
import Derived.Test.YtoblacfjmcpbmaaGreatOrdU
import Derived.Test.YtoblacfjmcpbmaaGreatUsesD
import Derived.Deep.RegionHeld3
set_option maxHeartbeats 16000000
set_option maxRecDepth 100000
namespace Go.Proofs.YtoblacfjmcpbmaaGreat
open Go.RowKit
def endOf (t:Task):Int:=t.start+1+t.long
def nodeIn (ns:List (List Label)) (a:Label) (n:Int):Bool:=decide (0≤n) && decide (n.toNat < ns.length) && cleared (nth ns n.toNat) a
def manyOf (ns:List (List Label)) (a:Label):Nat:=(clearOf ns a ns.length).length
def runsB (t:Task):Bool:=decide (t.state=2)
def placeY (now:Int) (t:Task):Bool :=
 if runsB t=true then decide (t.start≤now) && decide (now < endOf t) else decide (t.nodes.length=0) || isB t.start (now+1) (now+40)
def fitsY (ns:List (List Label)) (now:Int) (t:Task):Bool :=
 decide (t.need≤(manyOf ns t.label:Int)) && decide (t.born≤now) && t.nodes.all (nodeIn ns t.label) && placeY now t
def isNum (n m:Int):Bool:=decide (m=n)
def usedBy (l:List Task) (n:Int):Bool:=l.any fun t=>runsB t && t.nodes.any (isNum n)
def takenAt (l:List Task) (i k:Nat) (n:Int):Bool:=usedBy (l.take i) n || (runsB (nth l i) && ((nth l i).nodes.take k).any (isNum n))
def clashAt (l:List Task) (i k:Nat):Bool:=runsB (nth l i) && takenAt l i k (nth (nth l i).nodes k)
def taskOkY (y:Yard) (i:Nat):Bool:=fitsY y.config.nodes y.now (nth y.tasks i) && !(List.range (nth y.tasks i).nodes.length).any (clashAt y.tasks i)
def quotaIn:List Quota→Label→Int
 | [],_=>6
 | q :: qs,a=>if q.label=a then q.most else quotaIn qs a
def quotaOf (c:Config) (a:Label):Int:=if configRight c=true∧cleared (labelsIn c.nodes) a=true then quotaIn c.quotas a else 0
def overY (y:Yard) (a:Label):Bool:=decide (quotaOf y.config a < (liveN y.tasks a:Int))
def useBad (ls:List Label) (x:Use):Bool:=!cleared ls x.label
def yardHead (y:Yard):Bool:=configRight y.config && decide (y.nodes.length=y.config.nodes.length) && nodesRight y.nodes && tasksRight y.tasks && usesRight y.uses && nowOk y.now
def yardRight (y:Yard):Bool :=
 yardHead y && (List.range y.tasks.length).all (taskOkY y) && !(labelsIn y.config.nodes).any (overY y) && !y.uses.any (useBad (labelsIn y.config.nodes))
theorem yard_head {y:Yard} (h:yardHead y=false):yardRight y=false:=by
 unfold yardRight
 rw [h];rfl
theorem yard_task {y:Yard} {i:Nat} (hi:i < y.tasks.length) (h:taskOkY y i=false):yardRight y=false:=by
 unfold yardRight
 rw [List.all_eq_false.mpr ⟨i,List.mem_range.mpr hi,by simp [h]⟩]
 simp
theorem yard_over {y:Yard} (h:(labelsIn y.config.nodes).any (overY y)=true):yardRight y=false:=by
 unfold yardRight
 rw [h]
 simp
theorem yard_all {y:Yard} {r:Bool} (h1:yardHead y=true) (h2:∀ i,i < y.tasks.length→taskOkY y i=true) (h3:(labelsIn y.config.nodes).any (overY y)=false) (h4:y.uses.any (useBad (labelsIn y.config.nodes))=r):yardRight y = !r:=by
 unfold yardRight
 rw [h1,h3,h4,List.all_eq_true.mpr (fun k hk=>h2 k (List.mem_range.mp hk))];rfl
theorem task_unfit {y:Yard} {i:Nat} (h:fitsY y.config.nodes y.now (nth y.tasks i)=false):taskOkY y i=false:=by
 unfold taskOkY
 rw [h];rfl
theorem task_clash {y:Yard} {i k:Nat} (hk:k < (nth y.tasks i).nodes.length) (h:clashAt y.tasks i k=true):taskOkY y i=false:=by
 unfold taskOkY
 rw [List.any_eq_true.mpr ⟨k,List.mem_range.mpr hk,h⟩]
 simp
theorem task_ok {y:Yard} {i:Nat} (h:fitsY y.config.nodes y.now (nth y.tasks i)=true) (g:∀ k,k < (nth y.tasks i).nodes.length→clashAt y.tasks i k=false):taskOkY y i=true:=by
 unfold taskOkY
 rw [h,List.any_eq_false.mpr (fun k hk=>by rw [g k (List.mem_range.mp hk)];decide)]
 rfl
theorem taken_zero (l:List Task) (i:Nat) (n:Int):takenAt l i 0 n=usedBy (l.take i) n:=by simp [takenAt]
theorem take_snoc {α:Type} [Inhabited α] {l:List α} {k:Nat} (h:k < l.length):l.take (k+1)=l.take k ++ [nth l k]:=by
 rw [List.take_succ_eq_append_getElem h,nth_eq h]
theorem taken_succ {l:List Task} {i k:Nat} (n:Int) (h:k < (nth l i).nodes.length):takenAt l i (k+1) n=(takenAt l i k n || (runsB (nth l i) && isNum n (nth (nth l i).nodes k))):=by
 unfold takenAt
 rw [take_snoc h,List.any_append]
 simp only [List.any_cons,List.any_nil,Bool.or_false]
 cases usedBy (l.take i) n <;> cases runsB (nth l i) <;> rfl
theorem used_zero (n:Int) (l:List Task):usedBy (l.take 0) n=false:=by simp [usedBy]
theorem used_succ {l:List Task} {i:Nat} (n:Int) (h:i < l.length):usedBy (l.take (i+1)) n=takenAt l i (nth l i).nodes.length n:=by
 unfold takenAt usedBy
 rw [take_snoc h,List.any_append,List.take_length]
 simp only [List.any_cons,List.any_nil,Bool.or_false]
theorem contains_clear (ns:List (List Label)) (a:Label) (n:Int):(clearOf ns a ns.length).any (isNum n)=nodeIn ns a n:=by
 rw [Bool.eq_iff_iff]
 unfold clearOf nodeIn isNum
 simp only [List.any_eq_true,List.mem_map,List.mem_filter,List.mem_range,Bool.and_eq_true,decide_eq_true_eq]
 constructor
 · rintro ⟨m,⟨i,⟨hi,hc⟩,rfl⟩,rfl⟩
   exact ⟨⟨by omega,by simpa using hi⟩,by simpa using hc⟩
 · rintro ⟨⟨h0,h1⟩,h2⟩
   exact ⟨n,⟨n.toNat,⟨h1,h2⟩,by omega⟩,rfl⟩
theorem quotaIn_at {qs:List Quota} {a:Label} {k:Nat} (hk:k < qs.length) (h:(nth qs k).label=a) (g:∀ j,j < k→(nth qs j).label≠a):quotaIn qs a=(nth qs k).most:=by
 induction qs generalizing k with
 | nil=>exact absurd hk (by simp)
 | cons q qs ih =>
   cases k with
   | zero =>
     have h':q.label=a:=h
     show (if q.label=a then q.most else quotaIn qs a)=q.most
     rw [if_pos h']
   | succ k =>
     have h0:q.label≠a:=g 0 (by omega)
     show (if q.label=a then q.most else quotaIn qs a)=_
     rw [if_neg h0]
     exact ih (k:=k) (by simpa using hk) h (fun j hj=>g (j+1) (by omega))
theorem quotaIn_none {qs:List Quota} {a:Label} (g:∀ j,j < qs.length→(nth qs j).label≠a):quotaIn qs a=6:=by
 induction qs with
 | nil=>rfl
 | cons q qs ih =>
   have h0:q.label≠a:=g 0 (by simp)
   show (if q.label=a then q.most else quotaIn qs a)=_
   rw [if_neg h0]
   exact ih (fun j hj=>g (j+1) (by simpa using hj))
theorem many_zero {ns:List (List Label)} {a:Label} (hc:clearOk ns=true):manyOf ns a=0↔cleared (labelsIn ns) a=false:=by
 unfold manyOf
 rw [List.length_eq_zero_iff]
 constructor
 · intro h
   cases hb:cleared (labelsIn ns) a with
   | false=>rfl
   | true =>
     have hm:=cleared_mem.1 hb
     obtain ⟨l,hl,ha⟩:=List.mem_flatten.1 ((mem_labels (labels_right hm)).1 hm)
     obtain ⟨i,hi,rfl⟩:=List.getElem_of_mem hl
     have:((i:Nat):Int)∈clearOf ns a ns.length:=by
      unfold clearOf
      exact List.mem_map.2 ⟨i,List.mem_filter.2 ⟨List.mem_range.2 hi,by rw [nth_eq hi];exact cleared_mem.2 ha⟩,rfl⟩
     rw [h] at this
     cases this
 · intro h
   cases hq:clearOf ns a ns.length with
   | nil=>rfl
   | cons n r =>
     have hn:n∈clearOf ns a ns.length:=by rw [hq];exact List.mem_cons_self
     unfold clearOf at hn
     obtain ⟨i,hi,rfl⟩:=List.mem_map.1 hn
     obtain ⟨h1,h2⟩:=List.mem_filter.1 hi
     have h1:=List.mem_range.1 h1
     rw [nth_eq h1] at h2
     have ha:a∈ns.flatten:=List.mem_flatten.2 ⟨_,List.getElem_mem h1,cleared_mem.1 h2⟩
     have:=(mem_labels (ns:=ns) (clear_right hc a ha)).2 ha
     rw [cleared_mem.2 this] at h
     cases h
def boolsN (f:Int→Bool):Array Value:=#[.bool (f 0),.bool (f 1),.bool (f 2),.bool (f 3),.bool (f 4),.bool (f 5)]
theorem six {n:Int} (h0:0≤n) (h5:n≤5):n=0∨n=1∨n=2∨n=3∨n=4∨n=5:=by omega
theorem bools_get {f:Int→Bool} {n:Int} (h0:0≤n) (h5:n≤5):(boolsN f)[n.toNat]? = some (.bool (f n)):=by
 rcases six h0 h5 with rfl | rfl | rfl | rfl | rfl | rfl <;> rfl
theorem bools_set {f g:Int→Bool} {n:Int} {b:Bool} (h0:0≤n) (h5:n≤5) (hb:g n=b) (hg:∀ m,m≠n→g m=f m):(boolsN f).setIfInBounds n.toNat (.bool b)=boolsN g:=by
 subst hb
 rcases six h0 h5 with rfl | rfl | rfl | rfl | rfl | rfl
 · show #[Value.bool (g 0),.bool (f 1),.bool (f 2),.bool (f 3),.bool (f 4),.bool (f 5)]=_
   rw [boolsN,hg 1 (by decide),hg 2 (by decide),hg 3 (by decide),hg 4 (by decide),hg 5 (by decide)]
 · show #[Value.bool (f 0),.bool (g 1),.bool (f 2),.bool (f 3),.bool (f 4),.bool (f 5)]=_
   rw [boolsN,hg 0 (by decide),hg 2 (by decide),hg 3 (by decide),hg 4 (by decide),hg 5 (by decide)]
 · show #[Value.bool (f 0),.bool (f 1),.bool (g 2),.bool (f 3),.bool (f 4),.bool (f 5)]=_
   rw [boolsN,hg 0 (by decide),hg 1 (by decide),hg 3 (by decide),hg 4 (by decide),hg 5 (by decide)]
 · show #[Value.bool (f 0),.bool (f 1),.bool (f 2),.bool (g 3),.bool (f 4),.bool (f 5)]=_
   rw [boolsN,hg 0 (by decide),hg 1 (by decide),hg 2 (by decide),hg 4 (by decide),hg 5 (by decide)]
 · show #[Value.bool (f 0),.bool (f 1),.bool (f 2),.bool (f 3),.bool (g 4),.bool (f 5)]=_
   rw [boolsN,hg 0 (by decide),hg 1 (by decide),hg 2 (by decide),hg 3 (by decide),hg 5 (by decide)]
 · show #[Value.bool (f 0),.bool (f 1),.bool (f 2),.bool (f 3),.bool (f 4),.bool (g 5)]=_
   rw [boolsN,hg 0 (by decide),hg 1 (by decide),hg 2 (by decide),hg 3 (by decide),hg 4 (by decide)]
theorem taken_start (l:List Task) (i:Nat):takenAt l i 0=usedBy (l.take i):=funext fun n=>taken_zero l i n
theorem taken_end {l:List Task} {i:Nat} (h:i < l.length):takenAt l i (nth l i).nodes.length=usedBy (l.take (i+1)):=funext fun n=>(used_succ n h).symm
theorem used_start (l:List Task):usedBy (l.take 0)=fun _=>false:=funext fun n=>used_zero n l
theorem taken_runs {l:List Task} {i k:Nat} (h:k < (nth l i).nodes.length) (hr:runsB (nth l i)=true) (h0:0≤nth (nth l i).nodes k) (h5:nth (nth l i).nodes k≤5) :
 (boolsN (takenAt l i k)).setIfInBounds (nth (nth l i).nodes k).toNat (.bool true)=boolsN (takenAt l i (k+1)) :=
 bools_set h0 h5 (by rw [taken_succ _ h,hr];simp [isNum]) (fun m hm=>by rw [taken_succ _ h,hr];simp [isNum,Ne.symm hm])
theorem taken_rests {l:List Task} {i k:Nat} (h:k < (nth l i).nodes.length) (hr:runsB (nth l i)=false):takenAt l i (k+1)=takenAt l i k:=funext fun n=>by rw [taken_succ n h,hr,Bool.false_and,Bool.or_false]
theorem bools_same {f:Int→Bool} {n:Int} {b:Bool} (h0:0≤n) (h5:n≤5) (hb:f n=b):(boolsN f).setIfInBounds n.toNat (.bool b)=boolsN f:=bools_set h0 h5 hb (fun _ _=>rfl)
theorem node_bounds {x:Task} {k:Nat} (h:taskRight x=true) (hk:k < x.nodes.length):0≤nth x.nodes k∧nth x.nodes k≤5:=by
 simp only [taskRight,Bool.and_eq_true] at h
 have hp:=h.2
 unfold placeOk at hp
 split at hp
 · simp only [Bool.and_eq_true] at hp
   have:=List.all_eq_true.1 hp.2 k (List.mem_range.2 hk)
   simp only [numAt,isB,Bool.and_eq_true,decide_eq_true_eq] at this
   exact this.1
 · simp only [Bool.and_eq_true,decide_eq_true_eq] at hp
   omega
theorem runs_bounds {x:Task} (h:taskRight x=true) (hs:x.state=2):0≤x.start∧x.start≤1000000∧1≤x.long∧x.long≤20:=by
 simp only [taskRight,Bool.and_eq_true] at h
 have hp:=h.2
 unfold placeOk at hp
 rw [if_pos (Or.inl hs)] at hp
 simp only [Bool.and_eq_true,timeOk,isB,decide_eq_true_eq] at hp
 have hw:=h.1.1.1.1.2
 simp only [isWorkB,isB,Bool.and_eq_true,decide_eq_true_eq] at hw
 omega
theorem now_bounds {n:Int} (h:nowOk n=true):0≤n∧n≤999900:=by
 simpa [nowOk,isB] using h
theorem all_right {l:List Task} (h:tasksRight l=true) {k:Nat} (hk:k < l.length):taskRight (nth l k)=true:=by
 simp only [tasksRight,Bool.and_eq_true] at h
 have:=List.all_eq_true.1 h.2 k (List.mem_range.2 hk)
 simp only [tI,Bool.and_eq_true] at this
 exact this.1.1
theorem few_tasks {l:List Task} (h:tasksRight l=true):l.length≤96:=by
 simp only [tasksRight,Bool.and_eq_true,decide_eq_true_eq] at h
 exact h.1
theorem fits_few {ns:List (List Label)} {now:Int} {x:Task} (h:(manyOf ns x.label:Int) < x.need):fitsY ns now x=false:=by
 unfold fitsY
 rw [decide_eq_false (by omega)];rfl
theorem fits_late {ns:List (List Label)} {now:Int} {x:Task} (h:now < x.born):fitsY ns now x=false:=by
 unfold fitsY
 rw [decide_eq_false (p:=x.born≤now) (by omega),Bool.and_false,Bool.false_and,Bool.false_and]
theorem fits_out {ns:List (List Label)} {now:Int} {x:Task} (h:x.nodes.all (nodeIn ns x.label)=false):fitsY ns now x=false:=by
 unfold fitsY
 rw [h,Bool.and_false,Bool.false_and]
theorem fits_place {ns:List (List Label)} {now:Int} {x:Task} (h1:¬ (manyOf ns x.label:Int) < x.need) (h2:¬ now < x.born) (h3:x.nodes.all (nodeIn ns x.label)=true):fitsY ns now x=placeY now x:=by
 unfold fitsY
 rw [decide_eq_true (p:=x.need≤_) (by omega),decide_eq_true (p:=x.born≤now) (by omega),h3];rfl
theorem place_runs {now:Int} {x:Task} (h:x.state=2):placeY now x=(decide (x.start≤now) && decide (now < endOf x)):=by
 unfold placeY runsB
 rw [if_pos (decide_eq_true h)]
theorem place_none {now:Int} {x:Task} (h:¬ x.state=2) (hn:¬ 0 < x.nodes.length):placeY now x=true:=by
 unfold placeY runsB
 rw [if_neg (by simpa using h),decide_eq_true (p:=x.nodes.length=0) (by omega)];rfl
theorem place_rests {now:Int} {x:Task} (h:¬ x.state=2) (hn:0 < x.nodes.length):placeY now x=isB x.start (now+1) (now+40):=by
 unfold placeY runsB
 rw [if_neg (by simpa using h),decide_eq_false (p:=x.nodes.length=0) (by omega)];rfl
end Go.Proofs.YtoblacfjmcpbmaaGreat
namespace Go.Proofs.YtoblacfjmcpbmaaGreat
open Go.RowKit
attribute [local irreducible] wpQuiet
theorem indexFunc_Int {S:Nat→Prop} (l:List Int) (p:Int→Bool) (v:Value) (f:Nat) (caps:Array Value) (w:World) (h:Rd EInt S w v l) (hcall:∀ (args:Array Value) (W:World),(callFunc f args).run Tryz.prog W=.ok (.enter f args) W)
 (hf:∀ (cs:List Value) (x:Int) (w1:World),Ext w w1→EInt.rel S w1 cs x→Calls Tryz.prog f (#[cs.headD undef] ++ caps) w1 fun e w'=>e=.returned (.bool (p x))∧Ext w1 w') :
 Calls Tryz.prog 150 #[v,.func (.func f) #[] caps] w fun e w'=>e=.returned (.int .i64 (idxOf p l))∧Ext w w':=by
 obtain ⟨A,c,rfl,h1,h2,hk⟩:=h.open_
 unfold maxLen at h2
 have HK:=Lib.hid hk
 have HF:=Lib.hid hf
 clear hk h hf
 go_enter Tryz.func150,Tryz.ntmps150
 go_wp2_with fail
 go_loopw [8] (fun i w'=>∃ k:Nat,k≤l.length∧i=.int .i64 k∧(∀ j,j < k→p (nth l j)=false)∧Ext w w') (fun i _=>l.length - (intOf i).toNat)
 case atStart=>exact ⟨0,by omega,rfl,fun j hj=>by omega,Ext.refl _⟩
 case round =>
  obtain ⟨k,hk1,rfl,hall,hx⟩:=hrel
  have HA:=Lib.hid hall
  have HX:=Lib.hid hx
  clear hall
  by_cases hlt:k < l.length
  · obtain ⟨b,o,cs,rfl,hb,hr,hc⟩:=HK.out k hlt
    have HR:=Lib.hid (EInt.keep (hx.same S) hr)
    have hc0:=hx.range hc 0 _ (by rw [List.getElem?_eq_getElem (by rw [EInt.len hr];decide)])
    have hcs:cs[0]'(by rw [EInt.len hr];decide)=cs.headD undef:=by cases cs with | nil=>exact absurd (EInt.len hr) (by decide) | cons a r=>rfl
    rw [hcs] at hc0
    generalize hu:cs.headD undef=u at *
    have HU:=Lib.hid hu
    simp only [EInt,Nat.mul_one,Nat.add_zero] at hc0
    clear hr hc hx hcs hu
    by_cases hp:p (nth l k)=true
    · have HE:Hid (idxOf p l=k):=Lib.hid (idxOf_some hlt HA.out hp)
      go_wp2_with (first | ((with_reducible refine ((show Calls _ _ (#[u] ++ caps) _ _ from HU.out ▸ HF.out cs (nth l k) _ HX.out HR.out)).mono ?_);rintro e w1 ⟨rfl,hx1⟩;have HX1:=Lib.hid hx1;clear hx1))
      go_ret
      exact ⟨ret_int HE.out.symm,HX.out.trans HX1.out⟩
    · simp only [Bool.not_eq_true] at hp
      have HE:=Lib.hid (all_succ HA.out hp)
      go_wp2_with (first | ((with_reducible refine ((show Calls _ _ (#[u] ++ caps) _ _ from HU.out ▸ HF.out cs (nth l k) _ HX.out HR.out)).mono ?_);rintro e w1 ⟨rfl,hx1⟩;have HX1:=Lib.hid hx1;clear hx1))
      go_roundw
      case rel=>exact ⟨k+1,by omega,by go_num,HE.out,HX.out.trans HX1.out⟩
      case measure=>simp [intOf];omega
  · have HE:Hid (idxOf p l = -1):=Lib.hid (idxOf_none fun j hj=>HA.out j (by omega))
    go_wp2_with fail
    go_ret
    exact ⟨ret_int HE.out.symm,HX.out⟩
theorem containsFunc_Int {S:Nat→Prop} (l:List Int) (p:Int→Bool) (v:Value) (f:Nat) (caps:Array Value) (w:World) (h:Rd EInt S w v l) (hcall:∀ (args:Array Value) (W:World),(callFunc f args).run Tryz.prog W=.ok (.enter f args) W)
 (hf:∀ (cs:List Value) (x:Int) (w1:World),Ext w w1→EInt.rel S w1 cs x→Calls Tryz.prog f (#[cs.headD undef] ++ caps) w1 fun e w'=>e=.returned (.bool (p x))∧Ext w1 w') :
 Calls Tryz.prog 115 #[v,.func (.func f) #[] caps] w fun e w'=>e=.returned (.bool (l.any p))∧Ext w w':=by
 have HE:=Lib.hid (idxOf_any (p:=p) (l:=l))
 have H:=Lib.hid (indexFunc_Int l p v f caps w h hcall hf)
 clear h hcall hf
 go_enter Tryz.func115,Tryz.ntmps115
 go_wp2_with (refine H.out.mono ?_;rintro e w1 ⟨rfl,hx1⟩;have HX1:=Lib.hid hx1;clear hx1)
 go_ret
 exact ⟨ret_bool HE.out,HX1.out⟩
theorem containsFunc_Int_1 {S:Nat→Prop} (l:List Int) (p:Int→Bool) (v:Value) (f:Nat) (c1:Value) (w:World) (h:Rd EInt S w v l) (hcall:∀ (args:Array Value) (W:World),(callFunc f args).run Tryz.prog W=.ok (.enter f args) W)
 (hf:∀ (cs:List Value) (x:Int) (w1:World),Ext w w1→EInt.rel S w1 cs x→Calls Tryz.prog f #[cs.headD undef,c1] w1 fun e w'=>e=.returned (.bool (p x))∧Ext w1 w') :
 Calls Tryz.prog 115 #[v,.func (.func f) #[] #[c1]] w fun e w'=>e=.returned (.bool (l.any p))∧Ext w w' :=
 containsFunc_Int l p v f #[c1] w h hcall fun cs x w1 hx hr=>by rw [show (#[cs.headD undef] ++ #[c1]:Array Value) = #[cs.headD undef,c1] from rfl];exact hf cs x w1 hx hr
theorem nodesRight_is {S:Nat→Prop} (l:List Node) (v:Value) (w:World) (h:Rd ENode S w v l) (r:Bool) (hr:nodesRight l=r) :
 Calls Tryz.prog 57 #[v] w fun e w'=>e=.returned (.bool r)∧Ext w w':=by
 subst hr
 exact nodesRight_any l v w h
theorem tasksRight_is {S:Nat→Prop} (l:List Task) (v:Value) (w:World) (h:Rd ETask S w v l) (r:Bool) (hr:tasksRight l=r) :
 Calls Tryz.prog 31 #[v] w fun e w'=>e=.returned (.bool r)∧Ext w w':=by
 subst hr
 exact tasksRight_any l v w h
theorem usesRight_is {S:Nat→Prop} (l:List Use) (v:Value) (w:World) (h:Rd EUse S w v l) (r:Bool) (hr:usesRight l=r) :
 Calls Tryz.prog 34 #[v] w fun e w'=>e=.returned (.bool r)∧Ext w w':=by
 subst hr
 exact usesRight_any l v w h
theorem isNowY_is (n:Int) (w:World) (r:Bool) (hr:nowOk n=r):Calls Tryz.prog 58 #[.int .i64 n] w fun e w'=>e=.returned (.bool r)∧w=w':=by
 subst hr
 exact isNow_any n w
theorem taskEnd_any {S:Nat→Prop} (x:Task) (cs:List Value) (w:World) (h:ETask.rel S w cs x) (s0:0≤x.start) (s1:x.start≤1000000) (l0:1≤x.long) (l1:x.long≤20) :
 Calls Tryz.prog 38 #[.agg cs.toArray] w fun e w'=>e=.returned (.int .i64 (endOf x))∧Ext w w':=by
 obtain ⟨v1,rfl,hf,h1⟩:=h
 obtain ⟨A1,c1,rfl,-⟩:=h1.form
 clear hf h1
 simp only [cellsTask]
 have i1:IntKind.i64.wrap (x.start+1)=x.start+1:=IntWalk.i64_in _ (by omega)
 have i2:IntKind.i64.wrap (x.start+1+x.long)=x.start+1+x.long:=IntWalk.i64_in _ (by omega)
 go_enter Tryz.func38,Tryz.ntmps38
 go_wp2_with fail
 go_ret
 exact ⟨ret_int (by unfold endOf;first | rfl | (rw [i1,i2]) | omega),(Ext.refl _).alloc _⟩
theorem indexInt_any {S:Nat→Prop} (l:List Int) (n:Int) (v:Value) (w:World) (h:Rd EInt S w v l) :
 Calls Tryz.prog 151 #[v,.int .i64 n] w fun e w'=>e=.returned (.int .i64 (idxOf (isNum n) l))∧Ext w w':=by
 obtain ⟨A,c,rfl,h1,h2,hk⟩:=h.open_
 unfold maxLen at h2
 have HK:=Lib.hid hk
 clear hk h
 go_enter Tryz.func151,Tryz.ntmps151
 go_wp2_with fail
 go_loopw [8] (fun i w'=>∃ k:Nat,k≤l.length∧i=.int .i64 k∧(∀ j,j < k→isNum n (nth l j)=false)∧Ext w w') (fun i _=>l.length - (intOf i).toNat)
 case atStart=>exact ⟨0,by omega,rfl,fun j hj=>by omega,Ext.refl _⟩
 case round =>
  obtain ⟨k,hk1,rfl,hall,hx⟩:=hrel
  have HA:=Lib.hid hall
  have HX:=Lib.hid hx
  clear hall
  by_cases hlt:k < l.length
  · obtain ⟨b,q,cs,rfl,_,⟨rfl,hfit⟩,hc⟩:=HK.out k hlt
    have c0:=Ext.some hx (hc 0 _ rfl)
    simp only [EInt,Nat.mul_one,Nat.add_zero] at c0
    clear hc hfit hx
    by_cases he:nth l k=n
    · have HE:=Lib.hid (idxOf_some (p:=isNum n) hlt HA.out (by simp [isNum,he]))
      go_wp2_with fail
      go_ret
      exact ⟨ret_int HE.out.symm,HX.out⟩
    · have HE:=Lib.hid (all_succ (p:=fun j=>isNum n (nth l j)=false) HA.out (by simp [isNum,he]))
      go_wp2_with fail
      go_roundw
      case rel=>exact ⟨k+1,by omega,by go_num,HE.out,HX.out⟩
      case measure=>simp [intOf];omega
  · have HE:=Lib.hid (idxOf_none (p:=isNum n) (l:=l) fun j hj=>HA.out j (by omega))
    go_wp2_with fail
    go_ret
    exact ⟨ret_int HE.out.symm,HX.out⟩
theorem containsInt_any {S:Nat→Prop} (l:List Int) (n:Int) (v:Value) (w:World) (h:Rd EInt S w v l) :
 Calls Tryz.prog 117 #[v,.int .i64 n] w fun e w'=>e=.returned (.bool (l.any (isNum n)))∧Ext w w':=by
 have HE:=Lib.hid (idxOf_any (p:=isNum n) (l:=l))
 have HR:=Lib.hid h
 obtain ⟨A,c,rfl,-⟩:=h.form
 clear h
 go_enter Tryz.func117,Tryz.ntmps117
 go_wp2_with (go_at_call 151;(with_reducible refine (indexInt_any (S:=S) l n _ _ HR.out).mono ?_);rintro e w1 ⟨rfl,hx1⟩;have HX1:=Lib.hid hx1;clear hx1)
 go_ret
 exact ⟨ret_bool (by rw [← HE.out]),HX1.out⟩
def nodeOut (ns:List (List Label)) (a:Label) (n:Int):Bool:=!nodeIn ns a n
theorem any_out (ns:List (List Label)) (a:Label) (l:List Int):l.any (nodeOut ns a) = !l.all (nodeIn ns a):=by
 induction l with
 | nil=>rfl
 | cons n l ih=>rw [List.any_cons,List.all_cons,ih,nodeOut];cases nodeIn ns a n <;> cases l.all (nodeIn ns a) <;> rfl
theorem call_fits1:∀ (args:Array Value) (W:World),(callFunc 116 args).run Tryz.prog W=.ok (.enter 116 args) W:=by
 intro args W
 go_simp
theorem fits1_any {S:Nat→Prop} (ns:List (List Label)) (a:Label) (n:Int) (v:Value) (B:Nat) (w:World) (h:Rd EInt S w v (clearOf ns a ns.length)) (hb:Blk w B 44 #[v]) :
 Calls Tryz.prog 116 #[.int .i64 n,.pointer (some ⟨B,0,none⟩)] w fun e w'=>e=.returned (.bool (nodeOut ns a n))∧Ext w w':=by
 have HR:=Lib.hid h
 have HE:=Lib.hid (contains_clear ns a n)
 obtain ⟨A,c,rfl,-⟩:=h.form
 have b0:=hb.cell 0
 clear h hb
 simp only [List.getElem?_toArray,List.getElem?_cons_zero] at b0
 go_enter Tryz.func116,Tryz.ntmps116
 go_wp2_with (go_at_call 117;(with_reducible refine (containsInt_any (S:=S) (clearOf ns a ns.length) n _ _ HR.out).mono ?_);rintro e w1 ⟨rfl,hx1⟩;have HX1:=Lib.hid hx1;clear hx1)
 go_ret
 exact ⟨ret_bool (by rw [nodeOut,← HE.out]),HX1.out⟩
theorem quotaOf_any {S:Nat→Prop} (x:Config) (cs:List Value) (a:Label) (w:World) (h:EConfig.rel S w cs x) :
 Calls Tryz.prog 26 #[.agg cs.toArray,.agg #[.int .i64 a.level,.int .i64 a.set]] w fun e w'=>e=.returned (.int .i64 (quotaOf x a))∧Ext w w':=by
 obtain ⟨v1,v2,v3,rfl,hf,h1,h2,h3⟩:=h
 obtain ⟨A1,c1,rfl,-⟩:=h1.form
 obtain ⟨A2,c2,rfl,-⟩:=h2.form
 have H3:=Lib.hid h3
 obtain ⟨A3,c3,rfl,l1,l2,hk⟩:=h3.open_
 unfold maxLen at l2
 have HF:=Lib.hid hf
 have H1:=Lib.hid h1
 have H2:=Lib.hid h2
 have HK:=Lib.hid hk
 clear hf h1 h2 h3 hk
 simp only [cellsConfig]
 obtain ⟨t,ht⟩:∃ t,configRight x=t:=⟨_,rfl⟩
 have T:=Lib.hid ht
 clear ht
 go_enter Tryz.func26,Tryz.ntmps26
 go_upto_region 1 with (fail)
 obtain ⟨W,B,hW,hB,hx0,a0,b0⟩:=boxes2 w #[.slice A1 x.nodes.length c1,.slice A2 x.pairs.length c2,.slice A3 x.quotas.length c3,.int .i64 x.half] #[.int .i64 a.level,.int .i64 a.set] 30 24
 rw [← hW,← hB]
 have QA:=Lib.hid a0
 have QB:=Lib.hid b0
 have X:=Lib.hid hx0
 clear hW hB hx0 a0 b0
 have q0:=QA.out.cell
 cases t with
 | false =>
   have HE:Hid (quotaOf x a=0):=Lib.hid (by rw [quotaOf,T.out];rfl)
   go_wp2_with (go_at_call 17;(with_reducible refine (configRight_is (S:=S) x [.slice A1 x.nodes.length c1,.slice A2 x.pairs.length c2,.slice A3 x.quotas.length c3,.int .i64 x.half] _ (rel_Config HF.out (H1.out.ext X.out) (H2.out.ext X.out) (H3.out.ext X.out)) _ T.out).mono ?_);rintro e w7 ⟨rfl,hx7⟩;have X7:=Lib.hid (X.out.trans hx7);clear hx7 q0)
   go_ret
   exact ⟨ret_int HE.out.symm,X7.out⟩
 | true =>
   have hcl:=config_clear T.out
   have HNL:Hid (x.nodes.length≤6):=Lib.hid (clear_length hcl).2
   have hmz:=many_zero (a:=a) hcl
   obtain ⟨n,hn⟩:∃ n,(clearOf x.nodes a x.nodes.length).length=n:=⟨_,rfl⟩
   have HN:=Lib.hid hn
   have hmz':n=0↔cleared (labelsIn x.nodes) a=false:=by rw [← hn];exact hmz
   clear hcl hmz hn
   by_cases hz:n=0
   · subst hz
     have HE:Hid (quotaOf x a=0):=Lib.hid (by rw [quotaOf,if_neg (by rw [hmz'.1 rfl];simp)])
     clear hmz'
     go_wp2_with (first
      | (go_at_call 17;(with_reducible refine (configRight_is (S:=S) x [.slice A1 x.nodes.length c1,.slice A2 x.pairs.length c2,.slice A3 x.quotas.length c3,.int .i64 x.half] _ (rel_Config HF.out (H1.out.ext X.out) (H2.out.ext X.out) (H3.out.ext X.out)) _ T.out).mono ?_);rintro e w7 ⟨rfl,hx7⟩;have X7:=Lib.hid (X.out.trans hx7);have QA7:=Lib.hid (QA.out.ext hx7);have QB7:=Lib.hid (QB.out.ext hx7);clear hx7 q0;have q0:=QA7.out.cell;have p0:=QB7.out.cell)
      | (go_at_call 22;(with_reducible refine (clearForC_any (S:=S) x [.slice A1 x.nodes.length c1,.slice A2 x.pairs.length c2,.slice A3 x.quotas.length c3,.int .i64 x.half] a _ (rel_Config HF.out (H1.out.ext X7.out) (H2.out.ext X7.out) (H3.out.ext X7.out)) HNL.out).mono ?_);rintro e w8 ⟨v8,F8,rfl,o8,-,hx8⟩;obtain ⟨A8,c8,rfl,-⟩:=o8.form;rw [HN.out];have X8:=Lib.hid (X7.out.trans hx8);clear hx8 o8 q0 p0))
     go_ret
     exact ⟨ret_int HE.out.symm,X8.out⟩
   · have hn0:¬ ((n:Int)=0):=by omega
     have HE:Hid (quotaOf x a=quotaIn x.quotas a):=Lib.hid (by rw [quotaOf,if_pos ⟨T.out,by cases hb:cleared (labelsIn x.nodes) a with | true=>rfl | false=>exact absurd (hmz'.2 hb) hz⟩])
     clear hmz' hz
     go_upto_region 3 with (first
      | (go_at_call 17;(with_reducible refine (configRight_is (S:=S) x [.slice A1 x.nodes.length c1,.slice A2 x.pairs.length c2,.slice A3 x.quotas.length c3,.int .i64 x.half] _ (rel_Config HF.out (H1.out.ext X.out) (H2.out.ext X.out) (H3.out.ext X.out)) _ T.out).mono ?_);rintro e w7 ⟨rfl,hx7⟩;have X7:=Lib.hid (X.out.trans hx7);have QA7:=Lib.hid (QA.out.ext hx7);have QB7:=Lib.hid (QB.out.ext hx7);clear hx7 q0;have q0:=QA7.out.cell;have p0:=QB7.out.cell)
      | (go_at_call 22;(with_reducible refine (clearForC_any (S:=S) x [.slice A1 x.nodes.length c1,.slice A2 x.pairs.length c2,.slice A3 x.quotas.length c3,.int .i64 x.half] a _ (rel_Config HF.out (H1.out.ext X7.out) (H2.out.ext X7.out) (H3.out.ext X7.out)) HNL.out).mono ?_);rintro e w8 ⟨v8,F8,rfl,o8,-,hx8⟩;obtain ⟨A8,c8,rfl,-⟩:=o8.form;rw [HN.out];have X8:=Lib.hid (X7.out.trans hx8);have QA8:=Lib.hid (QA7.out.ext hx8);have QB8:=Lib.hid (QB7.out.ext hx8);clear hx8 o8 q0 p0;have q0:=QA8.out.cell 2))
     clear hn0
     go_wp2_with fail
     clear q0
     go_loopw [20] (fun i w'=>∃ k:Nat,k≤x.quotas.length∧i=.int .i64 k∧(∀ j,j < k→(nth x.quotas j).label≠a)∧Ext w8 w') (fun i _=>x.quotas.length - (intOf i).toNat)
     case atStart=>exact ⟨0,by omega,rfl,fun j hj=>by omega,Ext.refl _⟩
     case round =>
      obtain ⟨k,hk1,rfl,hall,hx⟩:=hrel
      have HA:=Lib.hid hall
      have HX:=Lib.hid hx
      clear hall
      by_cases hlt:k < x.quotas.length
      · obtain ⟨b,o,cs,rfl,_,⟨rfl,hfit⟩,hc⟩:=HK.out k hlt
        have hxw:=X8.out.trans hx
        have c0:=Ext.some hxw (hc 0 _ rfl)
        have c1:=Ext.some hxw (hc 1 _ rfl)
        have c2:=Ext.some hxw (hc 2 _ rfl)
        simp only [EQuota,Nat.add_zero] at c0 c1 c2
        have d0:=fun ob:Obj=>Ext.some (hx.alloc ob) (QB8.out.cell 0)
        have d1:=fun ob:Obj=>Ext.some (hx.alloc ob) (QB8.out.cell 1)
        have XR:=Lib.hid hxw
        clear hc hfit hx hxw
        by_cases he:(nth x.quotas k).label=a
        · have HQ:=Lib.hid (quotaIn_at hlt he HA.out)
          have g0:(nth x.quotas k).label.level=a.level:=by rw [he]
          have g1:(nth x.quotas k).label.set=a.set:=by rw [he]
          clear he
          go_wp2_with fail
          go_ret
          exact ⟨ret_int (by rw [HE.out,HQ.out]),XR.out.alloc _⟩
        · have HG:=Lib.hid (all_succ (p:=fun j=>(nth x.quotas j).label≠a) HA.out he)
          have ite__:=@ite_ok
          rcases label_ne he with g | g
          all_goals
           clear he
           go_wp2_with fail
           go_roundw
           case rel=>exact ⟨k+1,by omega,by go_num,HG.out,HX.out.alloc _⟩
           case measure=>simp [intOf];omega
      · have HQ:=Lib.hid (quotaIn_none (qs:=x.quotas) (a:=a) fun j hj=>HA.out j (by omega))
        clear hx
        go_wp2_with fail
        go_ret
        exact ⟨ret_int (by rw [HE.out,HQ.out]),X8.out.trans HX.out⟩
theorem call_yard1:∀ (args:Array Value) (W:World),(callFunc 61 args).run Tryz.prog W=.ok (.enter 61 args) W:=by
 intro args W
 go_simp
theorem call_yard2:∀ (args:Array Value) (W:World),(callFunc 63 args).run Tryz.prog W=.ok (.enter 63 args) W:=by
 intro args W
 go_simp
theorem yard1_any {S S':Nat→Prop} (y:Yard) (a:Label) (cs ds:List Value) (B:Nat) (w:World) (h:ELabel.rel S w cs a) (g:EYard.rel S' w ds y) (hb:Blk w B 35 ds.toArray) (hl:y.tasks.length≤96) :
 Calls Tryz.prog 61 #[.agg cs.toArray,.pointer (some ⟨B,0,none⟩)] w fun e w'=>e=.returned (.bool (overY y a))∧Ext w w':=by
 obtain ⟨rfl,-⟩:=h
 obtain ⟨v1,v2,v3,v4,v5,v6,rfl,hf,h1,h2,h3,h4,h5,h6⟩:=g
 obtain ⟨A1,c1,rfl,-⟩:=h1.form
 obtain ⟨A2,c2,rfl,-⟩:=h2.form
 obtain ⟨A3,c3,rfl,-⟩:=h3.form
 obtain ⟨A4,c4,rfl,-⟩:=h4.form
 obtain ⟨A5,c5,rfl,-⟩:=h5.form
 obtain ⟨A6,c6,rfl,-⟩:=h6.form
 have HF:Hid (FitConfig y.config):=Lib.hid hf.1
 have H1:=Lib.hid h1
 have H2:=Lib.hid h2
 have H3:=Lib.hid h3
 have H5:=Lib.hid h5
 have HL:=Lib.hid hl
 have QY:=Lib.hid hb
 clear hf h1 h2 h3 h4 h5 h6 hb hl
 simp only [cellsLabel,cellsYard] at QY ⊢
 go_enter Tryz.func61,Tryz.ntmps61
 go_upto_region 1 with (fail)
 obtain ⟨W,C,hW,hC,hx0,b0⟩:∃ W C,W=w.alloc (.cells #[.int .i64 a.level,.int .i64 a.set] 24)∧C=w.heap.size∧Ext w W∧Blk W C 24 #[.int .i64 a.level,.int .i64 a.set]:=⟨_,_,rfl,rfl,(Ext.refl w).alloc _,Blk.new _ _ _⟩
 rw [← hW,← hC]
 have X:=Lib.hid hx0
 have y0:=(QY.out.ext hx0).cell 0
 have y1:=(QY.out.ext hx0).cell 1
 have y2:=(QY.out.ext hx0).cell 2
 have y3:=(QY.out.ext hx0).cell 3
 have y5:=(QY.out.ext hx0).cell 5
 have b1:=b0.cell 1
 replace b0:=b0.cell 0
 simp only [List.getElem?_toArray,List.getElem?_cons_succ,List.getElem?_cons_zero] at y0 y1 y2 y3 y5 b0 b1
 clear hW hC hx0
 refine wp_region_ext (by kernel_rfl) (by kernel_rfl) ?_
 repeat (
  (refine wpQuiet_step (fun K hK=>?_)
   go_simp
   first
    | (refine hK _ ?_;clear hK K)
    | (apply Exists.intro
       refine ⟨fun w__ hx__=>?_,hK _ ?_⟩
       · have b0__:=Ext.some hx__ b0;have b1__:=Ext.some hx__ b1;have y0__:=Ext.some hx__ y0;have y1__:=Ext.some hx__ y1;have y2__:=Ext.some hx__ y2;have y3__:=Ext.some hx__ y3;have y5__:=Ext.some hx__ y5;first | exact rfl | (go_simp;done) | (go_simp;exact rfl) | (go_at_call 25;exact ext_of hx__ (liveOfN_any (S:=S') y.tasks a _ _ (H5.out.ext (X.out.trans hx__)) HL.out)) | (go_at_call 26;exact ext_of hx__ (quotaOf_any (S:=S') y.config _ a _ (rel_Config HF.out (H1.out.ext (X.out.trans hx__)) (H2.out.ext (X.out.trans hx__)) (H3.out.ext (X.out.trans hx__)))))
       clear hK K)))
 refine wpQuiet_nil ?_
 intro w1 hx1
 have X1:=Lib.hid (X.out.trans hx1)
 clear hx1 b0 b1 y0 y1 y2 y3 y5
 go_wp2_with fail
 go_ret
 exact ⟨ret_bool (by unfold overY;first | rfl | (go_light;simp)),X1.out⟩
theorem yard2_any {S S':Nat→Prop} (ls:List Label) (x:Use) (cs:List Value) (v:Value) (B:Nat) (w:World) (h:EUse.rel S w cs x) (g:Rd ELabel S' w v ls) (hb:Blk w B 39 #[v]) :
 Calls Tryz.prog 63 #[.agg cs.toArray,.pointer (some ⟨B,0,none⟩)] w fun e w'=>e=.returned (.bool (useBad ls x))∧Ext w w':=by
 obtain ⟨rfl,-⟩:=h
 have HR:=Lib.hid g
 obtain ⟨A,c,rfl,-⟩:=g.form
 have b0:=fun ob:Obj=>Ext.some ((Ext.refl w).alloc ob) (hb.cell 0)
 clear g hb
 simp only [cellsUse]
 go_enter Tryz.func63,Tryz.ntmps63
 go_wp2_with (go_at_call 64;(with_reducible refine (containsLabel_any (S:=S') ls x.label _ _ (HR.out.ext ((Ext.refl _).alloc _))).mono ?_);rintro e w1 ⟨rfl,hx1⟩;have HX1:=Lib.hid hx1;clear hx1)
 go_ret
 exact ⟨ret_bool (by rw [useBad]),((Ext.refl _).alloc _).trans HX1.out⟩
end Go.Proofs.YtoblacfjmcpbmaaGreat
namespace Go.Proofs.YtoblacfjmcpbmaaGreat
open Go.RowKit
attribute [local irreducible] wpQuiet
theorem taskFits_any {S S':Nat→Prop} (y:Yard) (x:Task) (cs ds:List Value) (w:World) (h:EYard.rel S w cs y) (g:ETask.rel S' w ds x) (hn:y.config.nodes.length≤6) (hw:nowOk y.now=true) (ht:taskRight x=true) :
 Calls Tryz.prog 59 #[.agg cs.toArray,.agg ds.toArray] w fun e w'=>e=.returned (.bool (fitsY y.config.nodes y.now x))∧Ext w w':=by
 obtain ⟨v1,v2,v3,v4,v5,v6,rfl,hf,h1,h2,h3,h4,h5,h6⟩:=h
 obtain ⟨A1,c1,rfl,-⟩:=h1.form
 obtain ⟨A2,c2,rfl,-⟩:=h2.form
 obtain ⟨A3,c3,rfl,-⟩:=h3.form
 obtain ⟨A4,c4,rfl,-⟩:=h4.form
 obtain ⟨A5,c5,rfl,-⟩:=h5.form
 obtain ⟨A6,c6,rfl,-⟩:=h6.form
 obtain ⟨u1,rfl,gf,g1⟩:=g
 obtain ⟨AT,cT,rfl,-⟩:=g1.form
 have HFC:Hid (FitConfig y.config):=Lib.hid hf.1
 have GF:=Lib.hid gf
 have H1:=Lib.hid h1
 have H2:=Lib.hid h2
 have H3:=Lib.hid h3
 have G1:=Lib.hid g1
 have HNL:=Lib.hid hn
 have HT:=Lib.hid ht
 obtain ⟨n0,n1⟩:=now_bounds hw
 have N0:=Lib.hid n0
 have N1:=Lib.hid n1
 clear hf gf h1 h2 h3 h4 h5 h6 g1 hn ht hw n0 n1
 obtain ⟨n,hn⟩:∃ n,(clearOf y.config.nodes x.label y.config.nodes.length).length=n:=⟨_,rfl⟩
 have HN:=Lib.hid hn
 have HM:Hid ((manyOf y.config.nodes x.label:Int)=(n:Int)):=Lib.hid (by rw [manyOf,hn])
 clear hn
 simp only [cellsYard,cellsTask]
 go_enter Tryz.func59,Tryz.ntmps59
 go_upto_region 1 with (fail)
 obtain ⟨W,B,hW,hB,hx0,a0,b0⟩:=boxes2 w #[.slice A1 y.config.nodes.length c1,.slice A2 y.config.pairs.length c2,.slice A3 y.config.quotas.length c3,.int .i64 y.config.half,.slice A4 y.nodes.length c4,.slice A5 y.tasks.length c5,.slice A6 y.uses.length c6,.int .i64 y.now] #[.int .i64 x.label.level,.int .i64 x.label.set,.int .i64 x.id,.string x.owner,.int .i64 x.need,.int .i64 x.long,.int .i64 x.prio,.int .i64 x.under.level,.int .i64 x.under.set,.int .i64 x.after,.int .i64 x.born,.int .i64 x.state,.int .i64 x.start,.slice AT x.nodes.length cT] 35 46
 rw [← hW,← hB]
 have QA:=Lib.hid a0
 have QB:=Lib.hid b0
 have X:=Lib.hid hx0
 clear hW hB hx0 a0 b0
 have qa:=QA.out.cell
 have qb:=QB.out.cell
 go_upto_region 2 with (go_at_call 22;(with_reducible refine (clearForC_any (S:=S) y.config [.slice A1 y.config.nodes.length c1,.slice A2 y.config.pairs.length c2,.slice A3 y.config.quotas.length c3,.int .i64 y.config.half] x.label _ (rel_Config HFC.out (H1.out.ext X.out) (H2.out.ext X.out) (H3.out.ext X.out)) HNL.out).mono ?_);rintro e w7 ⟨v7,F7,rfl,o7,-,hx7⟩;obtain ⟨A7,c7,rfl,-⟩:=o7.form;have O7:=Lib.hid o7.rd;rw [HN.out] at O7 ⊢;have H7:=Lib.hid hx7;clear hx7 o7 qa qb)
 obtain ⟨W8,B8,hW8,hB8,hx8,b8⟩:∃ W B,W=w7.alloc (.cells #[.slice A7 n c7] 44)∧B=w7.heap.size∧Ext w7 W∧Blk W B 44 #[.slice A7 n c7]:=⟨_,_,rfl,rfl,(Ext.refl w7).alloc _,Blk.new _ _ _⟩
 rw [← hW8,← hB8]
 have X8:=Lib.hid ((X.out.trans H7.out).trans hx8)
 replace QA:=Lib.hid (QA.out.ext (H7.out.trans hx8))
 replace QB:=Lib.hid (QB.out.ext (H7.out.trans hx8))
 have Q8:=Lib.hid b8
 have R7:=Lib.hid (O7.out.ext hx8)
 clear hW8 hB8 hx8 b8
 have qa:=QA.out.cell
 have qb:=QB.out.cell
 have q8:=Q8.out.cell 0
 by_cases k1:(n:Int) < x.need
 · have HE:=Lib.hid (fits_few (ns:=y.config.nodes) (now:=y.now) (x:=x) (by rw [HM.out];exact k1))
   go_wp2_with fail
   go_ret
   exact ⟨ret_bool HE.out.symm,X8.out⟩
 by_cases k2:y.now < x.born
 · have HE:=Lib.hid (fits_late (ns:=y.config.nodes) (x:=x) k2)
   go_wp2_with fail
   go_ret
   exact ⟨ret_bool HE.out.symm,X8.out⟩
 have hcl:∀ (cs:List Value) (m:Int) (V:World),Ext W8 V→EInt.rel S' V cs m→Calls Tryz.prog 116 #[cs.headD undef,.pointer (some ⟨B8,0,none⟩)] V fun e w'=>e=.returned (.bool (nodeOut y.config.nodes x.label m))∧Ext V w':=fun cs m V hx hr=>by
  obtain ⟨rfl,_⟩:=hr
  exact fits1_any (S:=fun b=>b∈F7) y.config.nodes x.label m _ B8 V (R7.out.ext hx) (Q8.out.ext hx)
 have CLO:=Lib.hid hcl
 clear hcl
 obtain ⟨t,ht⟩:∃ t,x.nodes.all (nodeIn y.config.nodes x.label)=t:=⟨_,rfl⟩
 have T:Hid (x.nodes.any (nodeOut y.config.nodes x.label) = !t):=Lib.hid (by rw [any_out,ht])
 cases t with
 | false =>
   have HE:=Lib.hid (fits_out (now:=y.now) ht)
   clear ht
   go_wp2_with (go_at_call 115;(with_reducible refine (containsFunc_Int_1 (S:=S') x.nodes (nodeOut y.config.nodes x.label) _ _ _ _ (G1.out.ext X8.out) call_fits1 CLO.out).mono ?_);rintro e w9 ⟨rfl,hx9⟩;rw [T.out];have X9:=Lib.hid (X8.out.trans hx9);have E9:=Lib.hid hx9;clear hx9 qa qb q8)
   go_ret
   exact ⟨ret_bool HE.out.symm,X9.out⟩
 | true =>
   have HE:=Lib.hid (fits_place (by rw [HM.out];exact k1) k2 ht)
   clear ht
   go_upto_region 6 with (go_at_call 115;(with_reducible refine (containsFunc_Int_1 (S:=S') x.nodes (nodeOut y.config.nodes x.label) _ _ _ _ (G1.out.ext X8.out) call_fits1 CLO.out).mono ?_);rintro e w9 ⟨rfl,hx9⟩;rw [T.out];have X9:=Lib.hid (X8.out.trans hx9);have E9:=Lib.hid hx9;clear hx9 qa qb q8)
   replace QA:=Lib.hid (QA.out.ext E9.out)
   replace QB:=Lib.hid (QB.out.ext E9.out)
   have s9:w9.cell? ⟨B+1,11,none⟩=some (.int .i64 x.state):=QB.out.cell 11
   have e12:w9.cell? ⟨B+1,12,none⟩=some (.int .i64 x.start):=QB.out.cell 12
   have y7:w9.cell? ⟨B,7,none⟩=some (.int .i64 y.now):=QA.out.cell 7
   clear k1 k2
   by_cases hs:x.state=2
   · have HP:=Lib.hid (place_runs (now:=y.now) hs)
     obtain ⟨s0,s1,l0,l1⟩:=runs_bounds HT.out hs
     have SB:=Lib.hid (And.intro s0 (And.intro s1 (And.intro l0 l1)))
     clear s0 s1 l0 l1
     have e0:w9.cell? ⟨B+1,0,none⟩=some (.int .i64 x.label.level):=QB.out.cell 0
     have e1:w9.cell? ⟨B+1,1,none⟩=some (.int .i64 x.label.set):=QB.out.cell 1
     have e2:w9.cell? ⟨B+1,2,none⟩=some (.int .i64 x.id):=QB.out.cell 2
     have e3:w9.cell? ⟨B+1,3,none⟩=some (.string x.owner):=QB.out.cell 3
     have e4:w9.cell? ⟨B+1,4,none⟩=some (.int .i64 x.need):=QB.out.cell 4
     have e5:w9.cell? ⟨B+1,5,none⟩=some (.int .i64 x.long):=QB.out.cell 5
     have e6:w9.cell? ⟨B+1,6,none⟩=some (.int .i64 x.prio):=QB.out.cell 6
     have e7:w9.cell? ⟨B+1,7,none⟩=some (.int .i64 x.under.level):=QB.out.cell 7
     have e8:w9.cell? ⟨B+1,8,none⟩=some (.int .i64 x.under.set):=QB.out.cell 8
     have e9:w9.cell? ⟨B+1,9,none⟩=some (.int .i64 x.after):=QB.out.cell 9
     have e10:w9.cell? ⟨B+1,10,none⟩=some (.int .i64 x.born):=QB.out.cell 10
     have e13:w9.cell? ⟨B+1,13,none⟩=some (.slice AT x.nodes.length cT):=QB.out.cell 13
     by_cases hst:x.start≤y.now
     · have hd:=decide_eq_true hst
       have HQ:Hid (fitsY y.config.nodes y.now x=decide (y.now < endOf x)):=Lib.hid (by rw [HE.out,HP.out,decide_eq_true hst,Bool.true_and])
       go_wp2_with fail
       clear hs
       refine wp_region_ext (by kernel_rfl) (by kernel_rfl) ?_
       repeat (
        (refine wpQuiet_step (fun K hK=>?_)
         go_simp
         first
          | (refine hK _ ?_;clear hK K)
          | (apply Exists.intro
             refine ⟨fun w__ hx__=>?_,hK _ ?_⟩
             · have e0__:=Ext.some hx__ e0;have e1__:=Ext.some hx__ e1;have e2__:=Ext.some hx__ e2;have e3__:=Ext.some hx__ e3;have e4__:=Ext.some hx__ e4;have e5__:=Ext.some hx__ e5;have e6__:=Ext.some hx__ e6;have e7__:=Ext.some hx__ e7;have e8__:=Ext.some hx__ e8;have e9__:=Ext.some hx__ e9;have e10__:=Ext.some hx__ e10;have s9__:=Ext.some hx__ s9;have e12__:=Ext.some hx__ e12;have e13__:=Ext.some hx__ e13;have y7__:=Ext.some hx__ y7;first | exact rfl | (go_simp;done) | (go_simp;exact rfl) | (go_at_call 38;exact ext_of hx__ (taskEnd_any (S:=S') x _ _ (rel_Task GF.out (G1.out.ext (X9.out.trans hx__))) SB.out.1 SB.out.2.1 SB.out.2.2.1 SB.out.2.2.2))
             clear hK K)))
       refine wpQuiet_nil ?_
       intro w1 hx1
       have HZ:=Lib.hid (X9.out.trans hx1)
       clear e0 e1 e2 e3 e4 e5 e6 e7 e8 e9 e10 s9 e12 e13 y7 hx1
       go_wp2_with fail
       go_ret
       exact ⟨ret_bool HQ.out.symm,HZ.out⟩
     · have hd:=decide_eq_false hst
       have HQ:Hid (fitsY y.config.nodes y.now x=false):=Lib.hid (by rw [HE.out,HP.out,decide_eq_false hst,Bool.false_and])
       go_wp2_with fail
       clear hs
       refine wp_region_ext (by kernel_rfl) (by kernel_rfl) ?_
       repeat (
        (refine wpQuiet_step (fun K hK=>?_)
         go_simp
         first
          | (refine hK _ ?_;clear hK K)
          | (apply Exists.intro
             refine ⟨fun w__ hx__=>?_,hK _ ?_⟩
             · have e0__:=Ext.some hx__ e0;have e1__:=Ext.some hx__ e1;have e2__:=Ext.some hx__ e2;have e3__:=Ext.some hx__ e3;have e4__:=Ext.some hx__ e4;have e5__:=Ext.some hx__ e5;have e6__:=Ext.some hx__ e6;have e7__:=Ext.some hx__ e7;have e8__:=Ext.some hx__ e8;have e9__:=Ext.some hx__ e9;have e10__:=Ext.some hx__ e10;have s9__:=Ext.some hx__ s9;have e12__:=Ext.some hx__ e12;have e13__:=Ext.some hx__ e13;have y7__:=Ext.some hx__ y7;first | exact rfl | (go_simp;done) | (go_simp;exact rfl) | fail
             clear hK K)))
       refine wpQuiet_nil ?_
       intro w1 hx1
       have HZ:=Lib.hid (X9.out.trans hx1)
       clear e0 e1 e2 e3 e4 e5 e6 e7 e8 e9 e10 s9 e12 e13 y7 hx1
       go_wp2_with fail
       go_ret
       exact ⟨ret_bool HQ.out.symm,HZ.out⟩
   · by_cases hz:0 < x.nodes.length
     · have HP:=Lib.hid (place_rests (now:=y.now) hs hz)
       have hz':(0:Int) < (x.nodes.length:Int):=by omega
       have i1:IntKind.i64.wrap (y.now+1)=y.now+1:=IntWalk.i64_in _ (by have:=N0.out;have:=N1.out;omega)
       have i2:IntKind.i64.wrap (y.now+40)=y.now+40:=IntWalk.i64_in _ (by have:=N0.out;have:=N1.out;omega)
       have e0:w9.cell? ⟨B+1,0,none⟩=some (.int .i64 x.label.level):=QB.out.cell 0
       have e1:w9.cell? ⟨B+1,1,none⟩=some (.int .i64 x.label.set):=QB.out.cell 1
       have e2:w9.cell? ⟨B+1,2,none⟩=some (.int .i64 x.id):=QB.out.cell 2
       have e3:w9.cell? ⟨B+1,3,none⟩=some (.string x.owner):=QB.out.cell 3
       have e4:w9.cell? ⟨B+1,4,none⟩=some (.int .i64 x.need):=QB.out.cell 4
       have e5:w9.cell? ⟨B+1,5,none⟩=some (.int .i64 x.long):=QB.out.cell 5
       have e6:w9.cell? ⟨B+1,6,none⟩=some (.int .i64 x.prio):=QB.out.cell 6
       have e7:w9.cell? ⟨B+1,7,none⟩=some (.int .i64 x.under.level):=QB.out.cell 7
       have e8:w9.cell? ⟨B+1,8,none⟩=some (.int .i64 x.under.set):=QB.out.cell 8
       have e9:w9.cell? ⟨B+1,9,none⟩=some (.int .i64 x.after):=QB.out.cell 9
       have e10:w9.cell? ⟨B+1,10,none⟩=some (.int .i64 x.born):=QB.out.cell 10
       have e13:w9.cell? ⟨B+1,13,none⟩=some (.slice AT x.nodes.length cT):=QB.out.cell 13
       go_wp2_with (first | (go_at_call 118;(with_reducible refine (hasPlace_any _ _ _ _ _ _ _ _ _ _ _ _ _ _ _ _ _).mono ?_);rintro e w10 ⟨rfl,hx10⟩;have XE:=Lib.hid (X9.out.trans hx10);replace e12:=Ext.some hx10 e12;replace y7:=Ext.some hx10 y7;clear hx10 e0 e1 e2 e3 e4 e5 e6 e7 e8 e9 e10 s9 e13) | (go_at_call 30;(with_reducible refine (within_any _ _ _ _).mono ?_);rintro e w11 ⟨rfl,rfl⟩))
       go_ret
       exact ⟨ret_bool (by rw [HE.out,HP.out]),XE.out⟩
     · have HP:=Lib.hid (place_none (now:=y.now) hs hz)
       have e0:w9.cell? ⟨B+1,0,none⟩=some (.int .i64 x.label.level):=QB.out.cell 0
       have e1:w9.cell? ⟨B+1,1,none⟩=some (.int .i64 x.label.set):=QB.out.cell 1
       have e2:w9.cell? ⟨B+1,2,none⟩=some (.int .i64 x.id):=QB.out.cell 2
       have e3:w9.cell? ⟨B+1,3,none⟩=some (.string x.owner):=QB.out.cell 3
       have e4:w9.cell? ⟨B+1,4,none⟩=some (.int .i64 x.need):=QB.out.cell 4
       have e5:w9.cell? ⟨B+1,5,none⟩=some (.int .i64 x.long):=QB.out.cell 5
       have e6:w9.cell? ⟨B+1,6,none⟩=some (.int .i64 x.prio):=QB.out.cell 6
       have e7:w9.cell? ⟨B+1,7,none⟩=some (.int .i64 x.under.level):=QB.out.cell 7
       have e8:w9.cell? ⟨B+1,8,none⟩=some (.int .i64 x.under.set):=QB.out.cell 8
       have e9:w9.cell? ⟨B+1,9,none⟩=some (.int .i64 x.after):=QB.out.cell 9
       have e10:w9.cell? ⟨B+1,10,none⟩=some (.int .i64 x.born):=QB.out.cell 10
       have e13:w9.cell? ⟨B+1,13,none⟩=some (.slice AT x.nodes.length cT):=QB.out.cell 13
       go_wp2_with (go_at_call 118;(with_reducible refine (hasPlace_any _ _ _ _ _ _ _ _ _ _ _ _ _ _ _ _ _).mono ?_);rintro e w10 ⟨rfl,hx10⟩;have XE:=Lib.hid (X9.out.trans hx10);replace e12:=Ext.some hx10 e12;replace y7:=Ext.some hx10 y7;clear hx10 e0 e1 e2 e3 e4 e5 e6 e7 e8 e9 e10 s9 e13)
       go_ret
       exact ⟨ret_bool (by rw [HE.out,HP.out]),XE.out⟩
theorem taskFits_is {S S':Nat→Prop} (y:Yard) (x:Task) (cs ds:List Value) (w:World) (h:EYard.rel S w cs y) (g:ETask.rel S' w ds x) (hn:y.config.nodes.length≤6) (hw:nowOk y.now=true) (ht:taskRight x=true) (r:Bool) (hr:fitsY y.config.nodes y.now x=r) :
 Calls Tryz.prog 59 #[.agg cs.toArray,.agg ds.toArray] w fun e w'=>e=.returned (.bool r)∧Ext w w':=by
 subst hr
 exact taskFits_any y x cs ds w h g hn hw ht
theorem yardRight_any {S:Nat→Prop} (y:Yard) (cs:List Value) (w:World) (h:EYard.rel S w cs y) :
 Calls Tryz.prog 20 #[.agg cs.toArray] w fun e w'=>e=.returned (.bool (yardRight y))∧Ext w w':=by
 obtain ⟨v1,v2,v3,v4,v5,v6,rfl,hf,h1,h2,h3,h4,h5,h6⟩:=h
 obtain ⟨A1,c1,rfl,-⟩:=h1.form
 obtain ⟨A2,c2,rfl,-⟩:=h2.form
 obtain ⟨A3,c3,rfl,-⟩:=h3.form
 obtain ⟨A4,c4,rfl,-⟩:=h4.form
 have H5:=Lib.hid h5
 obtain ⟨A5,c5,rfl,l5,m5,hk5⟩:=h5.open_
 unfold maxLen at m5
 obtain ⟨A6,c6,rfl,-⟩:=h6.form
 have HF:=Lib.hid hf
 have HFC:Hid (FitConfig y.config):=Lib.hid hf.1
 have H1:=Lib.hid h1
 have H2:=Lib.hid h2
 have H3:=Lib.hid h3
 have H4:=Lib.hid h4
 have H6:=Lib.hid h6
 have HK:=Lib.hid hk5
 clear hf h1 h2 h3 h4 h5 h6 hk5
 simp only [cellsYard]
 obtain ⟨t1,ht1⟩:∃ t,configRight y.config=t:=⟨_,rfl⟩
 obtain ⟨t3,ht3⟩:∃ t,nodesRight y.nodes=t:=⟨_,rfl⟩
 obtain ⟨t4,ht4⟩:∃ t,tasksRight y.tasks=t:=⟨_,rfl⟩
 obtain ⟨t5,ht5⟩:∃ t,usesRight y.uses=t:=⟨_,rfl⟩
 obtain ⟨t6,ht6⟩:∃ t,nowOk y.now=t:=⟨_,rfl⟩
 have T1:=Lib.hid ht1
 have T3:=Lib.hid ht3
 have T4:=Lib.hid ht4
 have T5:=Lib.hid ht5
 have T6:=Lib.hid ht6
 clear ht1 ht3 ht4 ht5 ht6
 go_enter Tryz.func20,Tryz.ntmps20
 go_upto_region 1 with (fail)
 obtain ⟨W,B,hW,hB,hx0,b0⟩:∃ W B,W=w.alloc (.cells #[.slice A1 y.config.nodes.length c1,.slice A2 y.config.pairs.length c2,.slice A3 y.config.quotas.length c3,.int .i64 y.config.half,.slice A4 y.nodes.length c4,.slice A5 y.tasks.length c5,.slice A6 y.uses.length c6,.int .i64 y.now] 35)∧B=w.heap.size∧Ext w W∧Blk W B 35 #[.slice A1 y.config.nodes.length c1,.slice A2 y.config.pairs.length c2,.slice A3 y.config.quotas.length c3,.int .i64 y.config.half,.slice A4 y.nodes.length c4,.slice A5 y.tasks.length c5,.slice A6 y.uses.length c6,.int .i64 y.now]:=⟨_,_,rfl,rfl,(Ext.refl w).alloc _,Blk.new _ _ _⟩
 rw [← hW,← hB]
 have QA:=Lib.hid b0
 have X:=Lib.hid hx0
 clear hW hB hx0 b0
 have qa:=QA.out.cell
 cases t1 with
 | false =>
   have HN:=Lib.hid (yard_head (y:=y) (by simp [yardHead,T1.out]))
   go_wp2_with (first | (go_at_call 17;(with_reducible refine (configRight_is (S:=S) y.config [.slice A1 y.config.nodes.length c1,.slice A2 y.config.pairs.length c2,.slice A3 y.config.quotas.length c3,.int .i64 y.config.half] _ (rel_Config HFC.out (H1.out.ext X.out) (H2.out.ext X.out) (H3.out.ext X.out)) _ T1.out).mono ?_);rintro e w7 ⟨rfl,hx7⟩;replace X:=Lib.hid (X.out.trans hx7);replace QA:=Lib.hid (QA.out.ext hx7);clear hx7 qa;have qa:=QA.out.cell) | (go_at_call 57;(with_reducible refine (nodesRight_is (S:=S) y.nodes _ _ (H4.out.ext X.out) _ T3.out).mono ?_);rintro e w7 ⟨rfl,hx7⟩;replace X:=Lib.hid (X.out.trans hx7);replace QA:=Lib.hid (QA.out.ext hx7);clear hx7 qa;have qa:=QA.out.cell) | (go_at_call 31;(with_reducible refine (tasksRight_is (S:=S) y.tasks _ _ (H5.out.ext X.out) _ T4.out).mono ?_);rintro e w7 ⟨rfl,hx7⟩;replace X:=Lib.hid (X.out.trans hx7);replace QA:=Lib.hid (QA.out.ext hx7);clear hx7 qa;have qa:=QA.out.cell) | (go_at_call 34;(with_reducible refine (usesRight_is (S:=S) y.uses _ _ (H6.out.ext X.out) _ T5.out).mono ?_);rintro e w7 ⟨rfl,hx7⟩;replace X:=Lib.hid (X.out.trans hx7);replace QA:=Lib.hid (QA.out.ext hx7);clear hx7 qa;have qa:=QA.out.cell) | (go_at_call 58;(with_reducible refine (isNowY_is _ _ _ T6.out).mono ?_);rintro e w8 ⟨rfl,rfl⟩))
   go_ret
   exact ⟨ret_bool HN.out.symm,X.out⟩
 | true =>
   by_cases hl:y.nodes.length=y.config.nodes.length
   case neg =>
    have hl':¬ ((y.nodes.length:Int)=(y.config.nodes.length:Int)):=by omega
    have HN:=Lib.hid (yard_head (y:=y) (by simp [yardHead,hl]))
    go_wp2_with (first | (go_at_call 17;(with_reducible refine (configRight_is (S:=S) y.config [.slice A1 y.config.nodes.length c1,.slice A2 y.config.pairs.length c2,.slice A3 y.config.quotas.length c3,.int .i64 y.config.half] _ (rel_Config HFC.out (H1.out.ext X.out) (H2.out.ext X.out) (H3.out.ext X.out)) _ T1.out).mono ?_);rintro e w7 ⟨rfl,hx7⟩;replace X:=Lib.hid (X.out.trans hx7);replace QA:=Lib.hid (QA.out.ext hx7);clear hx7 qa;have qa:=QA.out.cell) | (go_at_call 57;(with_reducible refine (nodesRight_is (S:=S) y.nodes _ _ (H4.out.ext X.out) _ T3.out).mono ?_);rintro e w7 ⟨rfl,hx7⟩;replace X:=Lib.hid (X.out.trans hx7);replace QA:=Lib.hid (QA.out.ext hx7);clear hx7 qa;have qa:=QA.out.cell) | (go_at_call 31;(with_reducible refine (tasksRight_is (S:=S) y.tasks _ _ (H5.out.ext X.out) _ T4.out).mono ?_);rintro e w7 ⟨rfl,hx7⟩;replace X:=Lib.hid (X.out.trans hx7);replace QA:=Lib.hid (QA.out.ext hx7);clear hx7 qa;have qa:=QA.out.cell) | (go_at_call 34;(with_reducible refine (usesRight_is (S:=S) y.uses _ _ (H6.out.ext X.out) _ T5.out).mono ?_);rintro e w7 ⟨rfl,hx7⟩;replace X:=Lib.hid (X.out.trans hx7);replace QA:=Lib.hid (QA.out.ext hx7);clear hx7 qa;have qa:=QA.out.cell) | (go_at_call 58;(with_reducible refine (isNowY_is _ _ _ T6.out).mono ?_);rintro e w8 ⟨rfl,rfl⟩))
    go_ret
    exact ⟨ret_bool HN.out.symm,X.out⟩
   case pos =>
    have HL:=Lib.hid hl
    have hl2:((y.nodes.length:Int) != (y.config.nodes.length:Int))=false:=by simp [hl]
    clear hl
    cases t3 with
    | false =>
      have HN:=Lib.hid (yard_head (y:=y) (by simp [yardHead,T3.out]))
      go_wp2_with (first | (go_at_call 17;(with_reducible refine (configRight_is (S:=S) y.config [.slice A1 y.config.nodes.length c1,.slice A2 y.config.pairs.length c2,.slice A3 y.config.quotas.length c3,.int .i64 y.config.half] _ (rel_Config HFC.out (H1.out.ext X.out) (H2.out.ext X.out) (H3.out.ext X.out)) _ T1.out).mono ?_);rintro e w7 ⟨rfl,hx7⟩;replace X:=Lib.hid (X.out.trans hx7);replace QA:=Lib.hid (QA.out.ext hx7);clear hx7 qa;have qa:=QA.out.cell) | (go_at_call 57;(with_reducible refine (nodesRight_is (S:=S) y.nodes _ _ (H4.out.ext X.out) _ T3.out).mono ?_);rintro e w7 ⟨rfl,hx7⟩;replace X:=Lib.hid (X.out.trans hx7);replace QA:=Lib.hid (QA.out.ext hx7);clear hx7 qa;have qa:=QA.out.cell) | (go_at_call 31;(with_reducible refine (tasksRight_is (S:=S) y.tasks _ _ (H5.out.ext X.out) _ T4.out).mono ?_);rintro e w7 ⟨rfl,hx7⟩;replace X:=Lib.hid (X.out.trans hx7);replace QA:=Lib.hid (QA.out.ext hx7);clear hx7 qa;have qa:=QA.out.cell) | (go_at_call 34;(with_reducible refine (usesRight_is (S:=S) y.uses _ _ (H6.out.ext X.out) _ T5.out).mono ?_);rintro e w7 ⟨rfl,hx7⟩;replace X:=Lib.hid (X.out.trans hx7);replace QA:=Lib.hid (QA.out.ext hx7);clear hx7 qa;have qa:=QA.out.cell) | (go_at_call 58;(with_reducible refine (isNowY_is _ _ _ T6.out).mono ?_);rintro e w8 ⟨rfl,rfl⟩))
      go_ret
      exact ⟨ret_bool HN.out.symm,X.out⟩
    | true =>
      cases t4 with
      | false =>
        have HN:=Lib.hid (yard_head (y:=y) (by simp [yardHead,T4.out]))
        go_wp2_with (first | (go_at_call 17;(with_reducible refine (configRight_is (S:=S) y.config [.slice A1 y.config.nodes.length c1,.slice A2 y.config.pairs.length c2,.slice A3 y.config.quotas.length c3,.int .i64 y.config.half] _ (rel_Config HFC.out (H1.out.ext X.out) (H2.out.ext X.out) (H3.out.ext X.out)) _ T1.out).mono ?_);rintro e w7 ⟨rfl,hx7⟩;replace X:=Lib.hid (X.out.trans hx7);replace QA:=Lib.hid (QA.out.ext hx7);clear hx7 qa;have qa:=QA.out.cell) | (go_at_call 57;(with_reducible refine (nodesRight_is (S:=S) y.nodes _ _ (H4.out.ext X.out) _ T3.out).mono ?_);rintro e w7 ⟨rfl,hx7⟩;replace X:=Lib.hid (X.out.trans hx7);replace QA:=Lib.hid (QA.out.ext hx7);clear hx7 qa;have qa:=QA.out.cell) | (go_at_call 31;(with_reducible refine (tasksRight_is (S:=S) y.tasks _ _ (H5.out.ext X.out) _ T4.out).mono ?_);rintro e w7 ⟨rfl,hx7⟩;replace X:=Lib.hid (X.out.trans hx7);replace QA:=Lib.hid (QA.out.ext hx7);clear hx7 qa;have qa:=QA.out.cell) | (go_at_call 34;(with_reducible refine (usesRight_is (S:=S) y.uses _ _ (H6.out.ext X.out) _ T5.out).mono ?_);rintro e w7 ⟨rfl,hx7⟩;replace X:=Lib.hid (X.out.trans hx7);replace QA:=Lib.hid (QA.out.ext hx7);clear hx7 qa;have qa:=QA.out.cell) | (go_at_call 58;(with_reducible refine (isNowY_is _ _ _ T6.out).mono ?_);rintro e w8 ⟨rfl,rfl⟩))
        go_ret
        exact ⟨ret_bool HN.out.symm,X.out⟩
      | true =>
        cases t5 with
        | false =>
          have HN:=Lib.hid (yard_head (y:=y) (by simp [yardHead,T5.out]))
          go_wp2_with (first | (go_at_call 17;(with_reducible refine (configRight_is (S:=S) y.config [.slice A1 y.config.nodes.length c1,.slice A2 y.config.pairs.length c2,.slice A3 y.config.quotas.length c3,.int .i64 y.config.half] _ (rel_Config HFC.out (H1.out.ext X.out) (H2.out.ext X.out) (H3.out.ext X.out)) _ T1.out).mono ?_);rintro e w7 ⟨rfl,hx7⟩;replace X:=Lib.hid (X.out.trans hx7);replace QA:=Lib.hid (QA.out.ext hx7);clear hx7 qa;have qa:=QA.out.cell) | (go_at_call 57;(with_reducible refine (nodesRight_is (S:=S) y.nodes _ _ (H4.out.ext X.out) _ T3.out).mono ?_);rintro e w7 ⟨rfl,hx7⟩;replace X:=Lib.hid (X.out.trans hx7);replace QA:=Lib.hid (QA.out.ext hx7);clear hx7 qa;have qa:=QA.out.cell) | (go_at_call 31;(with_reducible refine (tasksRight_is (S:=S) y.tasks _ _ (H5.out.ext X.out) _ T4.out).mono ?_);rintro e w7 ⟨rfl,hx7⟩;replace X:=Lib.hid (X.out.trans hx7);replace QA:=Lib.hid (QA.out.ext hx7);clear hx7 qa;have qa:=QA.out.cell) | (go_at_call 34;(with_reducible refine (usesRight_is (S:=S) y.uses _ _ (H6.out.ext X.out) _ T5.out).mono ?_);rintro e w7 ⟨rfl,hx7⟩;replace X:=Lib.hid (X.out.trans hx7);replace QA:=Lib.hid (QA.out.ext hx7);clear hx7 qa;have qa:=QA.out.cell) | (go_at_call 58;(with_reducible refine (isNowY_is _ _ _ T6.out).mono ?_);rintro e w8 ⟨rfl,rfl⟩))
          go_ret
          exact ⟨ret_bool HN.out.symm,X.out⟩
        | true =>
          cases t6 with
          | false =>
            have HN:=Lib.hid (yard_head (y:=y) (by simp [yardHead,T6.out]))
            go_wp2_with (first | (go_at_call 17;(with_reducible refine (configRight_is (S:=S) y.config [.slice A1 y.config.nodes.length c1,.slice A2 y.config.pairs.length c2,.slice A3 y.config.quotas.length c3,.int .i64 y.config.half] _ (rel_Config HFC.out (H1.out.ext X.out) (H2.out.ext X.out) (H3.out.ext X.out)) _ T1.out).mono ?_);rintro e w7 ⟨rfl,hx7⟩;replace X:=Lib.hid (X.out.trans hx7);replace QA:=Lib.hid (QA.out.ext hx7);clear hx7 qa;have qa:=QA.out.cell) | (go_at_call 57;(with_reducible refine (nodesRight_is (S:=S) y.nodes _ _ (H4.out.ext X.out) _ T3.out).mono ?_);rintro e w7 ⟨rfl,hx7⟩;replace X:=Lib.hid (X.out.trans hx7);replace QA:=Lib.hid (QA.out.ext hx7);clear hx7 qa;have qa:=QA.out.cell) | (go_at_call 31;(with_reducible refine (tasksRight_is (S:=S) y.tasks _ _ (H5.out.ext X.out) _ T4.out).mono ?_);rintro e w7 ⟨rfl,hx7⟩;replace X:=Lib.hid (X.out.trans hx7);replace QA:=Lib.hid (QA.out.ext hx7);clear hx7 qa;have qa:=QA.out.cell) | (go_at_call 34;(with_reducible refine (usesRight_is (S:=S) y.uses _ _ (H6.out.ext X.out) _ T5.out).mono ?_);rintro e w7 ⟨rfl,hx7⟩;replace X:=Lib.hid (X.out.trans hx7);replace QA:=Lib.hid (QA.out.ext hx7);clear hx7 qa;have qa:=QA.out.cell) | (go_at_call 58;(with_reducible refine (isNowY_is _ _ _ T6.out).mono ?_);rintro e w8 ⟨rfl,rfl⟩))
            go_ret
            exact ⟨ret_bool HN.out.symm,X.out⟩
          | true =>
            have HH:Hid (yardHead y=true):=Lib.hid (by simp [yardHead,T1.out,HL.out,T3.out,T4.out,T5.out,T6.out])
            have hcl:=config_clear T1.out
            have HNL:Hid (y.config.nodes.length≤6):=Lib.hid (clear_length hcl).2
            have HCL:=Lib.hid hcl
            have HLT:=Lib.hid (few_tasks T4.out)
            clear hcl
            go_upto_region 3 with (first | (go_at_call 17;(with_reducible refine (configRight_is (S:=S) y.config [.slice A1 y.config.nodes.length c1,.slice A2 y.config.pairs.length c2,.slice A3 y.config.quotas.length c3,.int .i64 y.config.half] _ (rel_Config HFC.out (H1.out.ext X.out) (H2.out.ext X.out) (H3.out.ext X.out)) _ T1.out).mono ?_);rintro e w7 ⟨rfl,hx7⟩;replace X:=Lib.hid (X.out.trans hx7);replace QA:=Lib.hid (QA.out.ext hx7);clear hx7 qa;have qa:=QA.out.cell) | (go_at_call 57;(with_reducible refine (nodesRight_is (S:=S) y.nodes _ _ (H4.out.ext X.out) _ T3.out).mono ?_);rintro e w7 ⟨rfl,hx7⟩;replace X:=Lib.hid (X.out.trans hx7);replace QA:=Lib.hid (QA.out.ext hx7);clear hx7 qa;have qa:=QA.out.cell) | (go_at_call 31;(with_reducible refine (tasksRight_is (S:=S) y.tasks _ _ (H5.out.ext X.out) _ T4.out).mono ?_);rintro e w7 ⟨rfl,hx7⟩;replace X:=Lib.hid (X.out.trans hx7);replace QA:=Lib.hid (QA.out.ext hx7);clear hx7 qa;have qa:=QA.out.cell) | (go_at_call 34;(with_reducible refine (usesRight_is (S:=S) y.uses _ _ (H6.out.ext X.out) _ T5.out).mono ?_);rintro e w7 ⟨rfl,hx7⟩;replace X:=Lib.hid (X.out.trans hx7);replace QA:=Lib.hid (QA.out.ext hx7);clear hx7 qa;have qa:=QA.out.cell) | (go_at_call 58;(with_reducible refine (isNowY_is _ _ _ T6.out).mono ?_);rintro e w8 ⟨rfl,rfl⟩))
            clear hl2
            go_upto_region 4 with (fail)
            clear qa
            obtain ⟨W3,B3,hW3,hB3,hx3,b3⟩:∃ W B,W=w7.alloc (.cells #[.bool false,.bool false,.bool false,.bool false,.bool false,.bool false] 110)∧B=w7.heap.size∧Ext w7 W∧Blk W B 110 (boolsN fun _=>false):=⟨_,_,rfl,rfl,(Ext.refl w7).alloc _,Blk.new _ _ _⟩
            rw [← hW3,← hB3]
            have X3:=Lib.hid hx3
            have Q3:=Lib.hid b3
            have HB3:Hid (w7.heap.size≤B3):=Lib.hid (by omega)
            have HNE:Hid (B∉[B3]):=Lib.hid (by have:=QA.out.lt;simp;omega)
            clear hW3 hB3 hx3 b3
            have qa:W3.cell? ⟨B,5,none⟩=some (.slice A5 y.tasks.length c5):=(QA.out.ext X3.out).cell 5
            go_wp2_with fail
            clear qa
            go_loopw [51] (fun i w'=>∃ k:Nat,k≤y.tasks.length∧i=.int .i64 k∧(∀ j,j < k→taskOkY y j=true)∧Blk w' B3 110 (boolsN (usedBy (y.tasks.take k)))∧Kept [B3] W3 w'∧Ext w7 w') (fun i _=>y.tasks.length - (intOf i).toNat)
            case atStart=>exact ⟨0,by omega,rfl,fun j hj=>by omega,by rw [used_start];exact Q3.out,Kept.refl _ _,X3.out⟩
            case round =>
             obtain ⟨k,hk1,rfl,hall,hb3,hkp,hx⟩:=hrel
             have HA:=Lib.hid hall
             have HB:=Lib.hid hb3
             have HKp:=Lib.hid hkp
             have HX:=Lib.hid hx
             clear hall hb3 hkp
             by_cases hlt:k < y.tasks.length
             · obtain ⟨b,o,cs,rfl,_,⟨vt,rfl,hft,hrt⟩,hc⟩:=HK.out k hlt
               obtain ⟨AT,cT,rfl,lt1,lt2,htk⟩:=hrt.open_
               unfold maxLen at lt2
               have hxw:=X.out.trans hx
               have z0:=Ext.some hxw (hc 0 _ rfl)
               have z1:=Ext.some hxw (hc 1 _ rfl)
               have z2:=Ext.some hxw (hc 2 _ rfl)
               have z3:=Ext.some hxw (hc 3 _ rfl)
               have z4:=Ext.some hxw (hc 4 _ rfl)
               have z5:=Ext.some hxw (hc 5 _ rfl)
               have z6:=Ext.some hxw (hc 6 _ rfl)
               have z7:=Ext.some hxw (hc 7 _ rfl)
               have z8:=Ext.some hxw (hc 8 _ rfl)
               have z9:=Ext.some hxw (hc 9 _ rfl)
               have z10:=Ext.some hxw (hc 10 _ rfl)
               have z11:=Ext.some hxw (hc 11 _ rfl)
               have z12:=Ext.some hxw (hc 12 _ rfl)
               have z13:=Ext.some hxw (hc 13 _ rfl)
               simp only [ETask,Nat.add_zero] at z0 z1 z2 z3 z4 z5 z6 z7 z8 z9 z10 z11 z12 z13
               have HFT:=Lib.hid hft
               have HRT:=Lib.hid hrt
               have HTK:=Lib.hid htk
               have HTR:=Lib.hid (all_right T4.out hlt)
               clear hc hft hrt htk hx hxw
               go_upto_region 7 with (fail)
               obtain ⟨W5,B5,hW5,hB5,hx5,b5⟩:∃ W B,W=wr.alloc (.cells #[.int .i64 (nth y.tasks k).label.level,.int .i64 (nth y.tasks k).label.set,.int .i64 (nth y.tasks k).id,.string (nth y.tasks k).owner,.int .i64 (nth y.tasks k).need,.int .i64 (nth y.tasks k).long,.int .i64 (nth y.tasks k).prio,.int .i64 (nth y.tasks k).under.level,.int .i64 (nth y.tasks k).under.set,.int .i64 (nth y.tasks k).after,.int .i64 (nth y.tasks k).born,.int .i64 (nth y.tasks k).state,.int .i64 (nth y.tasks k).start,.slice AT (nth y.tasks k).nodes.length cT] 46)∧B=wr.heap.size∧Ext wr W∧Blk W B 46 #[.int .i64 (nth y.tasks k).label.level,.int .i64 (nth y.tasks k).label.set,.int .i64 (nth y.tasks k).id,.string (nth y.tasks k).owner,.int .i64 (nth y.tasks k).need,.int .i64 (nth y.tasks k).long,.int .i64 (nth y.tasks k).prio,.int .i64 (nth y.tasks k).under.level,.int .i64 (nth y.tasks k).under.set,.int .i64 (nth y.tasks k).after,.int .i64 (nth y.tasks k).born,.int .i64 (nth y.tasks k).state,.int .i64 (nth y.tasks k).start,.slice AT (nth y.tasks k).nodes.length cT]:=⟨_,_,rfl,rfl,(Ext.refl wr).alloc _,Blk.new _ _ _⟩
               rw [← hW5,← hB5]
               have HB5:Hid (B5∉[B3]):=Lib.hid (by have:=HB.out.lt;simp;omega)
               have X5:=Lib.hid (HX.out.trans hx5)
               have Q5:=Lib.hid b5
               have QB:=Lib.hid (HB.out.ext hx5)
               have K5:=Lib.hid (HKp.out.trans (Kept.of_ext (F:=[B3]) hx5))
               clear hW5 hB5 hx5 b5 z0 z1 z2 z3 z4 z5 z6 z7 z8 z9 z10 z11 z12 z13
               have qa:=(QA.out.ext X5.out).cell
               have qt:=Q5.out.cell
               obtain ⟨t,ht⟩:∃ t,fitsY y.config.nodes y.now (nth y.tasks k)=t:=⟨_,rfl⟩
               have T:=Lib.hid ht
               clear ht
               cases t with
               | false =>
                 have HN:=Lib.hid (yard_task hlt (task_unfit T.out))
                 go_wp2_with (go_at_call 59;(with_reducible refine (taskFits_is (S:=S) (S':=S) y (nth y.tasks k) _ _ _ (rel_Yard HF.out (H1.out.ext (X.out.trans X5.out)) (H2.out.ext (X.out.trans X5.out)) (H3.out.ext (X.out.trans X5.out)) (H4.out.ext (X.out.trans X5.out)) (H5.out.ext (X.out.trans X5.out)) (H6.out.ext (X.out.trans X5.out))) (rel_Task HFT.out (HRT.out.ext (X.out.trans X5.out))) HNL.out T6.out HTR.out _ T.out).mono ?_);rintro e w8 ⟨rfl,hx8⟩;have X8:=Lib.hid hx8;clear hx8 qa qt)
                 go_ret
                 exact ⟨ret_bool HN.out.symm,X.out.trans (X5.out.trans X8.out)⟩
               | true =>
                 go_upto_region 9 with (go_at_call 59;(with_reducible refine (taskFits_is (S:=S) (S':=S) y (nth y.tasks k) _ _ _ (rel_Yard HF.out (H1.out.ext (X.out.trans X5.out)) (H2.out.ext (X.out.trans X5.out)) (H3.out.ext (X.out.trans X5.out)) (H4.out.ext (X.out.trans X5.out)) (H5.out.ext (X.out.trans X5.out)) (H6.out.ext (X.out.trans X5.out))) (rel_Task HFT.out (HRT.out.ext (X.out.trans X5.out))) HNL.out T6.out HTR.out _ T.out).mono ?_);rintro e w8 ⟨rfl,hx8⟩;have X8:=Lib.hid hx8;clear hx8 qa qt)
                 replace Q5:=Lib.hid (Q5.out.ext X8.out)
                 replace QB:=Lib.hid (QB.out.ext X8.out)
                 replace K5:=Lib.hid (K5.out.trans (Kept.of_ext (F:=[B3]) X8.out))
                 replace X5:=Lib.hid (X5.out.trans X8.out)
                 have qt:w8.cell? ⟨B5,13,none⟩=some (.slice AT (nth y.tasks k).nodes.length cT):=Q5.out.cell 13
                 go_wp2_with fail
                 clear qt
                 go_loopw [62] (fun i w'=>∃ j:Nat,j≤(nth y.tasks k).nodes.length∧i=.int .i64 j∧(∀ m,m < j→clashAt y.tasks k m=false)∧Blk w' B3 110 (boolsN (takenAt y.tasks k j))∧Kept [B3] w8 w'∧Ext w7 w') (fun i _=>(nth y.tasks k).nodes.length - (intOf i).toNat)
                 case atStart=>exact ⟨0,by omega,rfl,fun j hj=>by omega,by rw [taken_start];exact QB.out,Kept.refl _ _,X5.out⟩
                 case round =>
                  obtain ⟨j,hj1,rfl,hclash,hbj,hkj,hxj⟩:=hrel
                  have HC:=Lib.hid hclash
                  have HBJ:=Lib.hid hbj
                  have HKJ:=Lib.hid hkj
                  have HXJ:=Lib.hid hxj
                  have Q5J:Hid (Blk wr B5 46 _):=Lib.hid ((hkj.block B5 Q5.out.lt HB5.out).trans Q5.out)
                  clear hclash hbj hkj
                  by_cases hjt:j < (nth y.tasks k).nodes.length
                  · obtain ⟨b',o',cs',rfl,_,⟨rfl,hfn⟩,hc'⟩:=HTK.out j hjt
                    have z0:=Ext.some (X.out.trans hxj) (hc' 0 _ rfl)
                    simp only [EInt,Nat.mul_one,Nat.add_zero] at z0
                    have s9:wr.cell? ⟨B5,11,none⟩=some (.int .i64 (nth y.tasks k).state):=Q5J.out.cell 11
                    obtain ⟨p0,p5⟩:=node_bounds HTR.out hjt
                    have hge:(nth (nth y.tasks k).nodes j) < 6:=by omega
                    have tk:=HBJ.out.cell (nth (nth y.tasks k).nodes j).toNat
                    rw [bools_get p0 p5] at tk
                    have fz:=HBJ.out.frozen (nth (nth y.tasks k).nodes j).toNat
                    have P0:=Lib.hid p0
                    have P5:=Lib.hid p5
                    have HSET:=Lib.hid (HBJ.out.set_ (nth (nth y.tasks k).nodes j).toNat)
                    have HJ:=Lib.hid hjt
                    clear hc' hfn hxj p5
                    obtain ⟨u,hu⟩:∃ u,takenAt y.tasks k j (nth (nth y.tasks k).nodes j)=u:=⟨_,rfl⟩
                    rw [hu] at tk
                    have U:=Lib.hid hu
                    clear hu
                    by_cases hs:(nth y.tasks k).state=2
                    · have HR:Hid (runsB (nth y.tasks k)=true):=Lib.hid (by simp [runsB,hs])
                      cases u with
                      | true =>
                        have HN:=Lib.hid (yard_task hlt (task_clash hjt (by rw [clashAt,HR.out,U.out];rfl)))
                        go_wp2_with fail
                        go_ret
                        exact ⟨ret_bool HN.out.symm,X.out.trans HXJ.out⟩
                      | false =>
                        have HG:=Lib.hid (all_succ (p:=fun m=>clashAt y.tasks k m=false) HC.out (by rw [clashAt,HR.out,U.out];rfl))
                        go_wp2_with fail
                        go_roundw
                        case rel=>exact ⟨j+1,by omega,by go_num,HG.out,by rw [← taken_runs HJ.out HR.out P0.out P5.out];exact HSET.out _,HKJ.out.setCell (List.mem_cons_self ..) _,HXJ.out.setCell HB3.out _⟩
                        case measure=>simp [intOf];omega
                    · have HR:Hid (runsB (nth y.tasks k)=false):=Lib.hid (by simp [runsB,hs])
                      have hsb:((nth y.tasks k).state == 2)=false:=by simp [hs]
                      have HG:=Lib.hid (all_succ (p:=fun m=>clashAt y.tasks k m=false) HC.out (by rw [clashAt,HR.out];rfl))
                      cases u with
                      | true =>
                        go_wp2_with fail
                        go_roundw
                        case rel=>exact ⟨j+1,by omega,by go_num,HG.out,by rw [taken_rests HJ.out HR.out,← bools_same P0.out P5.out U.out];exact HSET.out _,HKJ.out.setCell (List.mem_cons_self ..) _,HXJ.out.setCell HB3.out _⟩
                        case measure=>simp [intOf];omega
                      | false =>
                        go_wp2_with fail
                        go_roundw
                        case rel=>exact ⟨j+1,by omega,by go_num,HG.out,by rw [taken_rests HJ.out HR.out,← bools_same P0.out P5.out U.out];exact HSET.out _,HKJ.out.setCell (List.mem_cons_self ..) _,HXJ.out.setCell HB3.out _⟩
                        case measure=>simp [intOf];omega
                  · obtain rfl:j=(nth y.tasks k).nodes.length:=by omega
                    have HG:=Lib.hid (all_succ (p:=fun m=>taskOkY y m=true) HA.out (task_ok T.out (fun m hm=>HC.out m hm)))
                    clear hxj
                    go_wp2_with fail
                    go_roundw
                    case rel=>exact ⟨k+1,by omega,by go_num,HG.out,by rw [← taken_end hlt];exact HBJ.out,K5.out.trans HKJ.out,HXJ.out⟩
                    case measure=>simp [intOf];omega
             · have HG:Hid (∀ i,i < y.tasks.length→taskOkY y i=true):=Lib.hid (fun j hj=>HA.out j (by omega))
               have qa:=(QA.out.ext hx).cell
               clear hx
               replace QA:=Lib.hid (QA.out.ext HX.out)
               replace X:=Lib.hid (X.out.trans HX.out)
               go_upto_region 18 with (go_at_call 50;(with_reducible refine (labels_any (S:=S) y.config [.slice A1 y.config.nodes.length c1,.slice A2 y.config.pairs.length c2,.slice A3 y.config.quotas.length c3,.int .i64 y.config.half] _ (rel_Config HFC.out (H1.out.ext X.out) (H2.out.ext X.out) (H3.out.ext X.out)) HCL.out).mono ?_);rintro e w9 ⟨v9,F9,rfl,o9,-,hx9⟩;obtain ⟨A9,c9,rfl,-⟩:=o9.form;have O9:=Lib.hid o9.rd;have H9:=Lib.hid hx9;clear hx9 o9 qa)
               obtain ⟨W8,B8,hW8,hB8,hx8,b8⟩:∃ W B,W=w9.alloc (.cells #[.slice A9 (labelsIn y.config.nodes).length c9] 39)∧B=w9.heap.size∧Ext w9 W∧Blk W B 39 #[.slice A9 (labelsIn y.config.nodes).length c9]:=⟨_,_,rfl,rfl,(Ext.refl w9).alloc _,Blk.new _ _ _⟩
               rw [← hW8,← hB8]
               replace X:=Lib.hid ((X.out.trans H9.out).trans hx8)
               replace QA:=Lib.hid (QA.out.ext (H9.out.trans hx8))
               have Q8:=Lib.hid b8
               replace O9:=Lib.hid (O9.out.ext hx8)
               clear hW8 hB8 hx8 b8
               have q8:=Q8.out.cell 0
               simp only [List.getElem?_toArray,List.getElem?_cons_zero] at q8
               obtain ⟨u,hu⟩:∃ u,(labelsIn y.config.nodes).any (overY y)=u:=⟨_,rfl⟩
               have U:=Lib.hid hu
               clear hu
               cases u with
               | true =>
                 have HN:=Lib.hid (yard_over U.out)
                 go_wp2_with (go_at_call 60;(with_reducible refine (containsFunc_Label_1 (S:=fun b=>b∈F9) (labelsIn y.config.nodes) (overY y) _ _ _ _ O9.out call_yard1 (fun cs a V hx hr=>yard1_any (S:=fun b=>b∈F9) (S':=S) y a cs _ B V hr (rel_Yard HF.out (H1.out.ext (X.out.trans hx)) (H2.out.ext (X.out.trans hx)) (H3.out.ext (X.out.trans hx)) (H4.out.ext (X.out.trans hx)) (H5.out.ext (X.out.trans hx)) (H6.out.ext (X.out.trans hx))) (QA.out.ext hx) HLT.out)).mono ?_);rintro e w10 ⟨rfl,hx10⟩;rw [U.out];have X10:=Lib.hid (X.out.trans hx10);have E10:=Lib.hid hx10;clear hx10 q8)
                 go_ret
                 exact ⟨ret_bool HN.out.symm,X10.out⟩
               | false =>
                 obtain ⟨z,hz⟩:∃ z,y.uses.any (useBad (labelsIn y.config.nodes))=z:=⟨_,rfl⟩
                 have Z:=Lib.hid hz
                 have HN:=Lib.hid (yard_all HH.out HG.out U.out hz)
                 clear hz
                 go_upto_region 20 with (go_at_call 60;(with_reducible refine (containsFunc_Label_1 (S:=fun b=>b∈F9) (labelsIn y.config.nodes) (overY y) _ _ _ _ O9.out call_yard1 (fun cs a V hx hr=>yard1_any (S:=fun b=>b∈F9) (S':=S) y a cs _ B V hr (rel_Yard HF.out (H1.out.ext (X.out.trans hx)) (H2.out.ext (X.out.trans hx)) (H3.out.ext (X.out.trans hx)) (H4.out.ext (X.out.trans hx)) (H5.out.ext (X.out.trans hx)) (H6.out.ext (X.out.trans hx))) (QA.out.ext hx) HLT.out)).mono ?_);rintro e w10 ⟨rfl,hx10⟩;rw [U.out];have X10:=Lib.hid (X.out.trans hx10);have E10:=Lib.hid hx10;clear hx10 q8)
                 have q3:w10.cell? ⟨B,6,none⟩=some (.slice A6 y.uses.length c6):=(QA.out.ext E10.out).cell 6
                 replace Q8:=Lib.hid (Q8.out.ext E10.out)
                 replace O9:=Lib.hid (O9.out.ext E10.out)
                 go_wp2_with (go_at_call 62;(with_reducible refine (containsFunc_Use_1 (S:=S) y.uses (useBad (labelsIn y.config.nodes)) _ _ _ _ (H6.out.ext X10.out) call_yard2 (fun cs x V hx hr=>yard2_any (S:=S) (S':=fun b=>b∈F9) (labelsIn y.config.nodes) x cs _ B8 V hr (O9.out.ext hx) (Q8.out.ext hx))).mono ?_);rintro e w11 ⟨rfl,hx11⟩;rw [Z.out];have X11:=Lib.hid (X10.out.trans hx11);clear hx11 q3)
                 go_ret
                 exact ⟨ret_bool HN.out.symm,X11.out⟩
theorem yardRight_is {S:Nat→Prop} (y:Yard) (cs:List Value) (w:World) (h:EYard.rel S w cs y) (r:Bool) (hr:yardRight y=r) :
 Calls Tryz.prog 20 #[.agg cs.toArray] w fun e w'=>e=.returned (.bool r)∧Ext w w':=by
 subst hr
 exact yardRight_any y cs w h
end Go.Proofs.YtoblacfjmcpbmaaGreat
namespace Go.Proofs.YtoblacfjmcpbmaaGreat
open Go.RowKit
attribute [local irreducible] wpQuiet
end Go.Proofs.YtoblacfjmcpbmaaGreat
namespace Go.Proofs.YtoblacfjmcpbmaaGreat
open Go.RowKit
attribute [local irreducible] wpQuiet
end Go.Proofs.YtoblacfjmcpbmaaGreat
