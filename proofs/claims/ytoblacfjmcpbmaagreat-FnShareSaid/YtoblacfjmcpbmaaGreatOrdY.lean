/- The words of memory that grew by draws and new blocks alone, as those of memory that only grew. What was left out of other texts of this seat, for the laws that need it. Printed by wip/rest.py. Who sorts a row and who inserts its elements one after another come to the same row. The walks of the rank functions. The order in which a yard's tasks are planned, in plain Lean. -/
import Derived.Test.YtoblacfjmcpbmaaGreatTaskR
import Derived.Test.YtoblacfjmcpbmaaGreatUsesC
import Derived.Test.YtoblacfjmcpbmaaGreatUsesD
import Derived.Test.YtoblacfjmcpbmaaGreatTasksP
import Derived.Test.YtoblacfjmcpbmaaGreatOrdU
import Derived.Test.YtoblacfjmcpbmaaGreatReady
import Derived.Test.YtoblacfjmcpbmaaGreatGYardT
import Derived.Test.YtoblacfjmcpbmaaGreatCompactL
namespace Go.Proofs.YtoblacfjmcpbmaaGreat
open Go.RowKit Go.Sort
attribute [local irreducible] wpQuiet
instance {a b:World}:Coe (Gr a b) (Ext a b):=⟨Gr.ext⟩
theorem Gr.some {w w':World} (h:Gr w w') {p:Addr} {u:Value} (hp:w.cell? p=some u):w'.cell? p=some u:=h.ext.some hp
theorem Gr.range {w w':World} (h:Gr w w') {b o:Nat} {cs:List Value} (hr:w.rangeAt b o cs):w'.rangeAt b o cs:=h.ext.range hr
theorem Gr.same {w w':World} (h:Gr w w') (S:Nat→Prop):Same S w w':=h.ext.same S
theorem Gr.size {w w':World} (h:Gr w w'):w.heap.size≤w'.heap.size:=h.ext.size
theorem gr_of {P:Program} {f:FuncId} {args:Array Value} {w w1:World} {v:Value} (hx:Gr w w1) (h:Calls P f args w1 fun e w'=>e=.returned v∧Gr w1 w') :
 Calls P f args w1 fun e w'=>e=.returned v∧Gr w w':=h.mono fun _ _ ⟨he,hk⟩=>⟨he,hx.trans hk⟩
theorem gr_of_same {P:Program} {f:FuncId} {args:Array Value} {w w1:World} {v:Value} (hx:Gr w w1) (h:Calls P f args w1 fun e w'=>e=.returned v∧w1=w') :
 Calls P f args w1 fun e w'=>e=.returned v∧Gr w w':=h.mono fun _ _ ⟨he,hk⟩=>⟨he,hk ▸ hx⟩
theorem wp_region_gr {P:Program} {id:Nat} {Q:Exit→Act→World→Prop} {a:Act} {w:World} {l:List Oper} (hm:P.follows .mixedOrders=true) (hB:Region.lexB .any l.toArray=true)
 (h:wpQuiet P l.toArray (fun w'=>Gr w w') (fun a'=>∀ w',Gr w w'→Q .normal a' w') l a):(Code.region id l.toArray true).wp P Q a w :=
 wp_region_quiet (C:=fun w'=>Gr w w') hm hB (Gr.refl w).drew (by simpa using h)
theorem box_new_gr (w:World) (cs:Array Value) (T:TypeId):∃ W B,W=w.alloc (.cells cs T)∧B=w.heap.size∧Gr w W∧(∀ i u,cs[i]? = some u→W.cell? ⟨B,i,none⟩=some u):=by
 obtain ⟨W,B,h1,h2,_,h4⟩:=box_new w cs T
 exact ⟨W,B,h1,h2,by rw [h1];exact (Gr.refl w).alloc _,h4⟩
theorem boxes2_gr (w:World) (A O:Array Value) (T U:TypeId):∃ W B,W=(w.alloc (.cells A T)).alloc (.cells O U)∧B=w.heap.size∧Gr w W∧Blk W B T A∧Blk W (B+1) U O:=by
 obtain ⟨W,B,h1,h2,_,h4,h5⟩:=boxes2 w A O T U
 exact ⟨W,B,h1,h2,by rw [h1];exact ((Gr.refl w).alloc _).alloc _,h4,h5⟩
end Go.Proofs.YtoblacfjmcpbmaaGreat
namespace Go.Proofs.YtoblacfjmcpbmaaGreat
open Go.RowKit
attribute [local irreducible] wpQuiet
section
variable {α:Type} {c:α→α→Int}
theorem Lin.flip (h:Lin c):Lin fun x y=>c y x:=⟨fun x y=>h.anti y x,fun x y z h1 h2=>h.trans z y x h2 h1⟩
theorem Lin.le_lt (h:Lin c) {x y z:α} (h1:c x y≤0) (h2:c y z < 0):c x z < 0:=by
 have a1:=h.anti x z
 have a2:=h.anti y z
 have:=h.trans z x y
 have:=h.trans x y z h1 (by omega)
 rcases (show c x z < 0∨0≤c x z by omega) with h3 | h3
 · exact h3
 · have:=h.trans z x y (by omega) h1
   omega
def putP (c:α→α→Int) (l:List α) (x:α):Nat:=(l.takeWhile fun y=>decide (c y x < 0)).length
def putL (c:α→α→Int) (l:List α) (x:α):List α:=l.take (putP c l x) ++ x :: l.drop (putP c l x)
def sortL (c:α→α→Int) (l:List α):List α:=l.foldl (putL c) []
theorem putP_low [Inhabited α]:∀ (l:List α) (x:α) (k:Nat),k < putP c l x→c (nth l k) x < 0
 | [],x,k,h=>by simp [putP] at h
 | y :: l,x,k,h=>by
   unfold putP at h
   rw [List.takeWhile_cons] at h
   split at h
   · rename_i hy
     cases k with
     | zero=>simpa [nth] using hy
     | succ k =>
       have:=putP_low l x k (by unfold putP;simpa using h)
       simpa [nth] using this
   · simp at h
theorem putP_at [Inhabited α]:∀ (l:List α) (x:α),putP c l x < l.length→¬ c (nth l (putP c l x)) x < 0
 | [],x,h=>by simp at h
 | y :: l,x,h=>by
   unfold putP at h ⊢
   rw [List.takeWhile_cons] at h ⊢
   split
   · rename_i hy
     rw [if_pos hy] at h
     have:=putP_at l x (by unfold putP;simpa using h)
     simpa [nth,putP] using this
   · rename_i hy
     simpa [nth] using hy
theorem putL_perm (l:List α) (x:α):(putL c l x).Perm (l ++ [x]):=by
 unfold putL
 have h1:(List.take (putP c l x) l ++ x :: List.drop (putP c l x) l).Perm (x :: (List.take (putP c l x) l ++ List.drop (putP c l x) l)):=List.perm_middle
 rw [List.take_append_drop] at h1
 exact h1.trans (List.perm_append_singleton x l).symm
theorem putL_sorted [Inhabited α] (h:Lin c) {l:List α} {x:α} (hl:l.Pairwise fun a b=>c a b < 0) (hn:∀ y∈l,c y x≠0):(putL c l x).Pairwise fun a b=>c a b < 0:=by
 have low:∀ a∈l.take (putP c l x),c a x < 0:=fun a ha=>by
  obtain ⟨i,hi,rfl⟩:=List.getElem_of_mem ha
  rw [List.length_take] at hi
  have:=putP_low (c:=c) l x i (by omega)
  rw [nth_eq (by omega)] at this
  simpa using this
 have high:∀ b∈l.drop (putP c l x),c x b < 0:=fun b hb=>by
  obtain ⟨i,hi,rfl⟩:=List.getElem_of_mem hb
  rw [List.length_drop] at hi
  have h1:=putP_at (c:=c) l x (by omega)
  have h2:=hn _ (nth_mem (show putP c l x < l.length by omega))
  have h3:=h.anti (nth l (putP c l x)) x
  have h4:c x (nth l (putP c l x)) < 0:=by omega
  rw [List.getElem_drop]
  rcases Nat.eq_zero_or_pos i with h0 | h0
  · subst h0
    rw [nth_eq (by omega)] at h4
    simpa using h4
  · have h5:=List.pairwise_iff_getElem.1 hl (putP c l x) (putP c l x+i) (by omega) (by omega) (by omega)
    rw [nth_eq (by omega)] at h4
    exact h.le_lt (Int.le_of_lt h4) h5
 unfold putL
 rw [List.pairwise_append]
 refine ⟨hl.sublist (List.take_sublist _ _),List.pairwise_cons.2 ⟨high,hl.sublist (List.drop_sublist _ _)⟩,fun a ha b hb=>?_⟩
 rcases List.mem_cons.1 hb with rfl | hb
 · exact low a ha
 · exact h.le_lt (Int.le_of_lt (low a ha)) (high b hb)
theorem fold_sorted [Inhabited α] (h:Lin c):∀ (l acc:List α),acc.Pairwise (fun a b=>c a b < 0)→(acc ++ l).Pairwise (fun a b=>c a b≠0)→(l.foldl (putL c) acc).Pairwise (fun a b=>c a b < 0)∧(l.foldl (putL c) acc).Perm (acc ++ l)
 | [],acc,ha,_=>by simpa using ha
 | x :: l,acc,ha,hn=>by
   have sym:∀ {a b:α},c a b≠0→c b a≠0:=fun {a b} h1=>by have:=h.anti a b;omega
   have hp:=putL_perm (c:=c) acc x
   have hs:=putL_sorted h (x:=x) ha (fun y hy=>(List.pairwise_append.1 hn).2.2 y hy x (by simp))
   have e:acc ++ x :: l=(acc ++ [x]) ++ l:=by simp
   have hp2:(putL c acc x ++ l).Perm (acc ++ x :: l):=by rw [e];exact hp.append_right l
   obtain ⟨g1,g2⟩:=fold_sorted h l (putL c acc x) hs (hp2.symm.pairwise hn sym)
   exact ⟨g1,g2.trans hp2⟩
theorem sortL_sorted [Inhabited α] (h:Lin c) {l:List α} (hn:l.Pairwise fun a b=>c a b≠0):(sortL c l).Pairwise fun a b=>c a b < 0:=(fold_sorted h l [] List.Pairwise.nil (by simpa using hn)).1
theorem sortL_perm [Inhabited α] (h:Lin c) {l:List α} (hn:l.Pairwise fun a b=>c a b≠0):(sortL c l).Perm l:=(fold_sorted h l [] List.Pairwise.nil (by simpa using hn)).2
theorem sortL_unique [Inhabited α] (h:Lin c) {l m:List α} (hn:l.Pairwise fun a b=>c a b≠0) (hp:m.Perm l) (hs:m.Pairwise fun a b=>c a b≤0):m=sortL c l:=by
 have hi:=sortL_sorted h hn
 have hp2:m.Perm (sortL c l):=hp.trans (sortL_perm h hn).symm
 refine List.Perm.eq_of_pairwise (le:=fun a b=>c a b≤0) ?_ hs (hi.imp fun h=>Int.le_of_lt h) hp2
 intro a b ha hb h1 h2
 have ha':=hp2.mem_iff.1 ha
 obtain ⟨i,hi1,rfl⟩:=List.getElem_of_mem ha'
 obtain ⟨j,hj1,rfl⟩:=List.getElem_of_mem hb
 rcases Nat.lt_trichotomy i j with g | g | g
 · have:=List.pairwise_iff_getElem.1 hi i j hi1 hj1 g
   have h3:=h.anti (sortL c l)[i] (sortL c l)[j]
   omega
 · subst g;rfl
 · have:=List.pairwise_iff_getElem.1 hi j i hj1 hi1 g
   have h3:=h.anti (sortL c l)[j] (sortL c l)[i]
   omega
end
end Go.Proofs.YtoblacfjmcpbmaaGreat
namespace Go.Proofs.YtoblacfjmcpbmaaGreat
open Go.RowKit
attribute [local irreducible] wpQuiet
def rankOf (p a u:Int):Int:=if isB p 0 9 && timeOk a && timeOk u then 100 * p+min a 50 - min u 90 else 0
theorem timeOk_true {n:Int} (h:timeOk n=true):0≤n∧n≤1000000:=isB_true h
theorem rank_any (p a u:Int) (w:World) :
 Calls Tryz.prog 85 #[.int .i64 p,.int .i64 a,.int .i64 u] w fun e w'=>e=.returned (.int .i64 (rankOf p a u))∧w=w':=by
 by_cases hp:isB p 0 9=true <;> by_cases ha:timeOk a=true <;> by_cases hu:timeOk u=true
 · have h1:=isB_true hp
   have h2:=timeOk_true ha
   have h3:=timeOk_true hu
   go_enter Tryz.func85,Tryz.ntmps85
   go_wp2_with (first | (go_at_call 30;refine (within_any _ _ _ _).mono ?_;rintro e w' ⟨rfl,rfl⟩) | (go_at_call 126;refine (isTime_any _ _).mono ?_;rintro e w' ⟨rfl,rfl⟩))
   all_goals (go_ret;exact ⟨ret_int (by simp [rankOf,hp,ha,hu];try omega),rfl⟩)
 all_goals
  simp only [Bool.not_eq_true] at *
  go_enter Tryz.func85,Tryz.ntmps85
  go_wp2_with (first | (go_at_call 30;refine (within_any _ _ _ _).mono ?_;rintro e w' ⟨rfl,rfl⟩) | (go_at_call 126;refine (isTime_any _ _).mono ?_;rintro e w' ⟨rfl,rfl⟩))
  go_ret
  exact ⟨ret_int (by simp [rankOf, *]),rfl⟩
end Go.Proofs.YtoblacfjmcpbmaaGreat
namespace Go.Proofs.YtoblacfjmcpbmaaGreat
open Go.RowKit
attribute [local irreducible] wpQuiet
def rankT (y:Yard) (t:Task):Int:=rankOf t.prio (y.now - t.born) (useOf y.uses t.label t.owner)
def cmpT (y:Yard) (a b:Task):Int:=orOf [cmpLabels a.label b.label,cmp3 (rankT y b) (rankT y a),cmp3 a.id b.id]
def goesT (y:Yard) (t:Task):Bool:=decide (t.state=2) || readyB y.tasks t
def orderT (y:Yard):List Task:=sortL (cmpT y) (y.tasks.filter (goesT y))
theorem orOf_three (a b c:Int):orOf [a,b,c]=if a=0 then (if b=0 then c else b) else a:=by
 simp only [orOf]
 split <;> (try split) <;> (try split) <;> simp_all
theorem lin_T (y:Yard):Lin (cmpT y):=by
 have:=Lin.lex (lin_labels.comap Task.label) (Lin.lex ((Lin.flip lin_cmp3).comap (rankT y)) (lin_cmp3.comap Task.id))
 have e:cmpT y=fun a b=>if cmpLabels a.label b.label=0 then (if cmp3 (rankT y b) (rankT y a)=0 then cmp3 a.id b.id else cmp3 (rankT y b) (rankT y a)) else cmpLabels a.label b.label:=by funext a b;rw [cmpT,orOf_three]
 rw [e];exact this
theorem cmp3_lt {a b:Int}:cmp3 a b < 0↔a < b:=by
 unfold cmp3
 split
 · omega
 · split <;> omega
theorem right_at {l:List Task} (h:tasksRight l=true) {k:Nat} (hk:k < l.length):taskRight (nth l k)=true:=by
 simp only [tasksRight,Bool.and_eq_true,List.all_eq_true,List.mem_range] at h
 have:=h.2 k hk
 simp only [tI,Bool.and_eq_true] at this
 exact this.1.1
theorem apart {y:Yard} {i j:Nat} (h:tasksRight y.tasks=true) (hj:j < y.tasks.length) (hij:i < j):cmpT y (nth y.tasks i) (nth y.tasks j)≠0:=by
 unfold cmpT
 rw [orOf_three]
 have hr:=fun k hk=>(right_at h (k:=k) hk)
 rcases cmp_key (taskRight_label (hr i (by omega))) (taskRight_label (hr j hj)) with ⟨h1,h2⟩ | ⟨h1,h2⟩ | ⟨h1,h2⟩
 · rw [if_neg (by omega)];omega
 · rw [if_pos h2]
   have ho:=(order_of hj (fun k hk=>by
    have h':=h
    simp only [tasksRight,Bool.and_eq_true,List.all_eq_true,List.mem_range] at h'
    exact h'.2 k hk) (Nat.le_of_lt hij)).2 h1
   split
   · intro e
     have:=cmp3_eq e
     omega
   · assumption
 · rw [if_neg (by omega)];omega
theorem apart_all {y:Yard} (h:tasksRight y.tasks=true):y.tasks.Pairwise fun a b=>cmpT y a b≠0:=by
 rw [List.pairwise_iff_getElem]
 intro i j hi hj hij
 have:=apart h hj hij
 rwa [nth_eq hi,nth_eq hj] at this
theorem apart_some {y:Yard} (h:tasksRight y.tasks=true) (p:Task→Bool):(y.tasks.filter p).Pairwise fun a b=>cmpT y a b≠0:=(apart_all h).filter p
end Go.Proofs.YtoblacfjmcpbmaaGreat
