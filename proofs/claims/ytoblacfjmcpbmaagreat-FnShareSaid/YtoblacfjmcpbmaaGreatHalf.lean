/- What the planner needs of a yard, and that a valid one has it; the plan over the labels, in order; in plain Lean. No program in sight. -/
import Derived.Test.YtoblacfjmcpbmaaGreatPlanI
import Derived.Test.YtoblacfjmcpbmaaGreatYardTt
import Derived.Test.YtoblacfjmcpbmaaGreatCopies
import Derived.Test.YtoblacfjmcpbmaaGreatOrderS
import Derived.Test.YtoblacfjmcpbmaaGreatReady
import Derived.Test.YtoblacfjmcpbmaaGreatNodeRows
import Derived.Deep.RegionLaw
import Derived.Test.YtoblacfjmcpbmaaGreatNodeC
import Derived.Test.YtoblacfjmcpbmaaGreatOrdU
import Derived.Test.YtoblacfjmcpbmaaGreatGYardT
namespace Go.Proofs.YtoblacfjmcpbmaaGreat
open Go.RowKit
structure PlanOk (y:Yard):Prop where
 ord:OrdOk y
 rows:RowsOk y
 fit:∀ t∈y.tasks,TaskFit y t
 len:y.nodes.length=y.config.nodes.length
 nodes:nodesRight y.nodes=true
 conf:clearOk y.config.nodes=true
 labs:(labelsIn y.config.nodes).length≤8
def labsTo (y:Yard) (s:Int):List Label:=(labelsIn y.config.nodes).takeWhile fun a=>decide (keyOf a≤s)
def planTo (y:Yard) (s:Int):List Place:=planOver (planLabel y) (orderT y) (labsTo y s)
theorem row_fewR {x:Node} {sh:Int} (h:x.books.length≤4):(rowOfNode sh x).length≤4:=by
 unfold rowOfNode
 split
 · simp
 · exact h
theorem rows_ok {y:Yard} (hn:nodesRight y.nodes=true) (hl:y.nodes.length=y.config.nodes.length) (h0:0≤y.now∧y.now≤999900):RowsOk y:=by
 have h1:=nodesRight_length hn
 have few:∀ sh,FewR (rowsOf y.nodes sh):=fun sh r hr=>by
  rw [rowsOf,if_pos hn] at hr
  obtain ⟨x,hx,rfl⟩:=List.mem_map.1 hr
  obtain ⟨k,hk,e⟩:=List.getElem_of_mem hx
  have hb:=(nodesRight_books hn hk).1
  rw [nth_eq hk,e] at hb
  exact Nat.le_trans (row_fewR hb) (by decide)
 have len:∀ sh,(rowsOf y.nodes sh).length=y.config.nodes.length:=fun sh=>by rw [rowsOf,if_pos hn,List.length_map,hl]
 exact ⟨len 2,len 3,few 2,few 3,by omega,by omega,h0⟩
theorem task_fit {y:Yard} {t:Task} (hr:taskRight t=true) (hn:∀ n∈t.nodes,0≤n∧n.toNat < y.nodes.length) (hrun:t.state=2→t.start≤y.now∧y.now < endOf t) (hw:t.state=1→0 < t.nodes.length→y.now≤t.start) (h0:0≤y.now∧y.now≤999900):TaskFit y t:=by
 have hl:=taskRight_label hr
 have hi:=taskRight_id hr
 have hr':=hr
 simp only [taskRight,Bool.and_eq_true,isWorkB,isB,decide_eq_true_eq] at hr'
 have hwk:=hr'.1.1.1.1.2
 have hp:=hr'.2
 have hq:t.nodes.length≤6∧0≤t.start∧t.start≤1000000:=by
  unfold placeOk at hp
  split at hp <;> simp only [Bool.and_eq_true,timeOk,isB,decide_eq_true_eq] at hp <;> omega
 exact ⟨hl,hi,hwk.1.2,hwk.1.1,hq.1,hq.2,hn,hrun,hw,h0⟩
theorem right_fits {y:Yard} (h:yardRight y=true) {k:Nat} (hk:k < y.tasks.length):fitsY y.config.nodes y.now (nth y.tasks k)=true:=by
 simp only [yardRight,Bool.and_eq_true] at h
 have h1:=List.all_eq_true.1 h.1.1.2 k (List.mem_range.2 hk)
 simp only [taskOkY,Bool.and_eq_true] at h1
 exact h1.1
theorem right_len {y:Yard} (h:yardRight y=true):y.nodes.length=y.config.nodes.length:=by
 simp only [yardRight,yardHead,Bool.and_eq_true,decide_eq_true_eq] at h
 exact h.1.1.1.1.1.1.1.2
theorem right_nodes {y:Yard} (h:yardRight y=true):nodesRight y.nodes=true:=by
 simp only [yardRight,yardHead,Bool.and_eq_true] at h
 exact h.1.1.1.1.1.1.2
theorem right_now {y:Yard} (h:yardRight y=true):0≤y.now∧y.now≤999900:=by
 simp only [yardRight,yardHead,Bool.and_eq_true] at h
 exact isB_true h.1.1.1.2
theorem right_clear {c:Config} (h:configRight c=true):clearOk c.nodes=true∧(labelsIn c.nodes).length≤8:=by
 simp only [configRight,Bool.and_eq_true,decide_eq_true_eq] at h
 exact ⟨h.1.1,h.2.1.1⟩
theorem right_task {y:Yard} (h:yardRight y=true) {t:Task} (ht:t∈y.tasks):taskRight t=true∧(∀ n∈t.nodes,0≤n∧n.toNat < y.nodes.length)∧(t.state=2→t.start≤y.now∧y.now < endOf t)∧(t.state≠2→0 < t.nodes.length→y.now+1≤t.start∧t.start≤y.now+40):=by
 obtain ⟨k,hk,e⟩:=List.getElem_of_mem ht
 have h1:=right_fits h hk
 have h2:=all_right (right_tasks h) hk
 rw [nth_eq hk,e] at h1 h2
 simp only [fitsY,Bool.and_eq_true] at h1
 refine ⟨h2,fun n hn=>?_,fun hs=>?_,fun hs hl=>?_⟩
 · have:=List.all_eq_true.1 h1.1.2 n hn
   simp only [nodeIn,Bool.and_eq_true,decide_eq_true_eq] at this
   rw [right_len h]
   exact this.1
 · have:=h1.2
   rw [place_runs hs] at this
   simpa using this
 · have:=h1.2
   rw [place_rests hs hl] at this
   exact isB_true this
theorem ids_apart {l:List Task} (h:tasksRight l=true):l.Pairwise fun s t=>s.label=t.label→s.id≠t.id:=by
 rw [List.pairwise_iff_getElem]
 intro i j hi hj hij hl e
 rw [← nth_eq hi,← nth_eq hj] at hl e
 have ho:=(order_of hj (fun k hk=>by
  simp only [tasksRight,Bool.and_eq_true,List.all_eq_true,List.mem_range] at h
  exact h.2 k hk) (Nat.le_of_lt hij)).2 hl
 omega
theorem goes_state {y:Yard} {t:Task} (h:goesT y t=true):t.state=2∨t.state=1:=by
 simp only [goesT,Bool.or_eq_true,decide_eq_true_eq] at h
 rcases h with h | h
 · exact .inl h
 · refine .inr (Classical.byContradiction fun hs=>?_)
   rw [readyB,if_pos (.inl hs)] at h
   simp [hs] at h
section
variable {y:Yard}
theorem order_mem {t:Task} (h:t∈orderT y):t∈y.tasks∧goesT y t=true:=List.mem_filter.1 (sortL_mem.1 h)
theorem order_few (h:PlanOk y):(orderT y).length≤96:=by
 have h1:=List.length_filter_le (goesT y) y.tasks
 have h2:=few_tasks h.ord.tasks
 rw [orderT,sortL_length]
 omega
theorem order_fit (h:PlanOk y):∀ t∈orderT y,TaskFit y t∧(t.state=2∨t.state=1):=fun t ht=>⟨h.fit t (order_mem ht).1,goes_state (order_mem ht).2⟩
theorem order_ids (h:PlanOk y):∀ a,(labTasks (orderT y) a).Pairwise fun s t=>s.id≠t.id:=fun a=>by
 have h1:(orderT y).Pairwise fun s t=>s.label=t.label→s.id≠t.id :=
  ((sortL_perm (lin_T y) (apart_some h.ord.tasks (goesT y))).symm.pairwise ((ids_apart h.ord.tasks).filter (goesT y)) fun hs hl=>Ne.symm (hs hl.symm))
 unfold labTasks
 have h2:=h1.filter fun t=>decide (t.label=a)
 refine List.Pairwise.imp_of_mem (fun {s t} hs ht hst=>?_) h2
 have e1:=(List.mem_filter.1 hs).2
 have e2:=(List.mem_filter.1 ht).2
 simp only [decide_eq_true_eq] at e1 e2
 exact hst (e1.trans e2.symm)
theorem labels_nodup (ns:List (List Label)):(labelsIn ns).Nodup:=List.Pairwise.imp (fun {a b} h e=>by rw [e] at h;omega) (up_upTo ns 32)
theorem plan_at (h:PlanOk y) {ls:List Label} (hs:ls.Sublist (labelsIn y.config.nodes)) :
 planOver (planLabel y) (orderT y) ls=planOver (labelS y) (orderT y) ls∧(∀ p∈planOver (planLabel y) (orderT y) ls,OkP p)∧(planOver (planLabel y) (orderT y) ls).length≤3072∧∀ a,a∉ls→Turn y a (planOver (planLabel y) (orderT y) ls) (labTasks (orderT y) a):=by
 obtain ⟨h1,h2,h3⟩:=planOver_eq (order_fit h) (order_ids h) ls ((labels_nodup _).sublist hs)
 refine ⟨h1,fun p hp=>(h2 p hp).1,?_,h3⟩
 have h4:=len_over (y:=y) (order:=orderT y) ls
 have h5:=order_few h
 have h6:=hs.length_le
 have h7:=h.labs
 calc (planOver (planLabel y) (orderT y) ls).length≤ls.length * (4 * (orderT y).length):=h4
  _≤8 * (4 * 96):=Nat.mul_le_mul (by omega) (by omega)
  _≤3072:=by decide
theorem plan_next (f:List Place→List Task→List Place) (order:List Task) {ls:List Label} {k:Nat} (hk:k < ls.length):planOver f order (ls.take (k+1))=f (planOver f order (ls.take k)) (labTasks order (nth ls k)):=by
 rw [planOver,take_succ_nth hk,List.foldl_append];rfl
theorem take_notin {ls:List Label} (h:ls.Nodup) {k:Nat} (hk:k < ls.length):nth ls k∉ls.take k:=fun hm=>by
 rw [← List.take_append_drop k ls] at h
 refine (List.nodup_append.1 h).2.2 _ hm (nth ls k) ?_ rfl
 rw [drop_nth hk]
 exact List.mem_cons_self ..
theorem labs_stop {s:Int} {k:Nat} (hk:k≤(labelsIn y.config.nodes).length) (h:∀ j,j < k→keyOf (nth (labelsIn y.config.nodes) j)≤s) (he:k=(labelsIn y.config.nodes).length∨s < keyOf (nth (labelsIn y.config.nodes) k)):labsTo y s=(labelsIn y.config.nodes).take k:=by
 unfold labsTo
 generalize labelsIn y.config.nodes=l at *
 induction l generalizing k with
 | nil=>simp
 | cons a l ih =>
   cases k with
   | zero =>
     rcases he with he | he
     · simp at he
     · have:¬ keyOf a≤s:=by simpa [nth] using he
       rw [List.takeWhile_cons,if_neg (by simpa using this)];rfl
   | succ k =>
     have h0:keyOf a≤s:=by simpa [nth] using h 0 (by omega)
     rw [List.takeWhile_cons,if_pos (by simpa using h0),List.take_succ_cons]
     congr 1
     refine ih (by simpa using hk) (fun j hj=>by simpa [nth] using h (j+1) (by omega)) ?_
     rcases he with he | he
     · exact .inl (by simpa using he)
     · exact .inr (by simpa [nth] using he)
end
end Go.Proofs.YtoblacfjmcpbmaaGreat
/- Of a list of right tasks what waits for what is gone is gone: it stays right. -/
namespace Go.Proofs.YtoblacfjmcpbmaaGreat
open Go.RowKit
theorem fold_more:∀ (m a:List Task),∃ s,m.foldl orphStep a=a ++ s
 | [],a=>⟨[],by simp⟩
 | x :: m,a=>by
   obtain ⟨s,hs⟩:=fold_more m (orphStep a x)
   rw [List.foldl_cons,hs,orphStep]
   exact ⟨[if lost a x=true then gone x else x] ++ s,by rw [List.append_assoc]⟩
theorem orphL_front (l:List Task) (j:Nat):∃ s,orphL l=orphL (l.take j) ++ s:=by
 obtain ⟨s,hs⟩:=fold_more (l.drop j) (orphL (l.take j))
 refine ⟨s,?_⟩
 rw [← hs]
 unfold orphL
 rw [← List.foldl_append,List.take_append_drop]
theorem orph_lost {l:List Task} (h:tasksRight l=true) {k:Nat} (hk:k < l.length):lost (orphL (l.take k)) (nth l k)=lost (orphL l) (nth l k):=by
 obtain ⟨s,hs⟩:=orphL_front l k
 rw [hs,lost_front]
 exact fun hw=>dep_front hk h hw
theorem orph_nth {l:List Task} (h:tasksRight l=true) {k:Nat} (hk:k < l.length):nth (orphL l) k=if lost (orphL l) (nth l k)=true then gone (nth l k) else nth l k:=by
 obtain ⟨s,hs⟩:=orphL_front l (k+1)
 have hlen:(orphL (l.take k)).length=k:=by rw [orphL_length,List.length_take];omega
 rw [← orph_lost h hk]
 conv=>lhs;rw [hs,orphL_succ hk,orphStep]
 rw [List.append_assoc]
 have e:=nth_append_right (l:=orphL (l.take k)) (m:=[if lost (orphL (l.take k)) (nth l k)=true then gone (nth l k) else nth l k] ++ s) (k:=0) (by simp)
 rw [hlen,Nat.add_zero] at e
 rw [e]
 rfl
theorem orph_keys {l:List Task} {k:Nat} (hk:k < l.length):(nth (orphL l) k).label=(nth l k).label∧(nth (orphL l) k).id=(nth l k).id:=by
 have:=orphL_same l l.length (Nat.le_refl _) k hk
 rwa [List.take_length] at this
theorem idxOf_ext {α β:Type} [Inhabited α] [Inhabited β] {p:α→Bool} {q:β→Bool} {l:List α} {m:List β} (hl:l.length=m.length) (h:∀ k,k < l.length→p (nth l k)=q (nth m k)):idxOf p l=idxOf q m:=by
 rcases idxOf_cases p l with ⟨h1,h2⟩ | ⟨k,hk,h1,h2,h3⟩
 · rw [h1,idxOf_none]
   intro j hj
   rw [← h j (by omega)]
   exact h2 j (by omega)
 · rw [h1]
   refine (idxOf_some (by omega) (fun j hj=>?_) ?_).symm
   · rw [← h j (by omega)];exact h3 j hj
   · rw [← h k hk];exact h2
theorem orph_ix (l:List Task) (a:Label) (n:Int):taskIx (orphL l) a n=taskIx l a n:=by
 unfold taskIx
 refine idxOf_ext (orphL_length l) fun k hk=>?_
 rw [orphL_length] at hk
 obtain ⟨h1,h2⟩:=orph_keys hk
 simp only [isTask,h1,h2]
theorem gone_right {x:Task} (h:taskRight x=true):taskRight (gone x)=true:=by
 simp only [taskRight,gone,Bool.and_eq_true] at h ⊢
 refine ⟨⟨⟨h.1.1.1,by decide⟩,h.1.2⟩,by simp [placeOk]⟩
theorem orph_elem {l:List Task} (h:tasksRight l=true) {k:Nat} (hk:k < l.length):nth (orphL l) k=nth l k∨nth (orphL l) k=gone (nth l k):=by
 rw [orph_nth h hk]
 split
 · exact .inr rfl
 · exact .inl rfl
theorem orph_deps {l:List Task} (h:tasksRight l=true) {k:Nat} (hk:k < l.length):(nth (orphL l) k).under=(nth l k).under∧(nth (orphL l) k).after=(nth l k).after:=by
 rcases orph_elem h hk with e | e <;> rw [e] <;> exact ⟨rfl,rfl⟩
theorem orph_right {l:List Task} (h:tasksRight l=true):tasksRight (orphL l)=true:=by
 have hl:=tasksRight_length h
 rw [tasksRight_of,orphL_length,decide_eq_true hl]
 intro k hk
 rw [orphL_length] at hk
 have h':=h
 simp only [tasksRight,Bool.and_eq_true,List.all_eq_true,List.mem_range] at h'
 have hh:=h'.2 k hk
 simp only [tI,Bool.and_eq_true] at hh ⊢
 obtain ⟨h1,h2⟩:=orph_keys hk
 obtain ⟨h3,h4⟩:=orph_deps h hk
 refine ⟨⟨?_,?_⟩,?_⟩
 · rcases orph_elem h hk with e | e <;> rw [e]
   · exact hh.1.1
   · exact gone_right hh.1.1
 · have hi:=hh.1.2
   unfold idOk at hi ⊢
   split
   · rename_i h0
     rw [if_pos h0] at hi
     rw [h2];exact hi
   · rename_i h0
     rw [if_neg h0] at hi
     obtain ⟨g1,g2⟩:=orph_keys (l:=l) (k:=k - 1) (by omega)
     rw [h1,h2,g1,g2]
     exact hi
 · have hd:=hh.2
   unfold depI at hd ⊢
   rw [h3,h4,orph_ix]
   exact hd
end Go.Proofs.YtoblacfjmcpbmaaGreat
/- What is booked is taken,and can be given up again;a node that is away is taken wholly: the plain law of FnNodes. -/
namespace Go.Proofs.YtoblacfjmcpbmaaGreat
open Go.RowKit
def Behind (a b:Span):Prop:=a.to_≤b.from_
theorem spans_pair {l:List Span}:spansRight l=true↔l.length≤20∧(∀ x∈l,spanRight x=true)∧l.Pairwise Behind:=by
 constructor
 · intro h
   have hall:∀ t,t < l.length→spanAt l t=true:=fun t ht=>by
    simp only [spansRight,Bool.and_eq_true,List.all_eq_true,List.mem_range] at h
    exact h.2 t ht
   refine ⟨?_,?_,?_⟩
   · simp only [spansRight,Bool.and_eq_true,decide_eq_true_eq] at h
     exact h.1
   · intro x hx
     obtain ⟨i,hi,rfl⟩:=List.getElem_of_mem hx
     have:=hall i hi
     simp only [spanAt,Bool.and_eq_true] at this
     rw [← nth_eq hi]
     exact this.1
   · rw [List.pairwise_iff_getElem]
     intro i j hi hj hij
     unfold Behind
     rw [← nth_eq hi,← nth_eq hj]
     have h1:(nth l i).to_≤(nth l (i+1)).from_:=by
      have:=hall (i+1) (by omega)
      rw [spanAt_succ] at this
      simp only [Bool.and_eq_true,decide_eq_true_eq] at this
      exact this.2
     rcases Nat.lt_or_ge (i+1) j with h2 | h2
     · have:=spans_up h h2 hj
       omega
     · obtain rfl:i+1=j:=by omega
       exact h1
 · rintro ⟨h1,h2,h3⟩
   rw [spansRight_of,decide_eq_true_eq]
   · exact h1
   · intro i hi
     cases i with
     | zero=>rw [spanAt_zero];exact h2 _ (nth_mem hi)
     | succ m =>
       rw [spanAt_succ,Bool.and_eq_true,decide_eq_true_eq]
       refine ⟨h2 _ (nth_mem hi),?_⟩
       rw [List.pairwise_iff_getElem] at h3
       have:=h3 m (m+1) (by omega) hi (by omega)
       rwa [← nth_eq,← nth_eq] at this
theorem filter_right {l:List Span} {p:Span→Bool} (h:spansRight l=true):spansRight (l.filter p)=true:=by
 obtain ⟨h1,h2,h3⟩:=spans_pair.1 h
 exact spans_pair.2 ⟨Nat.le_trans (List.length_filter_le _ _) h1,fun x hx=>h2 x (List.mem_filter.1 hx).1,h3.filter p⟩
structure Booked (l:List Node) (n:Int) (x:Span) (ys:List Node) (d:Nat):Prop where
 num:n=(d:Int)
 lt:d < l.length
 len:ys.length=l.length
 rows:(rowsOf ys 2).length=l.length
 taken:(spansRight (nth (rowsOf ys 2) d) && spanRight x && freeOf (nth (rowsOf ys 2) d) x)=false
 cut:bookCut ys n x.from_=⟨l,0⟩
 past:(booksPass ys x.to_).length=l.length
 free:(spansRight (nth (booksPass ys x.to_) d).books && spanRight x && freeOf (nth (booksPass ys x.to_) d).books x)=true
structure Turned (l:List Node) (n st:Int) (ys:List Node) (d:Nat):Prop where
 num:n=(d:Int)
 lt:d < l.length
 len:ys.length=l.length
 rowsNew:(rowsOf ys 2).length=l.length
 rowsHard:(rowsOf ys 3).length=l.length
 low:1≤st
 high:st≤3
 new_:nth (rowsOf ys 2) d=if 2≤st then [⟨0,1000000⟩] else (nth ys d).books
 hard:nth (rowsOf ys 3) d=if 3≤st then [⟨0,1000000⟩] else (nth ys d).books
end Go.Proofs.YtoblacfjmcpbmaaGreat
/- The walks of UsesHalf,the program's and the reference's. -/
namespace Go.Proofs.YtoblacfjmcpbmaaGreat
open Go.RowKit
attribute [local irreducible] wpQuiet
def half (x:Use):Use:=⟨x.label,x.owner,x.used / 2⟩
def halves:List Use→List Use
 | []=>[]
 | x :: l=>if 0 < x.used / 2 then half x :: halves l else halves l
theorem halves_append:∀ a b:List Use,halves (a ++ b)=halves a ++ halves b
 | [],b=>rfl
 | x :: a,b=>by
   simp only [List.cons_append,halves,halves_append a b]
   split <;> rfl
theorem halves_yes {l:List Use} {k:Nat} (hk:k < l.length) (h:0 < (nth l k).used / 2):halves (l.take (k+1))=halves (l.take k) ++ [half (nth l k)]:=by
 rw [List.take_succ_eq_append_getElem hk,halves_append,← nth_eq hk]
 simp [halves,h]
theorem halves_no {l:List Use} {k:Nat} (hk:k < l.length) (h:¬ 0 < (nth l k).used / 2):halves (l.take (k+1))=halves (l.take k):=by
 rw [List.take_succ_eq_append_getElem hk,halves_append,← nth_eq hk]
 simp [halves,h]
theorem halves_length:∀ l:List Use,(halves l).length≤l.length
 | []=>Nat.le_refl _
 | x :: l=>by
   have:=halves_length l
   simp only [halves]
   split <;> simp <;> omega
def usesHalf (l:List Use):List Use:=if usesRight l=true then halves l else []
theorem usesRight_length {l:List Use} (h:usesRight l=true):l.length≤48:=by
 simp only [usesRight,Bool.and_eq_true,decide_eq_true_eq] at h
 exact h.1
theorem used_bounds {l:List Use} (hu:usesRight l=true) {k:Nat} (hk:k < l.length):1≤(nth l k).used∧(nth l k).used≤100000:=by
 have:=useOk_true hu hk
 simp only [useOk,Bool.and_eq_true] at this
 exact isB_true this.2
set_option maxHeartbeats 2000000 in
set_option maxRecDepth 50000 in
theorem usesHalf_any {S:Nat→Prop} (l:List Use) (v:Value) (w:World) (h:Rd EUse S w v l) :
 Calls Tryz.prog 37 #[v] w (RetO OUse 75 (usesHalf l) w):=by
 have HR:=Lib.hid h
 obtain ⟨A,c,rfl,h1,h2,hk⟩:=h.open_
 unfold maxLen at h2
 have HK:=Lib.hid hk
 clear hk h
 by_cases hu:usesRight l=true
 · have HU:=Lib.hid hu
   have HE:Hid (usesHalf l=halves l):=Lib.hid (by rw [usesHalf,if_pos hu])
   go_enter Tryz.func37,Tryz.ntmps37
   go_wp2_with (go_at_call 34;(with_reducible refine (usesRight_any (S:=S) l _ _ HR.out).mono ?_);rintro e w1 ⟨rfl,hx1⟩;have X1:=Lib.hid hx1;clear hx1)
   clear hu
   obtain ⟨W,B,hW,hB,hx0,b0⟩:∃ W B,W=w1.alloc (.cells #[] 75)∧B=w1.heap.size∧Ext w1 W∧Blk W B 75 #[]:=⟨_,_,rfl,rfl,(Ext.refl w1).alloc _,Blk.new _ _ _⟩
   rw [← hW,← hB]
   have HB:Hid (w.heap.size≤B):=Lib.hid (by rw [hB];exact X1.out.size)
   have B0:=Lib.hid b0
   have X0:=Lib.hid (X1.out.trans hx0)
   clear hW hB hx0 b0
   go_loopw [3,12] (fun v i w'=>∃ (k:Nat) (F:List Nat),k≤l.length∧i=.int .i64 k∧OwS OUse 75 w' v (halves (l.take k)) F∧(∀ b∈F,w.heap.size≤b)∧Ext w w') (fun _ i _=>l.length - (intOf i).toNat)
   case atStart=>exact ⟨0,[B],by omega,rfl,.inr ⟨B,0,#[],[],rfl,B0.out,Nat.le_refl _,Nat.zero_le _,rfl,rfl,rfl,by simp,fun k hk=>absurd hk (Nat.not_lt_zero _)⟩,fun b hb=>by rw [List.mem_singleton.1 hb];exact HB.out,X0.out⟩
   case round =>
    obtain ⟨k,F,hk1,rfl,hown,hF,hx⟩:=hrel
    have HO:=Lib.hid hown
    have HF:=Lib.hid hF
    have HX:=Lib.hid hx
    clear hown hF
    by_cases hlt:k < l.length
    · obtain ⟨b,q,cs,rfl,_,⟨rfl,hfit⟩,hc⟩:=HK.out k hlt
      have c0:=Ext.some hx (hc 0 _ rfl)
      have c1:=Ext.some hx (hc 1 _ rfl)
      have c2:=Ext.some hx (hc 2 _ rfl)
      have c3:=Ext.some hx (hc 3 _ rfl)
      simp only [EUse,Nat.add_zero] at c0 c1 c2 c3
      obtain ⟨u1,u2⟩:=used_bounds HU.out hlt
      have HFit:=Lib.hid hfit
      clear hc hfit hx
      have HY:=fun h=>Lib.hid (halves_yes hlt h)
      have HN:=fun h=>Lib.hid (halves_no hlt h)
      by_cases hp:0 < (nth l k).used / 2
      · have HYY:=HY hp
        clear HY HN
        go_wp2_with (at_builtin;refine wpList_append_one (O:=OUse) (T:=75) (l:=halves (l.take k)) (F:=F) (G:=[]) (y:=half (nth l k)) (cs:=cellsUse (half (nth l k))) rfl _ _ 33 rfl (.agg #[.int .i64 0,.int .i64 0,.string ⟨#[]⟩,.int .i64 0]) 4 40 Tryz.underlying33 (by kernel_rfl) rfl rfl rfl ?ow _ 0 1 rfl ?own ?rng ?nd ?len (by decide) ?_;rotate_right;intro v' w1 F' how hkp hF';have HOW:=Lib.hid how;have HKP:=Lib.hid hkp;have HFF:=Lib.hid hF';clear how hkp hF')
        case ow=>exact HO.out.ext (((Ext.refl _).alloc _).alloc _)
        case own=>exact ⟨⟨rfl,HFit.out.1,HFit.out.2.1,HFit.out.2.2.1,by unfold I64 half;simp only;omega⟩,rfl⟩
        case rng =>
         have h:=(Blk.new (wr.alloc (.cells (cellsUse (half (nth l k))).toArray 75)) 75 (cellsUse (half (nth l k))).toArray).range
         simpa [cellsUse,half] using h
        case nd=>simpa using HO.out.nodup
        case len =>
         have a:=halves_length (l.take k)
         have b:=List.length_take_le k l
         have c:=usesRight_length HU.out
         omega
        refine ⟨⟨k+1,F',by omega,by go_num,by rw [HYY.out];exact HOW.out,fun b hb=>?_,HKP.out.ext ((HX.out.alloc _).alloc _) HF.out⟩,by simp [intOf];omega⟩
        rcases HFF.out b hb with h | h | h
        · exact HF.out b h
        · cases h
        · exact Nat.le_trans ((HX.out.alloc _).alloc _).size h
      · have HNN:=HN hp
        clear HY HN
        go_wp2_with fail
        refine ⟨⟨k+1,F,by omega,by go_num,by rw [HNN.out];exact HO.out.ext ((Ext.refl _).alloc _),HF.out,HX.out.alloc _⟩,by simp [intOf];omega⟩
    · obtain rfl:k=l.length:=by omega
      go_wp2_with fail
      go_ret
      exact ⟨_,F,rfl,by rw [HE.out];have h:=HO.out;rw [List.take_length] at h;exact h,HF.out,HX.out⟩
 · simp only [Bool.not_eq_true] at hu
   have HE:Hid (usesHalf l = []):=Lib.hid (by rw [usesHalf,hu];rfl)
   go_enter Tryz.func37,Tryz.ntmps37
   go_wp2_with (go_at_call 34;(with_reducible refine (usesRight_any (S:=S) l _ _ HR.out).mono ?_);rintro e w1 ⟨rfl,hx1⟩;have X1:=Lib.hid hx1;clear hx1)
   go_ret
   exact ⟨_,[],rfl,by rw [HE.out];exact OwS.nil _,fun b hb=>(by cases hb),X1.out⟩
end Go.Proofs.YtoblacfjmcpbmaaGreat
