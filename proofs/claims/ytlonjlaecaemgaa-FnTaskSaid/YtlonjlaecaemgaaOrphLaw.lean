/- Of a list of right tasks what waits for what is gone is gone, and nothing else is turned: the plain law of FnTask, its second half. -/
import Derived.Test.YtlonjlaecaemgaaOrphR
import Derived.Test.YtlonjlaecaemgaaTBytesS
import Derived.Test.YtlonjlaecaemgaaReady
namespace Go.Proofs.Ytlonjlaecaemgaa
open Go.RowKit
theorem orph_there {l:List Task} (h:tasksRight l=true) {k:Nat} (hk:k < l.length) (ha:(nth l k).after≠0):0≤taskIx l (nth l k).under (nth l k).after:=by
 simp only [tasksRight,Bool.and_eq_true,List.all_eq_true,List.mem_range] at h
 have hh:=h.2 k hk
 simp only [tI,depI,Bool.and_eq_true,Bool.or_eq_true,decide_eq_true_eq] at hh
 exact hh.2.resolve_left ha
theorem taskOf_there {l:List Task} (h:tasksRight l=true) {a:Label} {n:Int} (hi:0≤taskIx l a n):taskOf l a n=nth l (taskIx l a n).toNat:=by
 rw [taskOf,if_pos h,if_pos hi]
theorem lost_of {l:List Task} (h:tasksRight l=true) {k:Nat} (hk:k < l.length):lost (orphL l) (nth l k)=(waits (nth l k) && badEnd (taskOf (orphL l) (nth l k).under (nth l k).after).state):=by
 unfold lost
 cases hw:waits (nth l k) with
 | false=>rfl
 | true =>
   have ha:(nth l k).after≠0:=fun e=>by simp [waits,e] at hw
   rw [taskOf_there (orph_right h)]
   rw [orph_ix]
   exact orph_there h hk ha
theorem orph_one {l:List Task} (h:tasksRight l=true) {k:Nat} (hk:k < l.length):nth (orphL l) k=if (waits (nth l k) && badEnd (taskOf (orphL l) (nth l k).under (nth l k).after).state)=true then gone (nth l k) else nth l k:=by
 rw [orph_nth h hk,lost_of h hk]
theorem ready_one {m:List Task} (h:tasksRight m=true) {k:Nat} (hk:k < m.length):taskReady m (nth m k)=(decide ((nth m k).state=1) && (decide ((nth m k).after=0) || decide ((taskOf m (nth m k).under (nth m k).after).state=4))):=by
 rw [taskReady,h,tasksRight_at h hk,Bool.true_and,Bool.true_and]
 by_cases h1:(nth m k).state=1
 · by_cases h2:(nth m k).after=0
   · rw [ready_plain (.inr h2)]
     simp [h2]
   · have hi:=orph_there h hk h2
     rw [taskOf_there h hi]
     rcases idxOf_cases (isTask (nth m k).under (nth m k).after) m with ⟨g1,_⟩ | ⟨j,hj,g1,g2,g3⟩
     · unfold taskIx at hi
       omega
     · rw [ready_found h1 h2 hj g2 g3]
       unfold taskIx
       rw [g1,Int.toNat_natCast]
       simp [h1,h2]
 · rw [ready_plain (.inl h1)]
   simp [h1]
theorem orph_again {l:List Task} (h:tasksRight l=true):orphL (orphL l)=orphL l:=by
 have ho:=orph_right h
 have hlen:=orphL_length l
 have key:∀ k,k≤(orphL l).length→orphL ((orphL l).take k)=(orphL l).take k:=by
  intro k
  induction k with
  | zero=>intro _;simp [orphL]
  | succ k ih =>
    intro hk
    rw [orphL_succ (by omega),ih (by omega),orphStep,take_succ_nth (by omega)]
    congr 2
    have hl:lost ((orphL l).take k) (nth (orphL l) k)=false:=by
     have e1:lost ((orphL l).take k) (nth (orphL l) k)=lost (orphL l) (nth (orphL l) k):=by
      have e2:lost ((orphL l).take k ++ (orphL l).drop k) (nth (orphL l) k)=lost ((orphL l).take k) (nth (orphL l) k):=by
       rw [lost_front]
       intro hw
       have:=dep_front (k:=k) (by omega) ho hw
       rwa [ih (by omega)] at this
      rw [List.take_append_drop] at e2
      exact e2.symm
     rw [e1,orph_nth h (by omega)]
     cases hq:lost (orphL l) (nth l k) with
     | true =>
       rw [if_pos rfl]
       simp [lost,waits,gone]
     | false =>
       rw [if_neg (by decide)]
       exact hq
    rw [hl,if_neg (by decide)]
 have:=key _ (Nat.le_refl _)
 rwa [List.take_length] at this
end Go.Proofs.Ytlonjlaecaemgaa
