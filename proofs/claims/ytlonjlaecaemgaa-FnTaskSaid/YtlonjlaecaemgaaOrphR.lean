/- Of a list of right tasks what waits for what is gone is gone: it stays right. -/
import Derived.Test.YtlonjlaecaemgaaCopies
import Derived.Test.YtlonjlaecaemgaaTRight
import Derived.Test.YtlonjlaecaemgaaReady
namespace Go.Proofs.Ytlonjlaecaemgaa
open Go.RowKit
theorem fold_more:∀ (m a:List Task),∃ s,m.foldl orphStep a=a ++ s
 | [],a=>⟨[],by simp⟩
 | x :: m,a=>by
   obtain ⟨s,hs⟩:=fold_more m (orphStep a x)
   rw [List.foldl_cons,hs,orphStep]
   exact ⟨[if lost a x=true then gone x else x] ++ s,by rw [List.append_assoc]⟩
theorem orphL_front (l:List Task) (j:Nat):∃ s,orphL l=orphL (l.take j) ++ s:=by
 obtain ⟨s,hs⟩:=fold_more (l.drop j) (orphL (l.take j))
 refine ⟨s,?_⟩
 rw [← hs]
 unfold orphL
 rw [← List.foldl_append,List.take_append_drop]
theorem orph_lost {l:List Task} (h:tasksRight l=true) {k:Nat} (hk:k < l.length):lost (orphL (l.take k)) (nth l k)=lost (orphL l) (nth l k):=by
 obtain ⟨s,hs⟩:=orphL_front l k
 rw [hs,lost_front]
 exact fun hw=>dep_front hk h hw
theorem orph_nth {l:List Task} (h:tasksRight l=true) {k:Nat} (hk:k < l.length):nth (orphL l) k=if lost (orphL l) (nth l k)=true then gone (nth l k) else nth l k:=by
 obtain ⟨s,hs⟩:=orphL_front l (k+1)
 have hlen:(orphL (l.take k)).length=k:=by rw [orphL_length,List.length_take];omega
 rw [← orph_lost h hk]
 conv=>lhs;rw [hs,orphL_succ hk,orphStep]
 rw [List.append_assoc]
 have e:=nth_append_right (l:=orphL (l.take k)) (m:=[if lost (orphL (l.take k)) (nth l k)=true then gone (nth l k) else nth l k] ++ s) (k:=0) (by simp)
 rw [hlen,Nat.add_zero] at e
 rw [e]
 rfl
theorem orph_keys {l:List Task} {k:Nat} (hk:k < l.length):(nth (orphL l) k).label=(nth l k).label∧(nth (orphL l) k).id=(nth l k).id:=by
 have:=orphL_same l l.length (Nat.le_refl _) k hk
 rwa [List.take_length] at this
theorem idxOf_ext {α β:Type} [Inhabited α] [Inhabited β] {p:α→Bool} {q:β→Bool} {l:List α} {m:List β} (hl:l.length=m.length) (h:∀ k,k < l.length→p (nth l k)=q (nth m k)):idxOf p l=idxOf q m:=by
 rcases idxOf_cases p l with ⟨h1,h2⟩ | ⟨k,hk,h1,h2,h3⟩
 · rw [h1,idxOf_none]
   intro j hj
   rw [← h j (by omega)]
   exact h2 j (by omega)
 · rw [h1]
   refine (idxOf_some (by omega) (fun j hj=>?_) ?_).symm
   · rw [← h j (by omega)];exact h3 j hj
   · rw [← h k hk];exact h2
theorem orph_ix (l:List Task) (a:Label) (n:Int):taskIx (orphL l) a n=taskIx l a n:=by
 unfold taskIx
 refine idxOf_ext (orphL_length l) fun k hk=>?_
 rw [orphL_length] at hk
 obtain ⟨h1,h2⟩:=orph_keys hk
 simp only [isTask,h1,h2]
theorem gone_right {x:Task} (h:taskRight x=true):taskRight (gone x)=true:=by
 simp only [taskRight,gone,Bool.and_eq_true] at h ⊢
 refine ⟨⟨⟨h.1.1.1,by decide⟩,h.1.2⟩,by simp [placeOk]⟩
theorem orph_elem {l:List Task} (h:tasksRight l=true) {k:Nat} (hk:k < l.length):nth (orphL l) k=nth l k∨nth (orphL l) k=gone (nth l k):=by
 rw [orph_nth h hk]
 split
 · exact .inr rfl
 · exact .inl rfl
theorem orph_deps {l:List Task} (h:tasksRight l=true) {k:Nat} (hk:k < l.length):(nth (orphL l) k).under=(nth l k).under∧(nth (orphL l) k).after=(nth l k).after:=by
 rcases orph_elem h hk with e | e <;> rw [e] <;> exact ⟨rfl,rfl⟩
theorem orph_right {l:List Task} (h:tasksRight l=true):tasksRight (orphL l)=true:=by
 have hl:=tasksRight_length h
 rw [tasksRight_of,orphL_length,decide_eq_true hl]
 intro k hk
 rw [orphL_length] at hk
 have h':=h
 simp only [tasksRight,Bool.and_eq_true,List.all_eq_true,List.mem_range] at h'
 have hh:=h'.2 k hk
 simp only [tI,Bool.and_eq_true] at hh ⊢
 obtain ⟨h1,h2⟩:=orph_keys hk
 obtain ⟨h3,h4⟩:=orph_deps h hk
 refine ⟨⟨?_,?_⟩,?_⟩
 · rcases orph_elem h hk with e | e <;> rw [e]
   · exact hh.1.1
   · exact gone_right hh.1.1
 · have hi:=hh.1.2
   unfold idOk at hi ⊢
   split
   · rename_i h0
     rw [if_pos h0] at hi
     rw [h2];exact hi
   · rename_i h0
     rw [if_neg h0] at hi
     obtain ⟨g1,g2⟩:=orph_keys (l:=l) (k:=k - 1) (by omega)
     rw [h1,h2,g1,g2]
     exact hi
 · have hd:=hh.2
   unfold depI at hd ⊢
   rw [h3,h4,orph_ix]
   exact hd
end Go.Proofs.Ytlonjlaecaemgaa
