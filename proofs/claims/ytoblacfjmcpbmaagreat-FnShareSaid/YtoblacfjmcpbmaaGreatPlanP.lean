/- The plan of a yard, in plain Lean: what the program computes, what the reference computes, and that they agree. No program in sight. -/
import Derived.Test.YtoblacfjmcpbmaaGreatOrderS
import Derived.Test.YtoblacfjmcpbmaaGreatNodeRows
import Derived.Test.YtoblacfjmcpbmaaGreatCopies
namespace Go.Proofs.YtoblacfjmcpbmaaGreat
open Go.RowKit
theorem snoc_rec {α:Type} {P:List α→Prop} (nil:P []) (snoc:∀ l x,P l→P (l ++ [x])):∀ l,P l:=fun l=>by
 suffices h:∀ m:List α,P m.reverse by have:=h l.reverse;rwa [List.reverse_reverse] at this
 intro m
 induction m with
 | nil=>exact nil
 | cons x m ih=>rw [List.reverse_cons];exact snoc _ _ ih
theorem nth_map {α β:Type} [Inhabited α] [Inhabited β] {f:α→β} {l:List α} {k:Nat} (h:k < l.length):nth (l.map f) k=f (nth l k):=by
 rw [nth_eq (by rw [List.length_map];exact h),nth_eq h,List.getElem_map]
def hereP (n:Int) (p:Place):Bool:=p.nodes.any (isNum n)
def spanP (p:Place):Span:=⟨p.from_,p.to_⟩
def occOf (base:List Span) (ps:List Place) (n:Int):List Span:=base ++ (ps.filter (hereP n)).map spanP
def freeP (base:List Span) (ps:List Place) (n:Int) (x:Span):Bool:=freeOf (occOf base ps n) x
def hitP (n:Int) (x:Span) (p:Place):Bool:=laps x (spanP p) && hereP n p
theorem free_append (a b:List Span) (x:Span):freeOf (a ++ b) x=(freeOf a x && freeOf b x):=by simp [freeOf]
theorem freeP_eq (base:List Span) (ps:List Place) (n:Int) (x:Span):freeP base ps n x=(!ps.any (hitP n x) && freeOf base x):=by
 rw [freeP,occOf,free_append,Bool.and_comm]
 congr 1
 simp only [freeOf,List.any_map,List.any_filter]
 congr 1
 congr 1
 funext p
 simp [hitP,Bool.and_comm]
theorem freeP_perm {base:List Span} {ps qs:List Place} (h:ps.Perm qs) (n:Int) (x:Span):freeP base ps n x=freeP base qs n x:=by
 have:ps.any (hitP n x)=qs.any (hitP n x):=by
  rw [Bool.eq_iff_iff,List.any_eq_true,List.any_eq_true]
  exact ⟨fun ⟨p,hp,e⟩=>⟨p,h.mem_iff.1 hp,e⟩,fun ⟨p,hp,e⟩=>⟨p,h.mem_iff.2 hp,e⟩⟩
 rw [freeP_eq,freeP_eq,this]
def rowN (rows:List (List Span)) (n:Int):List Span:=nth rows n.toNat
def areFree (rows:List (List Span)) (ps:List Place) (nodes:List Int) (x:Span):Bool:=nodes.all fun n=>freeP (rowN rows n) ps n x
def startR (y:Yard):List (List Span):=rowsOf y.nodes 2
def hardR (y:Yard):List (List Span):=rowsOf y.nodes 3
def fitP (y:Yard) (ps:List Place) (a:Label) (x:Span):List Int:=(clearOf y.config.nodes a y.config.nodes.length).filter fun n=>freeP (rowN (startR y) n) ps n x
theorem fitP_perm {y:Yard} {ps qs:List Place} (h:ps.Perm qs) (a:Label) (x:Span):fitP y ps a x=fitP y qs a x:=by
 unfold fitP
 congr 1
 funext n
 exact freeP_perm h n x
def searchY (y:Yard) (ps:List Place) (a:Label) (need long:Int):Nat→Int→Option (Int × List Int)
 | 0,_=>none
 | k+1,f=>if need≤((fitP y ps a ⟨f,f+1+long⟩).length:Int) then some (f,(fitP y ps a ⟨f,f+1+long⟩).take need.toNat) else searchY y ps a need long k (f+1)
theorem searchY_perm {y:Yard} {ps qs:List Place} (h:ps.Perm qs) (a:Label) (need long:Int):∀ (k:Nat) (f:Int),searchY y ps a need long k f=searchY y qs a need long k f
 | 0,_=>rfl
 | k+1,f=>by rw [searchY,searchY,fitP_perm h,searchY_perm h a need long k]
theorem searchY_more {y:Yard} {ps:List Place} {a:Label} {need long:Int}:∀ (k:Nat) (f:Int),searchY y ps a need long (k+1) f=match searchY y ps a need long k f with
  | some r=>some r
  | none=>if need≤((fitP y ps a ⟨f+k,f+k+1+long⟩).length:Int) then some (f+k,(fitP y ps a ⟨f+k,f+k+1+long⟩).take need.toNat) else none
 | 0,f=>by simp [searchY]
 | k+1,f=>by
   rw [searchY]
   split
   · rename_i h
     rw [searchY,if_pos h]
   · rename_i h
     rw [searchY_more k (f+1)]
     conv=>rhs;rw [searchY,if_neg h]
     have e:f+1+(k:Int)=f+((k+1:Nat):Int):=by omega
     rw [e]
theorem searchY_range {y:Yard} {ps:List Place} {a:Label} {need long:Int}:∀ (k:Nat) (f:Int) {g:Int} {ns:List Int},searchY y ps a need long k f=some (g,ns)→f≤g∧g < f+k∧ns=(fitP y ps a ⟨g,g+1+long⟩).take need.toNat∧need≤((fitP y ps a ⟨g,g+1+long⟩).length:Int)
 | 0,f,g,ns,h=>by simp [searchY] at h
 | k+1,f,g,ns,h=>by
   rw [searchY] at h
   split at h
   · rename_i hn
     injection h with h
     injection h with h1 h2
     subst h1 h2
     exact ⟨Int.le_refl _,by omega,rfl,hn⟩
   · have:=searchY_range k (f+1) h
     exact ⟨by omega,by omega,this.2.2⟩
theorem searchY_len {y:Yard} {ps:List Place} {a:Label} {need long:Int} {k:Nat} {f g:Int} {ns:List Int} (h:searchY y ps a need long k f=some (g,ns)) (hn:0≤need):(ns.length:Int)=need:=by
 obtain ⟨_,_,rfl,h2⟩:=searchY_range k f h
 rw [List.length_take]
 omega
def stayTo (now:Int) (occ:List Span) (e:Int):Int:=occ.foldl (fun e o=>if now < o.from_ then min e o.from_ else e) e
def stayEnd (y:Yard) (ps:List Place) (nodes:List Int) (e:Int):Int:=nodes.foldl (fun e n=>stayTo y.now (occOf (rowN (hardR y) n) ps n) e) e
def stayP (y:Yard) (ps:List Place) (t:Task):Place:=⟨t.label,t.id,y.now,stayEnd y ps t.nodes (endOf t),true,t.nodes⟩
def staysB (y:Yard) (ps:List Place) (t:Task):Bool:=runsB t && areFree (hardR y) ps t.nodes ⟨y.now,y.now+1⟩
def keptP (t:Task):Place:=⟨t.label,t.id,t.start,endOf t,false,t.nodes⟩
def isOf (a:Label) (n:Int) (p:Place):Bool:=decide (p.label=a) && decide (p.id=n)
def placedB (ps:List Place) (t:Task):Bool:=ps.any (isOf t.label t.id)
def keepB (y:Yard) (ps:List Place) (t:Task):Bool:=decide (0 < t.nodes.length) && areFree (startR y) ps t.nodes ⟨t.start,endOf t⟩
def foundP (t:Task) (f:Int) (ns:List Int):Place:=⟨t.label,t.id,f,f+1+t.long,false,ns⟩
def moved (y:Yard) (ps:List Place) (t:Task):Place :=
 match searchY y ps t.label t.need t.long (t.start+1 - y.now).toNat y.now with
 | some (f,ns)=>if f=t.start then keptP t else foundP t f ns
 | none=>keptP t
def newP (y:Yard) (ps:List Place) (t:Task):List Place :=
 match searchY y ps t.label t.need t.long 41 y.now with
 | some (f,ns)=>[foundP t f ns]
 | none=>[]
def cutP (ps:List Place) (t:Task):List Place:=ps.eraseIdx (idxOf (isOf t.label t.id) ps).toNat
def step1 (y:Yard) (ps:List Place) (t:Task):List Place:=if staysB y ps t=true then ps ++ [stayP y ps t] else ps
def step2 (y:Yard) (s:List Task × List Task × List Place) (t:Task):List Task × List Task × List Place :=
 if runsB t=true then (if placedB s.2.2 t=true then s else (s.1 ++ [t],s.2.1,s.2.2))
 else if keepB y s.2.2 t=true then (s.1,s.2.1 ++ [t],s.2.2 ++ [keptP t]) else (s.1 ++ [t],s.2.1,s.2.2)
def step3 (y:Yard) (ps:List Place) (t:Task):List Place:=cutP ps t ++ [moved y (cutP ps t) t]
def step4 (y:Yard) (ps:List Place) (t:Task):List Place:=ps ++ newP y ps t
def run2 (y:Yard) (ps:List Place) (l:List Task):List Task × List Task × List Place:=l.foldl (step2 y) ([],[],l.foldl (step1 y) ps)
def planLabel (y:Yard) (ps:List Place) (l:List Task):List Place:=(run2 y ps l).1.foldl (step4 y) ((run2 y ps l).2.1.foldl (step3 y) (run2 y ps l).2.2)
def stepA (y:Yard) (s:List Task × List Place) (t:Task):List Task × List Place :=
 if runsB t=true then (if areFree (hardR y) s.2 t.nodes ⟨y.now,y.now+1⟩=true then (s.1,s.2 ++ [stayP y s.2 t]) else (s.1 ++ [t],s.2)) else s
def keepsB (y:Yard) (ps:List Place) (t:Task):Bool:=areFree (startR y) ps t.nodes ⟨t.start,endOf t⟩ && (decide (t.state=1) && decide (0 < t.nodes.length) && decide (y.now≤t.start))
def stepB (y:Yard) (got:List Place) (s:List Place × List Task × List Task) (t:Task):List Place × List Task × List Task :=
 if runsB t=true then s else if keepsB y (got ++ s.1) t=true then (s.1 ++ [keptP t],s.2.1 ++ [t],s.2.2) else (s.1,s.2.1,s.2.2 ++ [t])
def toP (y:Yard) (ps:List Place) (t:Task) (k:Nat):List Place :=
 match searchY y ps t.label t.need t.long k y.now with
 | some (f,ns)=>[foundP t f ns]
 | none=>[]
def orP (l:List Place) (p:Place):List Place:=if l.length=0 then [p] else l
def roundC (y:Yard) (had:List Place) (kp:List Task):Nat→List Place→List Place
 | 0,got=>got
 | i+1,got=>roundC y had kp i got ++ orP (toP y (roundC y had kp i got ++ had.drop (i+1)) (nth kp i) ((nth kp i).start - y.now).toNat) (nth had i)
def hasT (l:List Task) (t:Task):Bool:=l.any (isTask t.label t.id)
def stepD (y:Yard) (left waits:List Task) (got:List Place) (t:Task):List Place:=if (hasT left t || hasT waits t)=true then got ++ newP y got t else got
def runA (y:Yard) (got:List Place) (l:List Task):List Task × List Place:=l.foldl (stepA y) ([],got)
def runB (y:Yard) (got:List Place) (l:List Task):List Place × List Task × List Task:=l.foldl (stepB y (runA y got l).2) ([],[],[])
def labelS (y:Yard) (got:List Place) (l:List Task):List Place :=
 l.foldl (stepD y (runA y got l).1 (runB y got l).2.2) (roundC y (runB y got l).1 (runB y got l).2.1 (runB y got l).2.1.length (runA y got l).2)
structure Turn (y:Yard) (a:Label) (ps:List Place) (l:List Task):Prop where
 lab:∀ t∈l,t.label=a
 ids:l.Pairwise fun s t=>s.id≠t.id
 far:∀ p∈ps,p.label≠a
 state:∀ t∈l,t.state=2∨t.state=1
 late:∀ t∈l,t.state=1→0 < t.nodes.length→y.now≤t.start
 need:∀ t∈l,1≤t.need
theorem isOf_iff {a:Label} {n:Int} {p:Place}:isOf a n p=true↔p.label=a∧p.id=n:=by simp [isOf]
theorem isTask_eq {a:Label} {n:Int} {t:Task}:isTask a n t=true↔t.label=a∧t.id=n:=by simp [isTask]
theorem any_append_one {α:Type} (p:α→Bool) (l:List α) (x:α):(l ++ [x]).any p=(l.any p || p x):=by simp
section
variable {y:Yard} {a:Label}
theorem first_round {ps:List Place}:∀ (l:List Task),(∀ t∈l,t.label=a)→(l.Pairwise fun s t=>s.id≠t.id) →
 l.foldl (step1 y) ps=(runA y ps l).2∧∃ st:List Place,(runA y ps l).2=ps ++ st∧(∀ p∈st,p.label=a∧∃ t∈l,runsB t=true∧p.id=t.id) ∧
  (∀ t∈(runA y ps l).1,t∈l∧runsB t=true)∧∀ t∈l,runsB t=true→(st.any (isOf t.label t.id) = !hasT (runA y ps l).1 t):=by
 intro l
 induction l using snoc_rec with
 | nil=>intro _ _;exact ⟨rfl,[],by simp [runA],by simp,by simp [runA],by simp⟩
 | snoc l x ih =>
   intro hl hid
   obtain ⟨e1,st,e2,h3,h4,h5⟩:=ih (fun t ht=>hl t (by simp [ht])) (List.pairwise_append.1 hid).1
   have hx:x.label=a:=hl x (by simp)
   have hne:∀ t∈l,t.id≠x.id:=fun t ht=>(List.pairwise_append.1 hid).2.2 t ht x (by simp)
   have ea:runA y ps (l ++ [x])=stepA y (runA y ps l) x:=by simp [runA,List.foldl_append]
   have ei:(l ++ [x]).foldl (step1 y) ps=step1 y (runA y ps l).2 x:=by rw [List.foldl_append,e1];rfl
   rw [ea,ei]
   by_cases hr:runsB x=true
   · by_cases hf:areFree (hardR y) (runA y ps l).2 x.nodes ⟨y.now,y.now+1⟩=true
     · have e:stepA y (runA y ps l) x=((runA y ps l).1,(runA y ps l).2 ++ [stayP y (runA y ps l).2 x]):=by rw [stepA,if_pos hr,if_pos hf]
       rw [e,step1,if_pos (by simp [staysB,hr,hf])]
       refine ⟨rfl,st ++ [stayP y (runA y ps l).2 x],by rw [e2,List.append_assoc],?_,fun t ht=>⟨by simp [(h4 t ht).1],(h4 t ht).2⟩,?_⟩
       · intro p hp
         rcases List.mem_append.1 hp with hp | hp
         · obtain ⟨g1,t,g2,g3⟩:=h3 p hp
           exact ⟨g1,t,by simp [g2],g3⟩
         · rw [List.mem_singleton.1 hp]
           exact ⟨hx,x,by simp,hr,rfl⟩
       · intro t ht hrt
         rw [any_append_one]
         rcases List.mem_append.1 ht with ht | ht
         · rw [h5 t ht hrt]
           have:isOf t.label t.id (stayP y (runA y ps l).2 x)=false:=by
            rw [Bool.eq_false_iff];intro h
            exact hne t ht (isOf_iff.1 h).2.symm
           rw [this,Bool.or_false]
         · rw [List.mem_singleton.1 ht]
           have h6:isOf x.label x.id (stayP y (runA y ps l).2 x)=true:=isOf_iff.2 ⟨rfl,rfl⟩
           have h7:hasT (runA y ps l).1 x=false:=by
            rw [hasT,List.any_eq_false]
            intro u hu h
            exact hne u (h4 u hu).1 (isTask_eq.1 h).2
           rw [h6,h7];simp
     · have e:stepA y (runA y ps l) x=((runA y ps l).1 ++ [x],(runA y ps l).2):=by rw [stepA,if_pos hr,if_neg hf]
       rw [e,step1,if_neg (by simp [staysB,hf])]
       refine ⟨rfl,st,e2,fun p hp=>?_,fun t ht=>?_,fun t ht hrt=>?_⟩
       · obtain ⟨g1,t,g2,g3⟩:=h3 p hp
         exact ⟨g1,t,by simp [g2],g3⟩
       · rcases List.mem_append.1 ht with ht | ht
         · exact ⟨by simp [(h4 t ht).1],(h4 t ht).2⟩
         · rw [List.mem_singleton.1 ht];exact ⟨by simp,hr⟩
       · rcases List.mem_append.1 ht with ht | ht
         · rw [h5 t ht hrt,hasT,hasT,any_append_one]
           have:isTask t.label t.id x=false:=by
            rw [Bool.eq_false_iff];intro h
            exact hne t ht (isTask_eq.1 h).2.symm
           rw [this,Bool.or_false]
         · rw [List.mem_singleton.1 ht]
           have h6:st.any (isOf x.label x.id)=false:=by
            rw [List.any_eq_false]
            intro p hp h
            obtain ⟨_,t,g2,_,g3⟩:=h3 p hp
            exact hne t g2 (g3.symm.trans (isOf_iff.1 h).2)
           have h7:hasT ((runA y ps l).1 ++ [x]) x=true:=by
            rw [hasT,any_append_one,isTask_eq.2 ⟨rfl,rfl⟩,Bool.or_true]
           rw [h6,h7];rfl
   · have e:stepA y (runA y ps l) x=runA y ps l:=by rw [stepA,if_neg hr]
     rw [e,step1,if_neg (by simp [staysB,hr])]
     refine ⟨rfl,st,e2,fun p hp=>?_,fun t ht=>⟨by simp [(h4 t ht).1],(h4 t ht).2⟩,fun t ht hrt=>?_⟩
     · obtain ⟨g1,t,g2,g3⟩:=h3 p hp
       exact ⟨g1,t,by simp [g2],g3⟩
     · rcases List.mem_append.1 ht with ht | ht
       · exact h5 t ht hrt
       · rw [List.mem_singleton.1 ht] at hrt;exact absurd hrt hr
theorem second_round {got:List Place} {left:List Task} {all:List Task} (hleft:∀ t∈left,t∈all∧runsB t=true)
 (hst:∀ t∈all,runsB t=true→got.any (isOf t.label t.id) = !hasT left t) (hid:all.Pairwise fun s t=>s.id≠t.id) (hs:∀ t∈all,t.state=2∨t.state=1) (hlate:∀ t∈all,t.state=1→0 < t.nodes.length→y.now≤t.start) :
 ∀ l:List Task,l <+: all →
   (l.foldl (step2 y) ([],[],got)).2.2=got ++ (l.foldl (stepB y got) ([],[],[])).1∧(l.foldl (step2 y) ([],[],got)).2.1=(l.foldl (stepB y got) ([],[],[])).2.1 ∧
   (l.foldl (stepB y got) ([],[],[])).1=(l.foldl (stepB y got) ([],[],[])).2.1.map keptP∧(∀ t∈(l.foldl (stepB y got) ([],[],[])).2.1,t∈l∧runsB t=false)∧((l.foldl (stepB y got) ([],[],[])).2.1).Sublist l ∧
   (∀ t∈(l.foldl (stepB y got) ([],[],[])).2.2,t∈l∧runsB t=false) ∧
   (l.foldl (step2 y) ([],[],got)).1=l.filter (fun t=>hasT left t || hasT (l.foldl (stepB y got) ([],[],[])).2.2 t):=by
 intro l
 induction l using snoc_rec with
 | nil=>intro _;simp
 | snoc l x ih =>
   intro hpre
   obtain ⟨r,hr⟩:=hpre
   have hall:all=l ++ (x :: r):=by rw [← hr];simp
   obtain ⟨h1,h2,h3,h4,h4',h5,h6⟩:=ih ⟨x :: r,hall.symm⟩
   have hne:∀ t∈l,t.id≠x.id:=fun t ht=>by rw [hall] at hid;exact (List.pairwise_append.1 hid).2.2 t ht x (by simp)
   have hxa:x∈all:=by rw [hall];simp
   have hla:∀ t∈l,t∈all:=fun t ht=>by rw [hall];simp [ht]
   rw [List.foldl_append,List.foldl_append]
   simp only [List.foldl_cons,List.foldl_nil]
   generalize hsB:l.foldl (stepB y got) ([],[],[])=sB at *
   generalize hsI:l.foldl (step2 y) ([],[],got)=sI at *
   obtain ⟨had,kp,waits⟩:=sB
   obtain ⟨lf,kp,ps⟩:=sI
   simp only at h1 h2 h3 h4 h4' h5 h6
   subst h1 h2
   have hwx:hasT waits x=false:=by
    rw [hasT,List.any_eq_false];intro u hu h
    exact hne u (h5 u hu).1 (isTask_eq.1 h).2
   by_cases hrx:runsB x=true
   · have eB:stepB y got (had,kp,waits) x=(had,kp,waits):=by rw [stepB,if_pos hrx]
     have hhad:had.any (isOf x.label x.id)=false:=by
      rw [List.any_eq_false,h3];intro p hp h
      obtain ⟨t,ht,rfl⟩:=List.mem_map.1 hp
      exact hne t (h4 t ht).1 (isOf_iff.1 h).2
     have hpl:placedB (got ++ had) x = !hasT left x:=by
      rw [placedB,List.any_append,hhad,Bool.or_false,hst x hxa hrx]
     rw [eB]
     have e2:step2 y (lf,kp,got ++ had) x=(if placedB (got ++ had) x=true then (lf,kp,got ++ had) else (lf ++ [x],kp,got ++ had)):=by rw [step2,if_pos hrx]
     rw [e2,hpl]
     have hf:(l ++ [x]).filter (fun t=>hasT left t || hasT waits t)=l.filter (fun t=>hasT left t || hasT waits t) ++ (if hasT left x=true then [x] else []):=by
      rw [List.filter_append]
      congr 1
      simp only [List.filter_cons,List.filter_nil,hwx,Bool.or_false]
     simp only
     rw [hf,← h6]
     refine ⟨?_,?_,h3,fun t ht=>⟨by simp [(h4 t ht).1],(h4 t ht).2⟩,h4'.trans (List.sublist_append_left ..),fun t ht=>⟨by simp [(h5 t ht).1],(h5 t ht).2⟩,?_⟩
     · split <;> rfl
     · split <;> rfl
     · cases hasT left x <;> simp
   · have hrx':runsB x=false:=by simpa using hrx
     have hst1:x.state=1:=by
      rcases hs x hxa with h | h
      · exact absurd (by simp [runsB,h]) hrx
      · exact h
     have hlx:hasT left x=false:=by
      rw [hasT,List.any_eq_false];intro u hu h
      have hua:=(hleft u hu).1
      have hur:=(hleft u hu).2
      have huid:=(isTask_eq.1 h).2
      rw [hall] at hua
      rcases List.mem_append.1 hua with h' | h'
      · exact hne u h' huid
      · rcases List.mem_cons.1 h' with h' | h'
        · rw [h',hrx'] at hur;cases hur
        · rw [hall] at hid
          exact (List.pairwise_cons.1 (List.pairwise_append.1 hid).2.1).1 u h' huid.symm
     have hk:keepsB y (got ++ had) x=keepB y (got ++ had) x:=by
      unfold keepsB keepB
      by_cases h0:0 < x.nodes.length
      · rw [decide_eq_true hst1,decide_eq_true h0,decide_eq_true (hlate x hxa hst1 h0)];simp
      · rw [decide_eq_false h0];simp
     have eB:stepB y got (had,kp,waits) x=if keepB y (got ++ had) x=true then (had ++ [keptP x],kp ++ [x],waits) else (had,kp,waits ++ [x]):=by
      rw [stepB,if_neg hrx,hk]
     have eI:step2 y (lf,kp,got ++ had) x=if keepB y (got ++ had) x=true then (lf,kp ++ [x],(got ++ had) ++ [keptP x]) else (lf ++ [x],kp,got ++ had):=by
      rw [step2,if_neg hrx]
     rw [eB,eI]
     by_cases hkb:keepB y (got ++ had) x=true
     · rw [if_pos hkb,if_pos hkb]
       have hf:(l ++ [x]).filter (fun t=>hasT left t || hasT waits t)=l.filter (fun t=>hasT left t || hasT waits t):=by
        rw [List.filter_append]
        simp [hlx,hwx]
       refine ⟨by simp,rfl,by simp [h3],fun t ht=>?_,h4'.append_right _ |>.trans (List.Sublist.refl _),fun t ht=>⟨by simp [(h5 t ht).1],(h5 t ht).2⟩,?_⟩
       · rcases List.mem_append.1 ht with h | h
         · exact ⟨by simp [(h4 t h).1],(h4 t h).2⟩
         · rw [List.mem_singleton.1 h];exact ⟨by simp,hrx'⟩
       · simp only
         rw [hf,h6]
     · rw [if_neg hkb,if_neg hkb]
       have hf:(l ++ [x]).filter (fun t=>hasT left t || hasT (waits ++ [x]) t)=l.filter (fun t=>hasT left t || hasT waits t) ++ [x]:=by
        rw [List.filter_append]
        congr 1
        · apply List.filter_congr
          intro t ht
          congr 1
          rw [hasT,hasT,any_append_one]
          have:isTask t.label t.id x=false:=by
           rw [Bool.eq_false_iff];intro h
           exact hne t ht (isTask_eq.1 h).2.symm
          rw [this,Bool.or_false]
        · have:hasT (waits ++ [x]) x=true:=by rw [hasT,any_append_one,isTask_eq.2 ⟨rfl,rfl⟩,Bool.or_true]
          simp [this]
       refine ⟨rfl,rfl,h3,fun t ht=>⟨by simp [(h4 t ht).1],(h4 t ht).2⟩,h4'.trans (List.sublist_append_left ..),fun t ht=>?_,?_⟩
       · rcases List.mem_append.1 ht with h | h
         · exact ⟨by simp [(h5 t h).1],(h5 t h).2⟩
         · rw [List.mem_singleton.1 h];exact ⟨by simp,hrx'⟩
       · simp only
         rw [hf,h6]
theorem moved_orP {ps qs:List Place} {t:Task} (h:ps.Perm qs) (hl:y.now≤t.start):[moved y ps t]=orP (toP y qs t (t.start - y.now).toNat) (keptP t):=by
 unfold moved toP
 rw [searchY_perm h]
 have e:(t.start+1 - y.now).toNat=(t.start - y.now).toNat+1:=by omega
 rw [e,searchY_more]
 cases hs:searchY y qs t.label t.need t.long (t.start - y.now).toNat y.now with
 | some r =>
   obtain ⟨f,ns⟩:=r
   have hr:=searchY_range _ _ hs
   have hne:¬ f=t.start:=by
    have:=hr.2.1
    omega
   simp [hne,orP]
 | none =>
   have e3:y.now+((t.start - y.now).toNat:Int)=t.start:=by omega
   simp only [e3]
   split
   · rename_i hh
     split at hh
     · injection hh with hh
       injection hh with hh1 hh2
       rw [if_pos hh1.symm]
       simp [orP]
     · cases hh
   · simp [orP]
theorem idx_mid {α:Type} {p:α→Bool} {l m:List α} {x:α} (h:l.any p=false) (hx:p x=true):idxOf p (l ++ x :: m)=l.length:=by
 have h1:l.findIdx? p=none:=List.findIdx?_eq_none_iff.2 fun z hz=>by
  have:=List.any_eq_false.1 h z hz
  simpa using this
 have:(l ++ x :: m).findIdx? p=some l.length:=by
  rw [List.findIdx?_append,h1]
  simp [List.findIdx?_cons,hx]
 rw [idxOf,this];rfl
theorem cut_at {got had done:List Place} {i:Nat} {t:Task} (hi:i < had.length) (hh:nth had i=keptP t) (hg:got.any (isOf t.label t.id)=false) :
 idxOf (isOf t.label t.id) (got ++ (had.drop i ++ done))=got.length∧cutP (got ++ (had.drop i ++ done)) t=got ++ (had.drop (i+1) ++ done):=by
 have e:had.drop i ++ done=keptP t :: (had.drop (i+1) ++ done):=by rw [drop_nth hi,hh];rfl
 have h1:idxOf (isOf t.label t.id) (got ++ (had.drop i ++ done))=got.length:=by rw [e];exact idx_mid hg (isOf_iff.2 ⟨rfl,rfl⟩)
 refine ⟨h1,?_⟩
 rw [cutP,h1,e]
 simp [List.eraseIdx_append_of_length_le]
theorem third_round {got had:List Place} {kept:List Task} (hk:had=kept.map keptP) (hg:∀ t∈kept,got.any (isOf t.label t.id)=false) (hl:∀ t∈kept,y.now≤t.start) :
 ∀ i,i≤kept.length→∃ done,(kept.take i).foldl (step3 y) (got ++ had)=got ++ (had.drop i ++ done)∧roundC y had kept i got=got ++ done:=by
 intro i
 induction i with
 | zero=>intro _;exact ⟨[],by simp,by simp [roundC]⟩
 | succ i ih =>
   intro hi
   obtain ⟨done,h1,h2⟩:=ih (by omega)
   have hlen:had.length=kept.length:=by rw [hk,List.length_map]
   have hm:nth kept i∈kept:=nth_mem (by omega)
   have hh:nth had i=keptP (nth kept i):=by rw [hk,nth_map (by omega)]
   obtain ⟨_,c2⟩:=cut_at (done:=done) (show i < had.length by omega) hh (hg _ hm)
   refine ⟨done ++ [moved y (got ++ (had.drop (i+1) ++ done)) (nth kept i)],?_,?_⟩
   · rw [take_succ_nth (by omega),List.foldl_append,h1]
     simp only [List.foldl_cons,List.foldl_nil,step3]
     rw [c2]
     simp
   · rw [roundC,h2,hh]
     have hp:(got ++ (had.drop (i+1) ++ done)).Perm ((got ++ done) ++ had.drop (i+1)):=by
      rw [List.append_assoc]
      exact List.Perm.append_left _ List.perm_append_comm
     rw [← moved_orP hp (hl _ hm)]
     simp
theorem foldl_filter_if {α β:Type} (p:α→Bool) (f:β→α→β):∀ (l:List α) (b:β),(l.filter p).foldl f b=l.foldl (fun b x=>if p x=true then f b x else b) b
 | [],b=>rfl
 | x :: l,b=>by
   rw [List.filter_cons]
   split
   · rename_i h
     rw [List.foldl_cons,List.foldl_cons,foldl_filter_if p f l,if_pos h]
   · rename_i h
     rw [List.foldl_cons,foldl_filter_if p f l,if_neg h]
theorem turn_facts {ps:List Place} {l:List Task} (h:Turn y a ps l):(run2 y ps l).2.2=(runA y ps l).2 ++ (runB y ps l).1∧(run2 y ps l).2.1=(runB y ps l).2.1∧(runB y ps l).1=(runB y ps l).2.1.map keptP ∧
 (∀ t∈(runB y ps l).2.1,(runA y ps l).2.any (isOf t.label t.id)=false)∧∀ t∈(runB y ps l).2.1,y.now≤t.start:=by
 obtain ⟨e1,st,e2,s1,s2,s3⟩:=first_round (y:=y) (ps:=ps) l h.lab h.ids
 have hpa:∀ t∈l,ps.any (isOf t.label t.id)=false:=fun t ht=>by
  rw [List.any_eq_false];intro p hp hh
  exact h.far p hp ((isOf_iff.1 hh).1.trans (h.lab t ht))
 have hst:∀ t∈l,runsB t=true→(runA y ps l).2.any (isOf t.label t.id) = !hasT (runA y ps l).1 t:=fun t ht hr=>by
  rw [e2,List.any_append,hpa t ht,Bool.false_or,s3 t ht hr]
 obtain ⟨g1,g2,g3,g4,g4',g5,g6⟩:=second_round (y:=y) s2 hst h.ids h.state h.late l (List.prefix_refl l)
 have e3:run2 y ps l=l.foldl (step2 y) ([],[],(runA y ps l).2):=by rw [run2,e1]
 have hgot:∀ t∈(runB y ps l).2.1,(runA y ps l).2.any (isOf t.label t.id)=false:=fun t ht=>by
  obtain ⟨ht1,ht2⟩:=g4 t ht
  rw [e2,List.any_append,hpa t ht1,Bool.false_or,List.any_eq_false]
  intro p hp hh
  obtain ⟨_,u,u1,u2,u3⟩:=s1 p hp
  have:u=t:=by
   have:=(isOf_iff.1 hh).2
   obtain ⟨i,hi,rfl⟩:=List.getElem_of_mem u1
   obtain ⟨j,hj,rfl⟩:=List.getElem_of_mem ht1
   rcases Nat.lt_trichotomy i j with c | c | c
   · exact absurd (u3.symm.trans this) (List.pairwise_iff_getElem.1 h.ids i j hi hj c)
   · subst c;rfl
   · exact absurd (u3.symm.trans this).symm (List.pairwise_iff_getElem.1 h.ids j i hj hi c)
  rw [this,ht2] at u2;cases u2
 have hlk:∀ t∈(runB y ps l).2.1,y.now≤t.start:=fun t ht=>by
  obtain ⟨ht1,ht2⟩:=g4 t ht
  have h1:t.state=1:=by
   rcases h.state t ht1 with c | c
   · rw [show runsB t=true by simp [runsB,c]] at ht2;cases ht2
   · exact c
  have hpos:0 < t.nodes.length:=by
   clear e1 st e2 s1 s2 s3 hpa hst g1 g2 g3 g4 g4' g5 g6 e3 hgot ht1 ht2 h1
   unfold runB at ht
   generalize (runA y ps l).2=got at ht
   have:∀ (m:List Task) (s:List Place × List Task × List Task),(∀ t∈s.2.1,0 < t.nodes.length)→∀ t∈(m.foldl (stepB y got) s).2.1,0 < t.nodes.length:=by
    intro m
    induction m with
    | nil=>intro s hs;exact hs
    | cons x m ih =>
      intro s hs
      refine ih _ ?_
      unfold stepB
      split
      · exact hs
      · split
        · rename_i hk
          intro u hu
          rcases List.mem_append.1 hu with hu | hu
          · exact hs u hu
          · rw [List.mem_singleton.1 hu]
            simp only [keepsB,Bool.and_eq_true,decide_eq_true_eq] at hk
            exact hk.2.1.2
        · exact hs
   exact this l ([],[],[]) (by simp) t ht
  exact h.late t ht1 h1 hpos
 exact ⟨by rw [e3];exact g1,by rw [e3];exact g2,g3,hgot,hlk⟩
theorem third_ix {ps:List Place} {l:List Task} (h:Turn y a ps l) {i:Nat} (hi:i < (run2 y ps l).2.1.length) :
 ∃ d:Nat,idxOf (isOf (nth (run2 y ps l).2.1 i).label (nth (run2 y ps l).2.1 i).id) (((run2 y ps l).2.1.take i).foldl (step3 y) (run2 y ps l).2.2)=(d:Int)∧d < (((run2 y ps l).2.1.take i).foldl (step3 y) (run2 y ps l).2.2).length:=by
 obtain ⟨h1,h2,h3,h4,h5⟩:=turn_facts h
 rw [h2] at hi ⊢
 rw [h1]
 obtain ⟨done,k1,k2⟩:=third_round (y:=y) (got:=(runA y ps l).2) (had:=(runB y ps l).1) (kept:=(runB y ps l).2.1) h3 h4 h5 i (Nat.le_of_lt hi)
 have hlen:(runB y ps l).1.length=(runB y ps l).2.1.length:=by rw [h3,List.length_map]
 have hh:nth (runB y ps l).1 i=keptP (nth (runB y ps l).2.1 i):=by rw [h3,nth_map hi]
 obtain ⟨c1,c2⟩:=cut_at (done:=done) (show i < (runB y ps l).1.length by omega) hh (h4 _ (nth_mem hi))
 rw [k1]
 refine ⟨(runA y ps l).2.length,c1,?_⟩
 rw [List.length_append,List.length_append,List.length_drop]
 omega
theorem planLabel_eq {ps:List Place} {l:List Task} (h:Turn y a ps l):planLabel y ps l=labelS y ps l:=by
 obtain ⟨e1,st,e2,s1,s2,s3⟩:=first_round (y:=y) (ps:=ps) l h.lab h.ids
 have hpa:∀ t∈l,ps.any (isOf t.label t.id)=false:=fun t ht=>by
  rw [List.any_eq_false];intro p hp hh
  exact h.far p hp ((isOf_iff.1 hh).1.trans (h.lab t ht))
 have hst:∀ t∈l,runsB t=true→(runA y ps l).2.any (isOf t.label t.id) = !hasT (runA y ps l).1 t:=fun t ht hr=>by
  rw [e2,List.any_append,hpa t ht,Bool.false_or,s3 t ht hr]
 obtain ⟨g1,g2,g3,g4,g4',g5,g6⟩:=second_round (y:=y) s2 hst h.ids h.state h.late l (List.prefix_refl l)
 have e3:run2 y ps l=l.foldl (step2 y) ([],[],(runA y ps l).2):=by rw [run2,e1]
 have hgot:∀ t∈(runB y ps l).2.1,(runA y ps l).2.any (isOf t.label t.id)=false:=fun t ht=>by
  obtain ⟨ht1,ht2⟩:=g4 t ht
  rw [e2,List.any_append,hpa t ht1,Bool.false_or,List.any_eq_false]
  intro p hp hh
  obtain ⟨_,u,u1,u2,u3⟩:=s1 p hp
  have:u=t:=by
   have:=(isOf_iff.1 hh).2
   obtain ⟨i,hi,rfl⟩:=List.getElem_of_mem u1
   obtain ⟨j,hj,rfl⟩:=List.getElem_of_mem ht1
   rcases Nat.lt_trichotomy i j with c | c | c
   · exact absurd (u3.symm.trans this) (List.pairwise_iff_getElem.1 h.ids i j hi hj c)
   · subst c;rfl
   · exact absurd (u3.symm.trans this).symm (List.pairwise_iff_getElem.1 h.ids j i hj hi c)
  rw [this,ht2] at u2;cases u2
 have hlk:∀ t∈(runB y ps l).2.1,y.now≤t.start:=fun t ht=>by
  obtain ⟨ht1,ht2⟩:=g4 t ht
  have h1:t.state=1:=by
   rcases h.state t ht1 with c | c
   · rw [show runsB t=true by simp [runsB,c]] at ht2;cases ht2
   · exact c
  have hpos:0 < t.nodes.length:=by
   clear e1 st e2 s1 s2 s3 hpa hst g1 g2 g3 g4 g4' g5 g6 e3 hgot ht1 ht2 h1
   unfold runB at ht
   generalize (runA y ps l).2=got at ht
   have:∀ (m:List Task) (s:List Place × List Task × List Task),(∀ t∈s.2.1,0 < t.nodes.length)→∀ t∈(m.foldl (stepB y got) s).2.1,0 < t.nodes.length:=by
    intro m
    induction m with
    | nil=>intro s hs;exact hs
    | cons x m ih =>
      intro s hs
      refine ih _ ?_
      unfold stepB
      split
      · exact hs
      · split
        · rename_i hk
          intro u hu
          rcases List.mem_append.1 hu with hu | hu
          · exact hs u hu
          · rw [List.mem_singleton.1 hu]
            simp only [keepsB,Bool.and_eq_true,decide_eq_true_eq] at hk
            exact hk.2.1.2
        · exact hs
   exact this l ([],[],[]) (by simp) t ht
  exact h.late t ht1 h1 hpos
 obtain ⟨done,k1,k2⟩:=third_round (y:=y) (got:=(runA y ps l).2) (had:=(runB y ps l).1) (kept:=(runB y ps l).2.1) g3 hgot hlk _ (Nat.le_refl _)
 rw [List.take_length] at k1
 rw [planLabel,labelS,e3,g6,g2,g1]
 change List.foldl (step4 y) (List.foldl (step3 y) ((runA y ps l).2 ++ (runB y ps l).1) (runB y ps l).2.1) _=_
 rw [k1,k2,foldl_filter_if]
 have hlen:(runB y ps l).1.length=(runB y ps l).2.1.length:=by
  have:(runB y ps l).1=(runB y ps l).2.1.map keptP:=g3
  rw [this,List.length_map]
 rw [← hlen,List.drop_length]
 rfl
end
end Go.Proofs.YtoblacfjmcpbmaaGreat
