/- The plan of a yard, in plain Lean: what the program computes, what the reference computes, and that they agree. No program in sight. -/
import Derived.Test.YtbdicafambkhdaaGreatOrderS
import Derived.Test.YtbdicafambkhdaaGreatNodeRows
import Derived.Test.YtbdicafambkhdaaGreatCopies
namespace Go.Proofs.YtbdicafambkhdaaGreat
open Go.RowKit
theorem zI {α:Type} {P:List α→Prop} (nil:P []) (snoc:∀ l x,P l→P (l ++ [x])):∀ l,P l:=fun l=>by
 suffices h:∀ m:List α,P m.reverse by have:=h l.reverse;rwa [List.reverse_reverse] at this
 intro m;induction m with
 | nil=>exact nil
 | cons x m ih=>rw [List.reverse_cons];exact snoc _ _ ih
theorem sZ {α β:Type} [Inhabited α] [Inhabited β] {f:α→β} {l:List α} {k:Nat} (h:k < l.length):nth (l.map f) k=f (nth l k):=by
 rw [aO (by rw [List.length_map];exact h),aO h,List.getElem_map]
def Vd (n:Int) (p:Place):Bool:=p.nodes.any (isNum n)
def aew (p:Place):Span:=⟨p.from_,p.jA⟩
def kT (base:List Span) (ps:List Place) (n:Int):List Span:=base ++ (ps.filter (Vd n)).map aew
def jC (base:List Span) (ps:List Place) (n:Int) (x:Span):Bool:=jq (kT base ps n) x
def ED (n:Int) (x:Span) (p:Place):Bool:=laps x (aew p) && Vd n p
theorem Va (a b:List Span) (x:Span):jq (a ++ b) x=(jq a x && jq b x):=by simp [jq]
theorem EC (base:List Span) (ps:List Place) (n:Int) (x:Span):jC base ps n x=(!ps.any (ED n x) && jq base x):=by
 rw [jC,kT,Va,Bool.and_comm];congr 1;simp only [jq,List.any_map,List.any_filter];congr 1;congr 1;funext p;simp [ED,Bool.and_comm]
theorem Yc {base:List Span} {ps qs:List Place} (h:ps.Perm qs) (n:Int) (x:Span):jC base ps n x=jC base qs n x:=by
 have:ps.any (ED n x)=qs.any (ED n x):=by
  rw [Bool.eq_iff_iff,List.any_eq_true,List.any_eq_true];exact ⟨fun ⟨p,hp,e⟩=>⟨p,h.mem_iff.1 hp,e⟩,fun ⟨p,hp,e⟩=>⟨p,h.mem_iff.2 hp,e⟩⟩
 rw [EC,EC,this]
def kU (rows:List (List Span)) (n:Int):List Span:=nth rows n.toNat
def jg (rows:List (List Span)) (ps:List Place) (nodes:List Int) (x:Span):Bool:=nodes.all fun n=>jC (kU rows n) ps n x
def bg (y:aK):List (List Span):=rowsOf y.nodes 2
def dF (y:aK):List (List Span):=rowsOf y.nodes 3
def rV (y:aK) (ps:List Place) (a:Label) (x:Span):List Int:=(eP y.config.nodes a y.config.nodes.length).filter fun n=>jC (kU (bg y) n) ps n x
theorem abH {y:aK} {ps qs:List Place} (h:ps.Perm qs) (a:Label) (x:Span):rV y ps a x=rV y qs a x:=by
 unfold rV;congr 1;funext n;exact Yc h n x
def bP (y:aK) (ps:List Place) (a:Label) (need long:Int):Nat→Int→Option (Int × List Int)
 | 0,_=>none
 | k+1,f=>if need≤((rV y ps a ⟨f,f+1+long⟩).length:Int) then some (f,(rV y ps a ⟨f,f+1+long⟩).take need.toNat) else bP y ps a need long k (f+1)
theorem EU {y:aK} {ps qs:List Place} (h:ps.Perm qs) (a:Label) (need long:Int):∀ (k:Nat) (f:Int),bP y ps a need long k f=bP y qs a need long k f
 | 0,_=>rfl
 | k+1,f=>by rw [bP,bP,abH h,EU h a need long k]
theorem ET {y:aK} {ps:List Place} {a:Label} {need long:Int}:∀ (k:Nat) (f:Int),bP y ps a need long (k+1) f=match bP y ps a need long k f with
  | some r=>some r
  | none=>if need≤((rV y ps a ⟨f+k,f+k+1+long⟩).length:Int) then some (f+k,(rV y ps a ⟨f+k,f+k+1+long⟩).take need.toNat) else none
 | 0,f=>by simp [bP]
 | k+1,f=>by
   rw [bP];split
   · rename_i h
     rw [bP,if_pos h]
   · rename_i h
     rw [ET k (f+1)]
     conv=>rhs;rw [bP,if_neg h]
     have e:f+1+(k:Int)=f+((k+1:Nat):Int):=by omega
     rw [e]
theorem oV {y:aK} {ps:List Place} {a:Label} {need long:Int}:∀ (k:Nat) (f:Int) {g:Int} {ns:List Int},bP y ps a need long k f=some (g,ns)→f≤g∧g < f+k∧ns=(rV y ps a ⟨g,g+1+long⟩).take need.toNat∧need≤((rV y ps a ⟨g,g+1+long⟩).length:Int)
 | 0,f,g,ns,h=>by simp [bP] at h
 | k+1,f,g,ns,h=>by
   rw [bP] at h;split at h
   · rename_i hn
     injection h with h
     injection h with h1 h2
     subst h1 h2;exact ⟨Int.le_refl _,by omega,rfl,hn⟩
   · have:=oV k (f+1) h;exact ⟨by omega,by omega,this.2.2⟩
theorem WY {y:aK} {ps:List Place} {a:Label} {need long:Int} {k:Nat} {f g:Int} {ns:List Int} (h:bP y ps a need long k f=some (g,ns)) (hn:0≤need):(ns.length:Int)=need:=by
 obtain ⟨_,_,rfl,h2⟩:=oV k f h;rw [List.length_take];omega
def iG (now:Int) (J8:List Span) (e:Int):Int:=J8.foldl (fun e o=>if now < o.from_ then min e o.from_ else e) e
def iZ (y:aK) (ps:List Place) (nodes:List Int) (e:Int):Int:=nodes.foldl (fun e n=>iG y.now (kT (kU (dF y) n) ps n) e) e
def lI (y:aK) (ps:List Place) (t:Task):Place:=⟨t.label,t.id,y.now,iZ y ps t.nodes (endOf t),true,t.nodes⟩
def uK (y:aK) (ps:List Place) (t:Task):Bool:=dP t && jg (dF y) ps t.nodes ⟨y.now,y.now+1⟩
def iY (t:Task):Place:=⟨t.label,t.id,t.start,endOf t,false,t.nodes⟩
def qj (a:Label) (n:Int) (p:Place):Bool:=decide (p.label=a) && decide (p.id=n)
def xU (ps:List Place) (t:Task):Bool:=ps.any (qj t.label t.id)
def Ce (y:aK) (ps:List Place) (t:Task):Bool:=decide (0 < t.nodes.length) && jg (bg y) ps t.nodes ⟨t.start,endOf t⟩
def jI (t:Task) (f:Int) (ns:List Int):Place:=⟨t.label,t.id,f,f+1+t.long,false,ns⟩
def moved (y:aK) (ps:List Place) (t:Task):Place :=
 match bP y ps t.label t.need t.long (t.start+1 - y.now).toNat y.now with
 | some (f,ns)=>if f=t.start then iY t else jI t f ns
 | none=>iY t
def newP (y:aK) (ps:List Place) (t:Task):List Place :=
 match bP y ps t.label t.need t.long 41 y.now with
 | some (f,ns)=>[jI t f ns]
 | none=>[]
def UM (ps:List Place) (t:Task):List Place:=ps.eraseIdx (idxOf (qj t.label t.id) ps).toNat
def step1 (y:aK) (ps:List Place) (t:Task):List Place:=if uK y ps t=true then ps ++ [lI y ps t] else ps
def step2 (y:aK) (s:List Task × List Task × List Place) (t:Task):List Task × List Task × List Place :=
 if dP t=true then (if xU s.2.2 t=true then s else (s.1 ++ [t],s.2.1,s.2.2))
 else if Ce y s.2.2 t=true then (s.1,s.2.1 ++ [t],s.2.2 ++ [iY t]) else (s.1 ++ [t],s.2.1,s.2.2)
def step3 (y:aK) (ps:List Place) (t:Task):List Place:=UM ps t ++ [moved y (UM ps t) t]
def step4 (y:aK) (ps:List Place) (t:Task):List Place:=ps ++ newP y ps t
def oU (y:aK) (ps:List Place) (l:List Task):List Task × List Task × List Place:=l.foldl (step2 y) ([],[],l.foldl (step1 y) ps)
def dL (y:aK) (ps:List Place) (l:List Task):List Place:=(oU y ps l).1.foldl (step4 y) ((oU y ps l).2.1.foldl (step3 y) (oU y ps l).2.2)
def vJ (y:aK) (s:List Task × List Place) (t:Task):List Task × List Place :=
 if dP t=true then (if jg (dF y) s.2 t.nodes ⟨y.now,y.now+1⟩=true then (s.1,s.2 ++ [lI y s.2 t]) else (s.1 ++ [t],s.2)) else s
def qL (y:aK) (ps:List Place) (t:Task):Bool:=jg (bg y) ps t.nodes ⟨t.start,endOf t⟩ && (decide (t.state=1) && decide (0 < t.nodes.length) && decide (y.now≤t.start))
def gZ (y:aK) (got:List Place) (s:List Place × List Task × List Task) (t:Task):List Place × List Task × List Task :=
 if dP t=true then s else if qL y (got ++ s.1) t=true then (s.1 ++ [iY t],s.2.1 ++ [t],s.2.2) else (s.1,s.2.1,s.2.2 ++ [t])
def toP (y:aK) (ps:List Place) (t:Task) (k:Nat):List Place :=
 match bP y ps t.label t.need t.long k y.now with
 | some (f,ns)=>[jI t f ns]
 | none=>[]
def orP (l:List Place) (p:Place):List Place:=if l.length=0 then [p] else l
def ou (y:aK) (had:List Place) (kp:List Task):Nat→List Place→List Place
 | 0,got=>got
 | i+1,got=>ou y had kp i got ++ orP (toP y (ou y had kp i got ++ had.drop (i+1)) (nth kp i) ((nth kp i).start - y.now).toNat) (nth had i)
def kK (l:List Task) (t:Task):Bool:=l.any (jv t.label t.id)
def stepD (y:aK) (left waits:List Task) (got:List Place) (t:Task):List Place:=if (kK left t || kK waits t)=true then got ++ newP y got t else got
def iy (y:aK) (got:List Place) (l:List Task):List Task × List Place:=l.foldl (vJ y) ([],got)
def oz (y:aK) (got:List Place) (l:List Task):List Place × List Task × List Task:=l.foldl (gZ y (iy y got l).2) ([],[],[])
def uF (y:aK) (got:List Place) (l:List Task):List Place :=
 l.foldl (stepD y (iy y got l).1 (oz y got l).2.2) (ou y (oz y got l).1 (oz y got l).2.1 (oz y got l).2.1.length (iy y got l).2)
structure Turn (y:aK) (a:Label) (ps:List Place) (l:List Task):Prop where
 lab:∀ t∈l,t.label=a
 ids:l.Pairwise fun s t=>s.id≠t.id
 far:∀ p∈ps,p.label≠a
 state:∀ t∈l,t.state=2∨t.state=1
 late:∀ t∈l,t.state=1→0 < t.nodes.length→y.now≤t.start
 need:∀ t∈l,1≤t.need
theorem qm {a:Label} {n:Int} {p:Place}:qj a n p=true↔p.label=a∧p.id=n:=by simp [qj]
theorem qK {a:Label} {n:Int} {t:Task}:jv a n t=true↔t.label=a∧t.id=n:=by simp [jv]
theorem mV {α:Type} (p:α→Bool) (l:List α) (x:α):(l ++ [x]).any p=(l.any p || p x):=by simp
section
variable {y:aK} {a:Label}
theorem yU {ps:List Place}:∀ (l:List Task),(∀ t∈l,t.label=a)→(l.Pairwise fun s t=>s.id≠t.id) →
 l.foldl (step1 y) ps=(iy y ps l).2∧∃ st:List Place,(iy y ps l).2=ps ++ st∧(∀ p∈st,p.label=a∧∃ t∈l,dP t=true∧p.id=t.id) ∧
  (∀ t∈(iy y ps l).1,t∈l∧dP t=true)∧∀ t∈l,dP t=true→(st.any (qj t.label t.id) = !kK (iy y ps l).1 t):=by
 intro l;induction l using zI with
 | nil=>intro _ _;exact ⟨rfl,[],by simp [iy],by simp,by simp [iy],by simp⟩
 | snoc l x ih =>
   intro hl hid;obtain ⟨e1,st,e2,h3,h4,h5⟩:=ih (fun t ht=>hl t (by simp [ht])) (List.pairwise_append.1 hid).1;have hx:x.label=a:=hl x (by simp);have hne:∀ t∈l,t.id≠x.id:=fun t ht=>(List.pairwise_append.1 hid).2.2 t ht x (by simp);have ea:iy y ps (l ++ [x])=vJ y (iy y ps l) x:=by simp [iy,List.foldl_append]
   have ei:(l ++ [x]).foldl (step1 y) ps=step1 y (iy y ps l).2 x:=by rw [List.foldl_append,e1];rfl
   rw [ea,ei];by_cases hr:dP x=true
   · by_cases hf:jg (dF y) (iy y ps l).2 x.nodes ⟨y.now,y.now+1⟩=true
     · have e:vJ y (iy y ps l) x=((iy y ps l).1,(iy y ps l).2 ++ [lI y (iy y ps l).2 x]):=by rw [vJ,if_pos hr,if_pos hf]
       rw [e,step1,if_pos (by simp [uK,hr,hf])];refine ⟨rfl,st ++ [lI y (iy y ps l).2 x],by rw [e2,List.append_assoc],?_,fun t ht=>⟨by simp [(h4 t ht).1],(h4 t ht).2⟩,?_⟩
       · intro p hp;rcases List.mem_append.1 hp with hp | hp
         · obtain ⟨g1,t,g2,g3⟩:=h3 p hp;exact ⟨g1,t,by simp [g2],g3⟩
         · rw [List.mem_singleton.1 hp];exact ⟨hx,x,by simp,hr,rfl⟩
       · intro t ht hrt;rw [mV];rcases List.mem_append.1 ht with ht | ht
         · rw [h5 t ht hrt];have:qj t.label t.id (lI y (iy y ps l).2 x)=false:=by
            rw [Bool.eq_false_iff];intro h;exact hne t ht (qm.1 h).2.symm
           rw [this,Bool.or_false]
         · rw [List.mem_singleton.1 ht];have h6:qj x.label x.id (lI y (iy y ps l).2 x)=true:=qm.2 ⟨rfl,rfl⟩;have h7:kK (iy y ps l).1 x=false:=by
            rw [kK,List.any_eq_false];intro u hu h;exact hne u (h4 u hu).1 (qK.1 h).2
           rw [h6,h7];simp
     · have e:vJ y (iy y ps l) x=((iy y ps l).1 ++ [x],(iy y ps l).2):=by rw [vJ,if_pos hr,if_neg hf]
       rw [e,step1,if_neg (by simp [uK,hf])];refine ⟨rfl,st,e2,fun p hp=>?_,fun t ht=>?_,fun t ht hrt=>?_⟩
       · obtain ⟨g1,t,g2,g3⟩:=h3 p hp;exact ⟨g1,t,by simp [g2],g3⟩
       · rcases List.mem_append.1 ht with ht | ht
         · exact ⟨by simp [(h4 t ht).1],(h4 t ht).2⟩
         · rw [List.mem_singleton.1 ht];exact ⟨by simp,hr⟩
       · rcases List.mem_append.1 ht with ht | ht
         · rw [h5 t ht hrt,kK,kK,mV];have:jv t.label t.id x=false:=by
            rw [Bool.eq_false_iff];intro h;exact hne t ht (qK.1 h).2.symm
           rw [this,Bool.or_false]
         · rw [List.mem_singleton.1 ht];have h6:st.any (qj x.label x.id)=false:=by
            rw [List.any_eq_false];intro p hp h;obtain ⟨_,t,g2,_,g3⟩:=h3 p hp;exact hne t g2 (g3.symm.trans (qm.1 h).2)
           have h7:kK ((iy y ps l).1 ++ [x]) x=true:=by
            rw [kK,mV,qK.2 ⟨rfl,rfl⟩,Bool.or_true]
           rw [h6,h7];rfl
   · have e:vJ y (iy y ps l) x=iy y ps l:=by rw [vJ,if_neg hr]
     rw [e,step1,if_neg (by simp [uK,hr])];refine ⟨rfl,st,e2,fun p hp=>?_,fun t ht=>⟨by simp [(h4 t ht).1],(h4 t ht).2⟩,fun t ht hrt=>?_⟩
     · obtain ⟨g1,t,g2,g3⟩:=h3 p hp;exact ⟨g1,t,by simp [g2],g3⟩
     · rcases List.mem_append.1 ht with ht | ht
       · exact h5 t ht hrt
       · rw [List.mem_singleton.1 ht] at hrt;exact absurd hrt hr
theorem EW {got:List Place} {left:List Task} {all:List Task} (hleft:∀ t∈left,t∈all∧dP t=true)
 (hst:∀ t∈all,dP t=true→got.any (qj t.label t.id) = !kK left t) (hid:all.Pairwise fun s t=>s.id≠t.id) (hs:∀ t∈all,t.state=2∨t.state=1) (alN:∀ t∈all,t.state=1→0 < t.nodes.length→y.now≤t.start) :
 ∀ l:List Task,l <+: all →
   (l.foldl (step2 y) ([],[],got)).2.2=got ++ (l.foldl (gZ y got) ([],[],[])).1∧(l.foldl (step2 y) ([],[],got)).2.1=(l.foldl (gZ y got) ([],[],[])).2.1 ∧
   (l.foldl (gZ y got) ([],[],[])).1=(l.foldl (gZ y got) ([],[],[])).2.1.map iY∧(∀ t∈(l.foldl (gZ y got) ([],[],[])).2.1,t∈l∧dP t=false)∧((l.foldl (gZ y got) ([],[],[])).2.1).Sublist l ∧
   (∀ t∈(l.foldl (gZ y got) ([],[],[])).2.2,t∈l∧dP t=false) ∧
   (l.foldl (step2 y) ([],[],got)).1=l.filter (fun t=>kK left t || kK (l.foldl (gZ y got) ([],[],[])).2.2 t):=by
 intro l;induction l using zI with
 | nil=>intro _;simp
 | snoc l x ih =>
   intro hpre;obtain ⟨r,hr⟩:=hpre;have hall:all=l ++ (x :: r):=by rw [← hr];simp
   obtain ⟨h1,h2,h3,h4,h4',h5,h6⟩:=ih ⟨x :: r,hall.symm⟩;have hne:∀ t∈l,t.id≠x.id:=fun t ht=>by rw [hall] at hid;exact (List.pairwise_append.1 hid).2.2 t ht x (by simp)
   have hxa:x∈all:=by rw [hall];simp
   have hla:∀ t∈l,t∈all:=fun t ht=>by rw [hall];simp [ht]
   rw [List.foldl_append,List.foldl_append];simp only [List.foldl_cons,List.foldl_nil];generalize hsB:l.foldl (gZ y got) ([],[],[])=sB at *;generalize hsI:l.foldl (step2 y) ([],[],got)=sI at *;obtain ⟨had,kp,waits⟩:=sB;obtain ⟨lf,kp,ps⟩:=sI;simp only at h1 h2 h3 h4 h4' h5 h6;subst h1 h2;have hwx:kK waits x=false:=by
    rw [kK,List.any_eq_false];intro u hu h;exact hne u (h5 u hu).1 (qK.1 h).2
   by_cases hrx:dP x=true
   · have eB:gZ y got (had,kp,waits) x=(had,kp,waits):=by rw [gZ,if_pos hrx]
     have ao4:had.any (qj x.label x.id)=false:=by
      rw [List.any_eq_false,h3];intro p hp h;obtain ⟨t,ht,rfl⟩:=List.mem_map.1 hp;exact hne t (h4 t ht).1 (qm.1 h).2
     have hpl:xU (got ++ had) x = !kK left x:=by
      rw [xU,List.any_append,ao4,Bool.or_false,hst x hxa hrx]
     rw [eB];have e2:step2 y (lf,kp,got ++ had) x=(if xU (got ++ had) x=true then (lf,kp,got ++ had) else (lf ++ [x],kp,got ++ had)):=by rw [step2,if_pos hrx]
     rw [e2,hpl];have hf:(l ++ [x]).filter (fun t=>kK left t || kK waits t)=l.filter (fun t=>kK left t || kK waits t) ++ (if kK left x=true then [x] else []):=by
      rw [List.filter_append];congr 1;simp only [List.filter_cons,List.filter_nil,hwx,Bool.or_false]
     simp only;rw [hf,← h6];refine ⟨?_,?_,h3,fun t ht=>⟨by simp [(h4 t ht).1],(h4 t ht).2⟩,h4'.trans (List.sublist_append_left ..),fun t ht=>⟨by simp [(h5 t ht).1],(h5 t ht).2⟩,?_⟩
     · split <;> rfl
     · split <;> rfl
     · cases kK left x <;> simp
   · have aha:dP x=false:=by simpa using hrx
     have hst1:x.state=1:=by
      rcases hs x hxa with h | h
      · exact absurd (by simp [dP,h]) hrx
      · exact h
     have hlx:kK left x=false:=by
      rw [kK,List.any_eq_false];intro u hu h;have hua:=(hleft u hu).1;have hur:=(hleft u hu).2;have alU:=(qK.1 h).2;rw [hall] at hua;rcases List.mem_append.1 hua with h' | h'
      · exact hne u h' alU
      · rcases List.mem_cons.1 h' with h' | h'
        · rw [h',aha] at hur;cases hur
        · rw [hall] at hid;exact (List.pairwise_cons.1 (List.pairwise_append.1 hid).2.1).1 u h' alU.symm
     have hk:qL y (got ++ had) x=Ce y (got ++ had) x:=by
      unfold qL Ce;by_cases h0:0 < x.nodes.length
      · rw [decide_eq_true hst1,decide_eq_true h0,decide_eq_true (alN x hxa hst1 h0)];simp
      · rw [decide_eq_false h0];simp
     have eB:gZ y got (had,kp,waits) x=if Ce y (got ++ had) x=true then (had ++ [iY x],kp ++ [x],waits) else (had,kp,waits ++ [x]):=by
      rw [gZ,if_neg hrx,hk]
     have eI:step2 y (lf,kp,got ++ had) x=if Ce y (got ++ had) x=true then (lf,kp ++ [x],(got ++ had) ++ [iY x]) else (lf ++ [x],kp,got ++ had):=by
      rw [step2,if_neg hrx]
     rw [eB,eI];by_cases hkb:Ce y (got ++ had) x=true
     · rw [if_pos hkb,if_pos hkb];have hf:(l ++ [x]).filter (fun t=>kK left t || kK waits t)=l.filter (fun t=>kK left t || kK waits t):=by
        rw [List.filter_append];simp [hlx,hwx]
       refine ⟨by simp,rfl,by simp [h3],fun t ht=>?_,h4'.append_right _ |>.trans (List.Sublist.refl _),fun t ht=>⟨by simp [(h5 t ht).1],(h5 t ht).2⟩,?_⟩
       · rcases List.mem_append.1 ht with h | h
         · exact ⟨by simp [(h4 t h).1],(h4 t h).2⟩
         · rw [List.mem_singleton.1 h];exact ⟨by simp,aha⟩
       · simp only;rw [hf,h6]
     · rw [if_neg hkb,if_neg hkb];have hf:(l ++ [x]).filter (fun t=>kK left t || kK (waits ++ [x]) t)=l.filter (fun t=>kK left t || kK waits t) ++ [x]:=by
        rw [List.filter_append];congr 1
        · apply List.filter_congr;intro t ht;congr 1;rw [kK,kK,mV];have:jv t.label t.id x=false:=by
           rw [Bool.eq_false_iff];intro h;exact hne t ht (qK.1 h).2.symm
          rw [this,Bool.or_false]
        · have:kK (waits ++ [x]) x=true:=by rw [kK,mV,qK.2 ⟨rfl,rfl⟩,Bool.or_true]
          simp [this]
       refine ⟨rfl,rfl,h3,fun t ht=>⟨by simp [(h4 t ht).1],(h4 t ht).2⟩,h4'.trans (List.sublist_append_left ..),fun t ht=>?_,?_⟩
       · rcases List.mem_append.1 ht with h | h
         · exact ⟨by simp [(h5 t h).1],(h5 t h).2⟩
         · rw [List.mem_singleton.1 h];exact ⟨by simp,aha⟩
       · simp only;rw [hf,h6]
theorem ab3 {ps qs:List Place} {t:Task} (h:ps.Perm qs) (hl:y.now≤t.start):[moved y ps t]=orP (toP y qs t (t.start - y.now).toNat) (iY t):=by
 unfold moved toP;rw [EU h];have e:(t.start+1 - y.now).toNat=(t.start - y.now).toNat+1:=by omega
 rw [e,ET];cases hs:bP y qs t.label t.need t.long (t.start - y.now).toNat y.now with
 | some r =>
   obtain ⟨f,ns⟩:=r;have hr:=oV _ _ hs;have hne:¬ f=t.start:=by
    have:=hr.2.1;omega
   simp [hne,orP]
 | none =>
   have e3:y.now+((t.start - y.now).toNat:Int)=t.start:=by omega
   simp only [e3];split
   · rename_i hh
     split at hh
     · injection hh with hh
       injection hh with hh1 hh2
       rw [if_pos hh1.symm];simp [orP]
     · cases hh
   · simp [orP]
theorem afv {α:Type} {p:α→Bool} {l m:List α} {x:α} (h:l.any p=false) (hx:p x=true):idxOf p (l ++ x :: m)=l.length:=by
 have h1:l.findIdx? p=none:=List.findIdx?_eq_none_iff.2 fun z hz=>by
  have:=List.any_eq_false.1 h z hz;simpa using this
 have:(l ++ x :: m).findIdx? p=some l.length:=by
  rw [List.findIdx?_append,h1];simp [List.findIdx?_cons,hx]
 rw [idxOf,this];rfl
theorem adB {got had done:List Place} {i:Nat} {t:Task} (hi:i < had.length) (hh:nth had i=iY t) (hg:got.any (qj t.label t.id)=false) :
 idxOf (qj t.label t.id) (got ++ (had.drop i ++ done))=got.length∧UM (got ++ (had.drop i ++ done)) t=got ++ (had.drop (i+1) ++ done):=by
 have e:had.drop i ++ done=iY t :: (had.drop (i+1) ++ done):=by rw [ni hi,hh];rfl
 have h1:idxOf (qj t.label t.id) (got ++ (had.drop i ++ done))=got.length:=by rw [e];exact afv hg (qm.2 ⟨rfl,rfl⟩)
 refine ⟨h1,?_⟩;rw [UM,h1,e];simp [List.eraseIdx_append_of_length_le]
theorem Js {got had:List Place} {kept:List Task} (hk:had=kept.map iY) (hg:∀ t∈kept,got.any (qj t.label t.id)=false) (hl:∀ t∈kept,y.now≤t.start) :
 ∀ i,i≤kept.length→∃ done,(kept.take i).foldl (step3 y) (got ++ had)=got ++ (had.drop i ++ done)∧ou y had kept i got=got ++ done:=by
 intro i;induction i with
 | zero=>intro _;exact ⟨[],by simp,by simp [ou]⟩
 | succ i ih =>
   intro hi;obtain ⟨done,h1,h2⟩:=ih (by omega);have hlen:had.length=kept.length:=by rw [hk,List.length_map]
   have hm:nth kept i∈kept:=bG (by omega);have hh:nth had i=iY (nth kept i):=by rw [hk,sZ (by omega)]
   obtain ⟨_,c2⟩:=adB (done:=done) (show i < had.length by omega) hh (hg _ hm);refine ⟨done ++ [moved y (got ++ (had.drop (i+1) ++ done)) (nth kept i)],?_,?_⟩
   · rw [aV (by omega),List.foldl_append,h1];simp only [List.foldl_cons,List.foldl_nil,step3];rw [c2];simp
   · rw [ou,h2,hh];have hp:(got ++ (had.drop (i+1) ++ done)).Perm ((got ++ done) ++ had.drop (i+1)):=by
      rw [List.append_assoc];exact List.Perm.append_left _ List.perm_append_comm
     rw [← ab3 hp (hl _ hm)];simp
theorem rW {α β:Type} (p:α→Bool) (f:β→α→β):∀ (l:List α) (b:β),(l.filter p).foldl f b=l.foldl (fun b x=>if p x=true then f b x else b) b
 | [],b=>rfl
 | x :: l,b=>by
   rw [List.filter_cons];split
   · rename_i h
     rw [List.foldl_cons,List.foldl_cons,rW p f l,if_pos h]
   · rename_i h
     rw [List.foldl_cons,rW p f l,if_neg h]
theorem Ob {ps:List Place} {l:List Task} (h:Turn y a ps l):(oU y ps l).2.2=(iy y ps l).2 ++ (oz y ps l).1∧(oU y ps l).2.1=(oz y ps l).2.1∧(oz y ps l).1=(oz y ps l).2.1.map iY ∧
 (∀ t∈(oz y ps l).2.1,(iy y ps l).2.any (qj t.label t.id)=false)∧∀ t∈(oz y ps l).2.1,y.now≤t.start:=by
 obtain ⟨e1,st,e2,s1,s2,s3⟩:=yU (y:=y) (ps:=ps) l h.lab h.ids;have hpa:∀ t∈l,ps.any (qj t.label t.id)=false:=fun t ht=>by
  rw [List.any_eq_false];intro p hp hh;exact h.far p hp ((qm.1 hh).1.trans (h.lab t ht))
 have hst:∀ t∈l,dP t=true→(iy y ps l).2.any (qj t.label t.id) = !kK (iy y ps l).1 t:=fun t ht hr=>by
  rw [e2,List.any_append,hpa t ht,Bool.false_or,s3 t ht hr]
 obtain ⟨g1,g2,g3,g4,g4',g5,g6⟩:=EW (y:=y) s2 hst h.ids h.state h.late l (List.prefix_refl l);have e3:oU y ps l=l.foldl (step2 y) ([],[],(iy y ps l).2):=by rw [oU,e1]
 have adL:∀ t∈(oz y ps l).2.1,(iy y ps l).2.any (qj t.label t.id)=false:=fun t ht=>by
  obtain ⟨ht1,ht2⟩:=g4 t ht;rw [e2,List.any_append,hpa t ht1,Bool.false_or,List.any_eq_false];intro p hp hh;obtain ⟨_,u,u1,u2,u3⟩:=s1 p hp;have:u=t:=by
   have:=(qm.1 hh).2;obtain ⟨i,hi,rfl⟩:=List.getElem_of_mem u1;obtain ⟨j,hj,rfl⟩:=List.getElem_of_mem ht1;rcases Nat.lt_trichotomy i j with c | c | c
   · exact absurd (u3.symm.trans this) (List.pairwise_iff_getElem.1 h.ids i j hi hj c)
   · subst c;rfl
   · exact absurd (u3.symm.trans this).symm (List.pairwise_iff_getElem.1 h.ids j i hj hi c)
  rw [this,ht2] at u2;cases u2
 have hlk:∀ t∈(oz y ps l).2.1,y.now≤t.start:=fun t ht=>by
  obtain ⟨ht1,ht2⟩:=g4 t ht;have h1:t.state=1:=by
   rcases h.state t ht1 with c | c
   · rw [show dP t=true by simp [dP,c]] at ht2;cases ht2
   · exact c
  have hpos:0 < t.nodes.length:=by
   clear e1 st e2 s1 s2 s3 hpa hst g1 g2 g3 g4 g4' g5 g6 e3 adL ht1 ht2 h1;unfold oz at ht;generalize (iy y ps l).2=got at ht;have:∀ (m:List Task) (s:List Place × List Task × List Task),(∀ t∈s.2.1,0 < t.nodes.length)→∀ t∈(m.foldl (gZ y got) s).2.1,0 < t.nodes.length:=by
    intro m;induction m with
    | nil=>intro s hs;exact hs
    | cons x m ih =>
      intro s hs;refine ih _ ?_;unfold gZ;split
      · exact hs
      · split
        · rename_i hk
          intro u hu;rcases List.mem_append.1 hu with hu | hu
          · exact hs u hu
          · rw [List.mem_singleton.1 hu];simp only [qL,Bool.and_eq_true,decide_eq_true_eq] at hk;exact hk.2.1.2
        · exact hs
   exact this l ([],[],[]) (by simp) t ht
  exact h.late t ht1 h1 hpos
 exact ⟨by rw [e3];exact g1,by rw [e3];exact g2,g3,adL,hlk⟩
theorem aeF {ps:List Place} {l:List Task} (h:Turn y a ps l) {i:Nat} (hi:i < (oU y ps l).2.1.length) :
 ∃ d:Nat,idxOf (qj (nth (oU y ps l).2.1 i).label (nth (oU y ps l).2.1 i).id) (((oU y ps l).2.1.take i).foldl (step3 y) (oU y ps l).2.2)=(d:Int)∧d < (((oU y ps l).2.1.take i).foldl (step3 y) (oU y ps l).2.2).length:=by
 obtain ⟨h1,h2,h3,h4,h5⟩:=Ob h;rw [h2] at hi ⊢;rw [h1];obtain ⟨done,k1,k2⟩:=Js (y:=y) (got:=(iy y ps l).2) (had:=(oz y ps l).1) (kept:=(oz y ps l).2.1) h3 h4 h5 i (Nat.le_of_lt hi);have hlen:(oz y ps l).1.length=(oz y ps l).2.1.length:=by rw [h3,List.length_map]
 have hh:nth (oz y ps l).1 i=iY (nth (oz y ps l).2.1 i):=by rw [h3,sZ hi]
 obtain ⟨c1,c2⟩:=adB (done:=done) (show i < (oz y ps l).1.length by omega) hh (h4 _ (bG hi));rw [k1];refine ⟨(iy y ps l).2.length,c1,?_⟩;rw [List.length_append,List.length_append,List.length_drop];omega
theorem Td {ps:List Place} {l:List Task} (h:Turn y a ps l):dL y ps l=uF y ps l:=by
 obtain ⟨e1,st,e2,s1,s2,s3⟩:=yU (y:=y) (ps:=ps) l h.lab h.ids;have hpa:∀ t∈l,ps.any (qj t.label t.id)=false:=fun t ht=>by
  rw [List.any_eq_false];intro p hp hh;exact h.far p hp ((qm.1 hh).1.trans (h.lab t ht))
 have hst:∀ t∈l,dP t=true→(iy y ps l).2.any (qj t.label t.id) = !kK (iy y ps l).1 t:=fun t ht hr=>by
  rw [e2,List.any_append,hpa t ht,Bool.false_or,s3 t ht hr]
 obtain ⟨g1,g2,g3,g4,g4',g5,g6⟩:=EW (y:=y) s2 hst h.ids h.state h.late l (List.prefix_refl l);have e3:oU y ps l=l.foldl (step2 y) ([],[],(iy y ps l).2):=by rw [oU,e1]
 have adL:∀ t∈(oz y ps l).2.1,(iy y ps l).2.any (qj t.label t.id)=false:=fun t ht=>by
  obtain ⟨ht1,ht2⟩:=g4 t ht;rw [e2,List.any_append,hpa t ht1,Bool.false_or,List.any_eq_false];intro p hp hh;obtain ⟨_,u,u1,u2,u3⟩:=s1 p hp;have:u=t:=by
   have:=(qm.1 hh).2;obtain ⟨i,hi,rfl⟩:=List.getElem_of_mem u1;obtain ⟨j,hj,rfl⟩:=List.getElem_of_mem ht1;rcases Nat.lt_trichotomy i j with c | c | c
   · exact absurd (u3.symm.trans this) (List.pairwise_iff_getElem.1 h.ids i j hi hj c)
   · subst c;rfl
   · exact absurd (u3.symm.trans this).symm (List.pairwise_iff_getElem.1 h.ids j i hj hi c)
  rw [this,ht2] at u2;cases u2
 have hlk:∀ t∈(oz y ps l).2.1,y.now≤t.start:=fun t ht=>by
  obtain ⟨ht1,ht2⟩:=g4 t ht;have h1:t.state=1:=by
   rcases h.state t ht1 with c | c
   · rw [show dP t=true by simp [dP,c]] at ht2;cases ht2
   · exact c
  have hpos:0 < t.nodes.length:=by
   clear e1 st e2 s1 s2 s3 hpa hst g1 g2 g3 g4 g4' g5 g6 e3 adL ht1 ht2 h1;unfold oz at ht;generalize (iy y ps l).2=got at ht;have:∀ (m:List Task) (s:List Place × List Task × List Task),(∀ t∈s.2.1,0 < t.nodes.length)→∀ t∈(m.foldl (gZ y got) s).2.1,0 < t.nodes.length:=by
    intro m;induction m with
    | nil=>intro s hs;exact hs
    | cons x m ih =>
      intro s hs;refine ih _ ?_;unfold gZ;split
      · exact hs
      · split
        · rename_i hk
          intro u hu;rcases List.mem_append.1 hu with hu | hu
          · exact hs u hu
          · rw [List.mem_singleton.1 hu];simp only [qL,Bool.and_eq_true,decide_eq_true_eq] at hk;exact hk.2.1.2
        · exact hs
   exact this l ([],[],[]) (by simp) t ht
  exact h.late t ht1 h1 hpos
 obtain ⟨done,k1,k2⟩:=Js (y:=y) (got:=(iy y ps l).2) (had:=(oz y ps l).1) (kept:=(oz y ps l).2.1) g3 adL hlk _ (Nat.le_refl _);rw [List.take_length] at k1;rw [dL,uF,e3,g6,g2,g1];change List.foldl (step4 y) (List.foldl (step3 y) ((iy y ps l).2 ++ (oz y ps l).1) (oz y ps l).2.1) _=_;rw [k1,k2,rW];have hlen:(oz y ps l).1.length=(oz y ps l).2.1.length:=by
  have:(oz y ps l).1=(oz y ps l).2.1.map iY:=g3;rw [this,List.length_map]
 rw [← hlen,List.drop_length];rfl
end
end Go.Proofs.YtbdicafambkhdaaGreat
/- How long one that runs may stay;the plan over all labels;in plain Lean. No program in sight. -/
namespace Go.Proofs.YtbdicafambkhdaaGreat
open Go.RowKit
theorem QJ (now:Int):∀ (J8:List Span) (e:Int),iG now J8 e≤e
 | [],e=>Int.le_refl _
 | o :: r,e=>by
   have:=QJ now r (if now < o.from_ then min e o.from_ else e);unfold iG at this ⊢;rw [List.foldl_cons];split at this <;> split <;> omega
theorem QI (now:Int):∀ (J8:List Span) (e:Int),now < e→now < iG now J8 e
 | [],e,h=>h
 | o :: r,e,h=>by
   have:=QI now r (if now < o.from_ then min e o.from_ else e) (by split <;> omega);unfold iG at this ⊢;rw [List.foldl_cons];exact this
theorem Jo (now:Int):∀ (J8:List Span) (e:Int),(∀ o∈J8,now < o.from_→e≤o.from_)→iG now J8 e=e
 | [],_,_=>rfl
 | o :: r,e,h=>by
   have h1:=h o (by simp);have:=Jo now r e (fun p hp=>h p (by simp [hp]));unfold iG at this ⊢;rw [List.foldl_cons];have e1:(if now < o.from_ then min e o.from_ else e)=e:=by split <;> omega
   rw [e1];exact this
theorem zM (now:Int):∀ (J8:List Span) (e d:Int),d≤e→(∃ o∈J8,now < o.from_∧o.from_≤d)→iG now J8 e=iG now J8 d
 | [],_,_,_,h=>by obtain ⟨o,ho,_⟩:=h;simp at ho
 | o :: r,e,d,hd,h=>by
   have hu:∀ z,iG now (o :: r) z=iG now r (if now < o.from_ then min z o.from_ else z):=fun z=>rfl;rw [hu,hu];by_cases h1:now < o.from_
   · rw [if_pos h1,if_pos h1];by_cases h2:o.from_≤d
     · rw [show min e o.from_=min d o.from_ by omega]
     · rw [show min d o.from_=d by omega];obtain ⟨p,hp,h3,h4⟩:=h;rcases List.mem_cons.1 hp with rfl | hp
       · omega
       · exact zM now r _ d (by omega) ⟨p,hp,h3,h4⟩
   · rw [if_neg h1,if_neg h1];obtain ⟨p,hp,h3,h4⟩:=h;rcases List.mem_cons.1 hp with rfl | hp
     · omega
     · exact zM now r e d hd ⟨p,hp,h3,h4⟩
theorem Vb {l:List Span} {x:Span}:jq l x=true↔∀ o∈l,¬ (o.from_ < x.jA∧x.from_ < o.jA):=by
 simp only [jq,laps,Bool.not_eq_true',List.any_eq_false,Bool.and_eq_true,decide_eq_true_eq]
theorem acs {now e:Int} {J8:List Span} (hv:∀ o∈J8,o.from_≤o.jA) (hf:jq J8 ⟨now,e⟩=true):iG now J8 e=e :=
 Jo now J8 e fun o ho h=>by
  have:=Vb.1 hf o ho;have:=hv o ho;simp only at *;omega
theorem acr {now e:Int} {J8:List Span} (hn:jq J8 ⟨now,now+1⟩=true) (hf:jq J8 ⟨now,e⟩=false):now+1 < e∧iG now J8 e=iG now J8 (e - 1):=by
 have:∃ o∈J8,o.from_ < e∧now < o.jA:=by
  simp only [jq,laps,Bool.not_eq_false',List.any_eq_true,Bool.and_eq_true,decide_eq_true_eq] at hf;exact hf
 obtain ⟨o,ho,h1,h2⟩:=this;have:=Vb.1 hn o ho;simp only at this;exact ⟨by omega,zM now J8 e (e - 1) (by omega) ⟨o,ho,by omega,by omega⟩⟩
theorem DN (y:aK) (ps:List Place):∀ (l:List Int) (e:Int),iZ y ps l e≤e
 | [],e=>Int.le_refl _
 | n :: l,e=>by
   have h1:=DN y ps l (iG y.now (kT (kU (dF y) n) ps n) e);have h2:=QJ y.now (kT (kU (dF y) n) ps n) e;unfold iZ at h1 ⊢;rw [List.foldl_cons];omega
theorem DL (y:aK) (ps:List Place):∀ (l:List Int) (e:Int),y.now < e→y.now < iZ y ps l e
 | [],e,h=>h
 | n :: l,e,h=>by
   have h1:=DL y ps l (iG y.now (kT (kU (dF y) n) ps n) e) (QI _ _ _ h);unfold iZ at h1 ⊢;rw [List.foldl_cons];exact h1
structure P7 (p:Place):Prop where
 lab:aA p.label=true
 id:1≤p.id∧p.id≤12
 lo:0≤p.from_
 ord:p.from_ < p.jA
 hi:p.jA≤2000000
 few:p.nodes.length≤6
def dh (l:List Task) (a:Label):List Task:=l.filter fun t=>decide (t.label=a)
def dO (f:List Place→List Task→List Place) (order:List Task) (ls:List Label):List Place:=ls.foldl (fun ps a=>f ps (dh order a)) []
structure iI (y:aK) (t:Task):Prop where
 lab:aA t.label=true
 id:1≤t.id∧t.id≤12
 long:1≤t.long∧t.long≤20
 need:1≤t.need∧t.need≤6
 few:t.nodes.length≤6
 start:0≤t.start∧t.start≤1000000
 nodes:∀ n∈t.nodes,0≤n∧n.toNat < y.nodes.length
 run:t.state=2→t.start≤y.now∧y.now < endOf t
 wait:t.state=1→0 < t.nodes.length→y.now≤t.start
 now:0≤y.now∧y.now≤999900
section
variable {y:aK}
theorem SL {ps:List Place} {t:Task} (h:iI y t) (hr:dP t=true):P7 (lI y ps t):=by
 have hs:t.state=2:=by simpa [dP] using hr
 have h1:=h.run hs;have h2:=DL y ps t.nodes (endOf t) h1.2;have h3:=DN y ps t.nodes (endOf t);have h4:=h.start;have h5:=h.long;refine ⟨h.lab,h.id,h.now.1,h2,?_,h.few⟩;show iZ y ps t.nodes (endOf t)≤2000000;unfold endOf at *;omega
theorem EN {t:Task} (h:iI y t):P7 (iY t):=by
 have h4:=h.start;have h5:=h.long;refine ⟨h.lab,h.id,h4.1,?_,?_,h.few⟩
 · show t.start < endOf t;unfold endOf;omega
 · show endOf t≤2000000;unfold endOf;omega
theorem Na {ps:List Place} {t:Task} {k:Nat} {f:Int} {ns:List Int} (h:iI y t) (hs:bP y ps t.label t.need t.long k y.now=some (f,ns)) (hk:y.now+k≤1000050):P7 (jI t f ns):=by
 have h1:=oV _ _ hs;have h2:=WY hs (by have:=h.need;omega);have h4:=h.now;have h5:=h.long;have h6:=h.need;have h7:=h1.2.1;have h8:=h1.1;refine ⟨h.lab,h.id,?_,?_,?_,?_⟩
 · show 0≤f;omega
 · show f < f+1+t.long;omega
 · show f+1+t.long≤2000000;omega
 · show ns.length≤6;omega
theorem VW {ps:List Place} {t:Task} (h:iI y t):P7 (moved y ps t):=by
 unfold moved;split
 · rename_i f ns hs
   split
   · exact EN h
   · exact Na h hs (by have:=h.start;have:=h.now;omega)
 · exact EN h
theorem ad4 {ps:List Place} {t:Task} (h:iI y t):∀ p∈newP y ps t,P7 p∧p.label=t.label:=by
 intro p hp;unfold newP at hp;split at hp
 · rename_i f ns hs
   rw [List.mem_singleton.1 hp];exact ⟨Na h hs (by have:=h.now;omega),rfl⟩
 · simp at hp
theorem VT {ps:List Place} {t:Task}:(moved y ps t).label=t.label:=by
 unfold moved;split
 · split <;> rfl
 · rfl
theorem adA {ps:List Place} {t:Task}:∀ p∈UM ps t,p∈ps:=fun _ hp=>List.mem_of_mem_eraseIdx hp
def Fine (a:Label) (ps:List Place) (p:Place):Prop:=p∈ps∨(P7 p∧p.label=a)
theorem qI {α β:Type} {f:β→α→β} {p:β→Prop}:∀ {l:List α} {b:β},p b→(∀ b x,x∈l→p b→p (f b x))→p (l.foldl f b)
 | [],_,h,_=>h
 | x :: l,b,h,hf=>qI (l:=l) (hf b x (by simp) h) fun c z hz hb=>hf c z (by simp [hz]) hb
theorem fP {α β:Type} {f:β→α→β} {s:β→Nat} (h:∀ b x,s (f b x)≤s b+1):∀ (l:List α) (b:β),s (l.foldl f b)≤s b+l.length
 | [],b=>by simp
 | x :: l,b=>by
   rw [List.foldl_cons,List.length_cons];have:=fP h l (f b x);have:=h b x;omega
section
variable {a:Label} {ps0:List Place} {l:List Task}
theorem af2 {ps:List Place} {t:Task} (ht:iI y t) (ha:t.label=a) (h:∀ p∈ps,Fine a ps0 p):∀ p∈step1 y ps t,Fine a ps0 p:=by
 unfold step1;split
 · rename_i hs
   simp only [uK,Bool.and_eq_true] at hs;intro p hp;rcases List.mem_append.1 hp with hp | hp
   · exact h p hp
   · rw [List.mem_singleton.1 hp];exact .inr ⟨SL ht hs.1,ha⟩
 · exact h
theorem alu {s:List Task × List Task × List Place} {t:Task} (ht:iI y t) (ha:t.label=a) (h:∀ p∈s.2.2,Fine a ps0 p):∀ p∈(step2 y s t).2.2,Fine a ps0 p:=by
 unfold step2;split
 · split <;> exact h
 · split
   · intro p hp;rcases List.mem_append.1 hp with hp | hp
     · exact h p hp
     · rw [List.mem_singleton.1 hp];exact .inr ⟨EN ht,ha⟩
   · exact h
theorem alv {ps:List Place} {t:Task} (ht:iI y t) (ha:t.label=a) (h:∀ p∈ps,Fine a ps0 p):∀ p∈step3 y ps t,Fine a ps0 p:=by
 unfold step3;intro p hp;rcases List.mem_append.1 hp with hp | hp
 · exact h p (adA p hp)
 · rw [List.mem_singleton.1 hp];exact .inr ⟨VW ht,VT.trans ha⟩
theorem alx {ps:List Place} {t:Task} (ht:iI y t) (ha:t.label=a) (h:∀ p∈ps,Fine a ps0 p):∀ p∈step4 y ps t,Fine a ps0 p:=by
 unfold step4;intro p hp;rcases List.mem_append.1 hp with hp | hp
 · exact h p hp
 · exact .inr ⟨(ad4 ht p hp).1,(ad4 ht p hp).2.trans ha⟩
theorem apq {s:List Task × List Task × List Place} {t:Task} (ht:t∈l) (h:(∀ u∈s.1,u∈l)∧∀ u∈s.2.1,u∈l∧0 < u.nodes.length):(∀ u∈(step2 y s t).1,u∈l)∧∀ u∈(step2 y s t).2.1,u∈l∧0 < u.nodes.length:=by
 unfold step2;have snoc:∀ {m:List Task} {q:Task→Prop},(∀ u∈m,q u)→q t→∀ u∈m ++ [t],q u:=fun hm hq u hu=>by
  rcases List.mem_append.1 hu with hu | hu
  · exact hm u hu
  · rw [List.mem_singleton.1 hu];exact hq
 split
 · split
   · exact h
   · exact ⟨snoc h.1 ht,h.2⟩
 · split
   · rename_i hk
     simp only [Ce,Bool.and_eq_true,decide_eq_true_eq] at hk;exact ⟨h.1,snoc h.2 ⟨ht,hk.1⟩⟩
   · exact ⟨snoc h.1 ht,h.2⟩
theorem abG (hf:∀ t∈l,iI y t∧t.label=a) (h:∀ p∈ps0,Fine a ps0 p):∀ p∈(oU y ps0 l).2.2,Fine a ps0 p :=
 qI (p:=fun s:List Task × List Task × List Place=>∀ p∈s.2.2,Fine a ps0 p) (qI (p:=fun ps=>∀ p∈ps,Fine a ps0 p) h fun _ x hx hb=>af2 (hf x hx).1 (hf x hx).2 hb) fun _ x hx hb=>alu (hf x hx).1 (hf x hx).2 hb
theorem W9:(∀ u∈(oU y ps0 l).1,u∈l)∧∀ u∈(oU y ps0 l).2.1,u∈l∧0 < u.nodes.length :=
 qI (p:=fun s:List Task × List Task × List Place=>(∀ u∈s.1,u∈l)∧∀ u∈s.2.1,u∈l∧0 < u.nodes.length) ⟨by simp,by simp⟩ fun _ _ hx hb=>apq hx hb
theorem abE (hf:∀ t∈l,iI y t∧t.label=a):∀ p∈dL y ps0 l,Fine a ps0 p:=by
 have h0:∀ p∈ps0,Fine a ps0 p:=fun p hp=>.inl hp;have hs:=W9 (y:=y) (ps0:=ps0) (l:=l);refine qI (p:=fun ps=>∀ p∈ps,Fine a ps0 p) (qI (p:=fun ps=>∀ p∈ps,Fine a ps0 p) (abG hf h0) fun b x hx hb=>?_) fun b x hx hb=>?_
 · exact alv (hf x (hs.2 x hx).1).1 (hf x (hs.2 x hx).1).2 hb
 · exact alx (hf x (hs.1 x hx)).1 (hf x (hs.1 x hx)).2 hb
theorem Fine.ok {p:Place} (h:Fine a ps0 p) (h0:∀ p∈ps0,P7 p):P7 p:=h.elim (h0 p) fun h=>h.1
end
theorem len1 (ps:List Place) (t:Task):(step1 y ps t).length≤ps.length+1:=by
 unfold step1;split <;> simp
theorem len2 (s:List Task × List Task × List Place) (t:Task):(step2 y s t).2.2.length≤s.2.2.length+1∧(step2 y s t).1.length≤s.1.length+1∧(step2 y s t).2.1.length≤s.2.1.length+1:=by
 unfold step2;split <;> split <;> simp
theorem afw (ps:List Place) (t:Task):(step3 y ps t).length≤ps.length+1:=by
 unfold step3 UM;rw [List.length_append,List.length_eraseIdx];simp only [List.length_singleton];split <;> omega
theorem al3 (ps:List Place) (t:Task):(step4 y ps t).length≤ps.length+1:=by
 unfold step4 newP;split <;> simp
theorem VF (ps:List Place) (l:List Task):(oU y ps l).2.2.length≤ps.length+l.length+l.length∧(oU y ps l).1.length≤l.length∧(oU y ps l).2.1.length≤l.length:=by
 have h1:=fP (s:=fun ps:List Place=>ps.length) (f:=step1 y) len1 l ps;have h2:=fP (s:=fun s:List Task × List Task × List Place=>s.2.2.length) (f:=step2 y) (fun b x=>(len2 b x).1) l ([],[],l.foldl (step1 y) ps);have h3:=fP (s:=fun s:List Task × List Task × List Place=>s.1.length) (f:=step2 y) (fun b x=>(len2 b x).2.1) l ([],[],l.foldl (step1 y) ps);have h4:=fP (s:=fun s:List Task × List Task × List Place=>s.2.1.length) (f:=step2 y) (fun b x=>(len2 b x).2.2) l ([],[],l.foldl (step1 y) ps);simp only [List.length_nil] at h1 h2 h3 h4;unfold oU;omega
theorem adY (ps:List Place) (l:List Task):(dL y ps l).length≤ps.length+4 * l.length:=by
 have h:=VF (y:=y) ps l;have h3:=fP (s:=fun ps:List Place=>ps.length) (f:=step3 y) afw (oU y ps l).2.1 (oU y ps l).2.2;have h4:=fP (s:=fun ps:List Place=>ps.length) (f:=step4 y) al3 (oU y ps l).1 ((oU y ps l).2.1.foldl (step3 y) (oU y ps l).2.2);unfold dL;omega
theorem Wn {order:List Task} (hf:∀ t∈order,iI y t∧(t.state=2∨t.state=1)) (hid:∀ a,(dh order a).Pairwise fun s t=>s.id≠t.id) :
 ∀ ls:List Label,ls.Nodup→dO (dL y) order ls=dO (uF y) order ls∧(∀ p∈dO (dL y) order ls,P7 p∧p.label∈ls)∧∀ a,a∉ls→Turn y a (dO (dL y) order ls) (dh order a):=by
 have hl:∀ a,∀ t∈dh order a,t∈order∧t.label=a:=fun a t ht=>by
  have:=List.mem_filter.1 ht;exact ⟨this.1,by simpa using this.2⟩
 have turn:∀ (a:Label) (ps:List Place),(∀ p∈ps,p.label≠a)→Turn y a ps (dh order a):=fun a ps hp =>
  ⟨fun t ht=>(hl a t ht).2,hid a,hp,fun t ht=>(hf t (hl a t ht).1).2,fun t ht=>(hf t (hl a t ht).1).1.wait,fun t ht=>(hf t (hl a t ht).1).1.need.1⟩
 intro ls;induction ls using zI with
 | nil=>intro _;exact ⟨rfl,by simp [dO],fun a _=>turn a _ (by simp [dO])⟩
 | snoc ls a ih =>
   intro hn;obtain ⟨n1,n2,n3⟩:=List.nodup_append.1 hn;obtain ⟨h1,h2,h3⟩:=ih n1;have ha:a∉ls:=fun h=>n3 a h a (by simp) rfl;have e:∀ f:List Place→List Task→List Place,dO f order (ls ++ [a])=f (dO f order ls) (dh order a):=fun f=>by simp [dO,List.foldl_append]
   have hm:∀ p∈dO (dL y) order (ls ++ [a]),P7 p∧p.label∈ls ++ [a]:=by
    rw [e];intro p hp;rcases abE (a:=a) (fun t ht=>⟨(hf t (hl a t ht).1).1,(hl a t ht).2⟩) p hp with h | h
    · exact ⟨(h2 p h).1,List.mem_append_left _ (h2 p h).2⟩
    · exact ⟨h.1,by rw [h.2];simp⟩
   refine ⟨?_,hm,fun b hb=>turn b _ fun p hp he=>hb (he ▸ (hm p hp).2)⟩;rw [e,e,Td (h3 a ha),h1]
theorem adX {order:List Task} (ls:List Label):(dO (dL y) order ls).length≤ls.length * (4 * order.length):=by
 induction ls using zI with
 | nil=>simp [dO]
 | snoc ls a ih =>
   have e:dO (dL y) order (ls ++ [a])=dL y (dO (dL y) order ls) (dh order a):=by simp [dO,List.foldl_append]
   rw [e,List.length_append];have h1:=adY (y:=y) (dO (dL y) order ls) (dh order a);have h2:(dh order a).length≤order.length:=List.length_filter_le ..;have h3:(ls.length + [a].length) * (4 * order.length)=ls.length * (4 * order.length)+4 * order.length:=by simp [Nat.add_mul]
   omega
end
end Go.Proofs.YtbdicafambkhdaaGreat
