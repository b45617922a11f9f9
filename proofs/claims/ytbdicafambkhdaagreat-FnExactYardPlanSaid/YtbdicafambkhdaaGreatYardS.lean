/- What a yard must be, in plain Lean. The walks of the program's QuotaOf, and of what YardRight calls besides. The walks of the program's taskFits and YardRight. Printed by wip/yard.py. The walks of what the reference's YardRight calls. The walks of the reference's l13Task and YardRight. Printed by wip/yards.py. -/
import Derived.Test.YtbdicafambkhdaaGreatConf1
import Derived.Test.YtbdicafambkhdaaGreatGSmall
import Derived.Test.YtbdicafambkhdaaGreatNodes
import Derived.Test.YtbdicafambkhdaaGreatUsesE
import Derived.Test.YtbdicafambkhdaaGreatTaskRS
import Derived.Test.YtbdicafambkhdaaGreatConf4
import Derived.Test.YtbdicafambkhdaaGreatOrdU
import Derived.Test.YtbdicafambkhdaaGreatConfW
import Derived.Deep.RegionHeld3
set_option maxHeartbeats 16000000
set_option maxRecDepth 100000
namespace Go.Proofs.YtbdicafambkhdaaGreat
open Go.Proofs.Tryz
open Go.RowKit
def endOf (t:Task):Int:=t.start+1+t.long
def mJ (ns:List (List Label)) (a:Label) (n:Int):Bool:=decide (0≤n) && decide (n.toNat < ns.length) && cleared (nth ns n.toNat) a
def rY (ns:List (List Label)) (a:Label):Nat:=(eP ns a ns.length).length
def dP (t:Task):Bool:=decide (t.state=2)
def xR (now:Int) (t:Task):Bool :=
 if dP t=true then decide (t.start≤now) && decide (now < endOf t) else decide (t.nodes.length=0) || jG t.start (now+1) (now+40)
def lu (ns:List (List Label)) (now:Int) (t:Task):Bool :=
 decide (t.need≤(rY ns t.label:Int)) && decide (t.born≤now) && t.nodes.all (mJ ns t.label) && xR now t
def isNum (n m:Int):Bool:=decide (m=n)
def nM (l:List Task) (n:Int):Bool:=l.any fun t=>dP t && t.nodes.any (isNum n)
def jE (l:List Task) (i k:Nat) (n:Int):Bool:=nM (l.take i) n || (dP (nth l i) && ((nth l i).nodes.take k).any (isNum n))
def mM (l:List Task) (i k:Nat):Bool:=dP (nth l i) && jE l i k (nth (nth l i).nodes k)
def kG (y:aK) (i:Nat):Bool:=lu y.config.nodes y.now (nth y.tasks i) && !(List.range (nth y.tasks i).nodes.length).any (mM y.tasks i)
def qZ:List jk→Label→Int
 | [],_=>6
 | q :: qs,a=>if q.label=a then q.most else qZ qs a
def mO (c:Config) (a:Label):Int:=if aU c=true∧cleared (labelsIn c.nodes) a=true then qZ c.ay a else 0
def wJ (y:aK) (a:Label):Bool:=decide (mO y.config a < (wI y.tasks a:Int))
def qU (ls:List Label) (x:Use):Bool:=!cleared ls x.label
def fF (y:aK):Bool:=aU y.config && decide (y.nodes.length=y.config.nodes.length) && bT y.nodes && bn y.tasks && bF y.uses && vI y.now
def bD (y:aK):Bool :=
 fF y && (List.range y.tasks.length).all (kG y) && !(labelsIn y.config.nodes).any (wJ y) && !y.uses.any (qU (labelsIn y.config.nodes))
theorem kM {y:aK} (h:fF y=false):bD y=false:=by
 unfold bD;rw [h];rfl
theorem Aq {y:aK} {i:Nat} (hi:i < y.tasks.length) (h:kG y i=false):bD y=false:=by
 unfold bD;rw [List.all_eq_false.mpr ⟨i,List.mem_range.mpr hi,by simp [h]⟩];simp
theorem QU {y:aK} (h:(labelsIn y.config.nodes).any (wJ y)=true):bD y=false:=by
 unfold bD;rw [h];simp
theorem aeM {y:aK} (h:y.uses.any (qU (labelsIn y.config.nodes))=true):bD y=false:=by
 unfold bD;rw [h];simp
theorem afJ {y:aK} (h1:fF y=true) (h2:∀ i,i < y.tasks.length→kG y i=true) (h3:(labelsIn y.config.nodes).any (wJ y)=false) (h4:y.uses.any (qU (labelsIn y.config.nodes))=false):bD y=true:=by
 unfold bD;rw [h1,h3,h4,List.all_eq_true.mpr (fun k hk=>h2 k (List.mem_range.mp hk))];rfl
theorem aeL {y:aK} {r:Bool} (h1:fF y=true) (h2:∀ i,i < y.tasks.length→kG y i=true) (h3:(labelsIn y.config.nodes).any (wJ y)=false) (h4:y.uses.any (qU (labelsIn y.config.nodes))=r):bD y = !r:=by
 unfold bD;rw [h1,h3,h4,List.all_eq_true.mpr (fun k hk=>h2 k (List.mem_range.mp hk))];rfl
theorem N8 {y:aK} {i:Nat} (h:lu y.config.nodes y.now (nth y.tasks i)=false):kG y i=false:=by
 unfold kG;rw [h];rfl
theorem N7 {y:aK} {i k:Nat} (hk:k < (nth y.tasks i).nodes.length) (h:mM y.tasks i k=true):kG y i=false:=by
 unfold kG;rw [List.any_eq_true.mpr ⟨k,List.mem_range.mpr hk,h⟩];simp
theorem TR {y:aK} {i:Nat} (h:lu y.config.nodes y.now (nth y.tasks i)=true) (g:∀ k,k < (nth y.tasks i).nodes.length→mM y.tasks i k=false):kG y i=true:=by
 unfold kG;rw [h,List.any_eq_false.mpr (fun k hk=>by rw [g k (List.mem_range.mp hk)];decide)];rfl
theorem aav (l:List Task) (i:Nat) (n:Int):jE l i 0 n=nM (l.take i) n:=by simp [jE]
theorem take_snoc {α:Type} [Inhabited α] {l:List α} {k:Nat} (h:k < l.length):l.take (k+1)=l.take k ++ [nth l k]:=by
 rw [List.take_succ_eq_append_getElem h,aO h]
theorem DT {l:List Task} {i k:Nat} (n:Int) (h:k < (nth l i).nodes.length):jE l i (k+1) n=(jE l i k n || (dP (nth l i) && isNum n (nth (nth l i).nodes k))):=by
 unfold jE;rw [take_snoc h,List.any_append];simp only [List.any_cons,List.any_nil,Bool.or_false];cases nM (l.take i) n <;> cases dP (nth l i) <;> rfl
theorem NY {l:List Task} {i k:Nat} (n:Int) (h:dP (nth l i)=false):jE l i k n=nM (l.take i) n:=by
 unfold jE;rw [h,Bool.false_and,Bool.or_false]
theorem acI (n:Int) (l:List Task):nM (l.take 0) n=false:=by simp [nM]
theorem QS {l:List Task} {i:Nat} (n:Int) (h:i < l.length):nM (l.take (i+1)) n=jE l i (nth l i).nodes.length n:=by
 unfold jE nM;rw [take_snoc h,List.any_append,List.take_length];simp only [List.any_cons,List.any_nil,Bool.or_false]
theorem acH {l:List Task} {i:Nat} (n:Int) (h:i < l.length) (hr:dP (nth l i)=false):nM (l.take (i+1)) n=nM (l.take i) n:=by
 rw [QS n h,NY n hr]
theorem KQ (ns:List (List Label)) (a:Label) (n:Int):(eP ns a ns.length).any (isNum n)=mJ ns a n:=by
 rw [Bool.eq_iff_iff];unfold eP mJ isNum;simp only [List.any_eq_true,List.mem_map,List.mem_filter,List.mem_range,Bool.and_eq_true,decide_eq_true_eq];constructor
 · rintro ⟨m,⟨i,⟨hi,hc⟩,rfl⟩,rfl⟩;exact ⟨⟨by omega,by simpa using hi⟩,by simpa using hc⟩
 · rintro ⟨⟨h0,h1⟩,h2⟩;exact ⟨n,⟨n.toNat,⟨h1,h2⟩,by omega⟩,rfl⟩
theorem ab2 (ns:List (List Label)) (a:Label) (k:Nat):(eP ns a (k+1)).length=(eP ns a k).length+if cleared (nth ns k) a=true then 1 else 0:=by
 rw [nP,List.length_append];split <;> rfl
theorem Nr {qs:List jk} {a:Label} {k:Nat} (hk:k < qs.length) (h:(nth qs k).label=a) (g:∀ j,j < k→(nth qs j).label≠a):qZ qs a=(nth qs k).most:=by
 induction qs generalizing k with
 | nil=>exact absurd hk (by simp)
 | cons q qs ih =>
   cases k with
   | zero =>
     have h':q.label=a:=h;show (if q.label=a then q.most else qZ qs a)=q.most;rw [if_pos h']
   | succ k =>
     have h0:q.label≠a:=g 0 (by omega);show (if q.label=a then q.most else qZ qs a)=_;rw [if_neg h0];exact ih (k:=k) (by simpa using hk) h (fun j hj=>g (j+1) (by omega))
theorem ES {qs:List jk} {a:Label} (g:∀ j,j < qs.length→(nth qs j).label≠a):qZ qs a=6:=by
 induction qs with
 | nil=>rfl
 | cons q qs ih =>
   have h0:q.label≠a:=g 0 (by simp);show (if q.label=a then q.most else qZ qs a)=_;rw [if_neg h0];exact ih (fun j hj=>g (j+1) (by simpa using hj))
theorem Qm {ns:List (List Label)} {a:Label} (hc:fJ ns=true):rY ns a=0↔cleared (labelsIn ns) a=false:=by
 unfold rY;rw [List.length_eq_zero_iff];constructor
 · intro h;cases hb:cleared (labelsIn ns) a with
   | false=>rfl
   | true =>
     have hm:=jZ.1 hb;obtain ⟨l,hl,ha⟩:=List.mem_flatten.1 ((xH (kS hm)).1 hm);obtain ⟨i,hi,rfl⟩:=List.getElem_of_mem hl;have:((i:Nat):Int)∈eP ns a ns.length:=by
      unfold eP;exact List.mem_map.2 ⟨i,List.mem_filter.2 ⟨List.mem_range.2 hi,by rw [aO hi];exact jZ.2 ha⟩,rfl⟩
     rw [h] at this;cases this
 · intro h;cases hq:eP ns a ns.length with
   | nil=>rfl
   | cons n r =>
     have hn:n∈eP ns a ns.length:=by rw [hq];exact List.mem_cons_self
     unfold eP at hn;obtain ⟨i,hi,rfl⟩:=List.mem_map.1 hn;obtain ⟨h1,h2⟩:=List.mem_filter.1 hi;have h1:=List.mem_range.1 h1;rw [aO h1] at h2;have ha:a∈ns.flatten:=List.mem_flatten.2 ⟨_,List.getElem_mem h1,jZ.1 h2⟩;have:=(xH (ns:=ns) (yL hc a ha)).2 ha;rw [jZ.2 this] at h;cases h
def kE (f:Int→Bool):Array Value:=#[.bool (f 0),.bool (f 1),.bool (f 2),.bool (f 3),.bool (f 4),.bool (f 5)]
theorem six {n:Int} (h0:0≤n) (h5:n≤5):n=0∨n=1∨n=2∨n=3∨n=4∨n=5:=by omega
theorem P9 {f:Int→Bool} {n:Int} (h0:0≤n) (h5:n≤5):(kE f)[n.toNat]? = some (.bool (f n)):=by
 rcases six h0 h5 with rfl | rfl | rfl | rfl | rfl | rfl <;> rfl
theorem Qa {f g:Int→Bool} {n:Int} {b:Bool} (h0:0≤n) (h5:n≤5) (hb:g n=b) (hg:∀ m,m≠n→g m=f m):(kE f).setIfInBounds n.toNat (.bool b)=kE g:=by
 subst hb;rcases six h0 h5 with rfl | rfl | rfl | rfl | rfl | rfl
 · show #[Value.bool (g 0),.bool (f 1),.bool (f 2),.bool (f 3),.bool (f 4),.bool (f 5)]=_;rw [kE,hg 1 (by decide),hg 2 (by decide),hg 3 (by decide),hg 4 (by decide),hg 5 (by decide)]
 · show #[Value.bool (f 0),.bool (g 1),.bool (f 2),.bool (f 3),.bool (f 4),.bool (f 5)]=_;rw [kE,hg 0 (by decide),hg 2 (by decide),hg 3 (by decide),hg 4 (by decide),hg 5 (by decide)]
 · show #[Value.bool (f 0),.bool (f 1),.bool (g 2),.bool (f 3),.bool (f 4),.bool (f 5)]=_;rw [kE,hg 0 (by decide),hg 1 (by decide),hg 3 (by decide),hg 4 (by decide),hg 5 (by decide)]
 · show #[Value.bool (f 0),.bool (f 1),.bool (f 2),.bool (g 3),.bool (f 4),.bool (f 5)]=_;rw [kE,hg 0 (by decide),hg 1 (by decide),hg 2 (by decide),hg 4 (by decide),hg 5 (by decide)]
 · show #[Value.bool (f 0),.bool (f 1),.bool (f 2),.bool (f 3),.bool (g 4),.bool (f 5)]=_;rw [kE,hg 0 (by decide),hg 1 (by decide),hg 2 (by decide),hg 3 (by decide),hg 5 (by decide)]
 · show #[Value.bool (f 0),.bool (f 1),.bool (f 2),.bool (f 3),.bool (f 4),.bool (g 5)]=_;rw [kE,hg 0 (by decide),hg 1 (by decide),hg 2 (by decide),hg 3 (by decide),hg 4 (by decide)]
theorem Jq (l:List Task) (i:Nat):jE l i 0=nM (l.take i):=funext fun n=>aav l i n
theorem QO {l:List Task} {i:Nat} (h:i < l.length):jE l i (nth l i).nodes.length=nM (l.take (i+1)):=funext fun n=>(QS n h).symm
theorem Oh (l:List Task):nM (l.take 0)=fun _=>false:=funext fun n=>acI n l
theorem NZ {l:List Task} {i k:Nat} (h:k < (nth l i).nodes.length) (hr:dP (nth l i)=true) (h0:0≤nth (nth l i).nodes k) (h5:nth (nth l i).nodes k≤5) :
 (kE (jE l i k)).setIfInBounds (nth (nth l i).nodes k).toNat (.bool true)=kE (jE l i (k+1)) :=
 Qa h0 h5 (by rw [DT _ h,hr];simp [isNum]) (fun m hm=>by rw [DT _ h,hr];simp [isNum,Ne.symm hm])
theorem Jp {l:List Task} {i k:Nat} (h:k < (nth l i).nodes.length) (hr:dP (nth l i)=false):jE l i (k+1)=jE l i k:=funext fun n=>by rw [DT n h,hr,Bool.false_and,Bool.or_false]
theorem KD {f:Int→Bool} {n:Int} {b:Bool} (h0:0≤n) (h5:n≤5) (hb:f n=b):(kE f).setIfInBounds n.toNat (.bool b)=kE f:=Qa h0 h5 hb (fun _ _=>rfl)
theorem zA {x:Task} {k:Nat} (h:bJ x=true) (hk:k < x.nodes.length):0≤nth x.nodes k∧nth x.nodes k≤5:=by
 simp only [bJ,Bool.and_eq_true] at h;have hp:=h.2;unfold xQ at hp;split at hp
 · simp only [Bool.and_eq_true] at hp;have:=List.all_eq_true.1 hp.2 k (List.mem_range.2 hk);simp only [numAt,jG,Bool.and_eq_true,decide_eq_true_eq] at this;exact this.1
 · simp only [Bool.and_eq_true,decide_eq_true_eq] at hp;omega
theorem Jk {x:Task} (h:bJ x=true) (hs:x.state=2):0≤x.start∧x.start≤1000000∧1≤x.long∧x.long≤20:=by
 simp only [bJ,Bool.and_eq_true] at h;have hp:=h.2;unfold xQ at hp;rw [if_pos (Or.inl hs)] at hp;simp only [Bool.and_eq_true,oD,jG,decide_eq_true_eq] at hp;have hw:=h.1.1.1.1.2;simp only [xu,jG,Bool.and_eq_true,decide_eq_true_eq] at hw;omega
theorem MV {n:Int} (h:vI n=true):0≤n∧n≤999900:=by
 simpa [vI,jG] using h
theorem qF {l:List Task} (h:bn l=true) {k:Nat} (hk:k < l.length):bJ (nth l k)=true:=by
 simp only [bn,Bool.and_eq_true] at h;have:=List.all_eq_true.1 h.2 k (List.mem_range.2 hk);simp only [tI,Bool.and_eq_true] at this;exact this.1.1
theorem zZ {l:List Task} (h:bn l=true):l.length≤96:=by
 simp only [bn,Bool.and_eq_true,decide_eq_true_eq] at h;exact h.1
theorem U6 {ns:List (List Label)} {now:Int} {x:Task} (h:(rY ns x.label:Int) < x.need):lu ns now x=false:=by
 unfold lu;rw [decide_eq_false (by omega)];rfl
theorem Qk {ns:List (List Label)} {now:Int} {x:Task} (h:now < x.born):lu ns now x=false:=by
 unfold lu;rw [decide_eq_false (p:=x.born≤now) (by omega),Bool.and_false,Bool.false_and,Bool.false_and]
theorem Ld {ns:List (List Label)} {now:Int} {x:Task} (h:x.nodes.all (mJ ns x.label)=false):lu ns now x=false:=by
 unfold lu;rw [h,Bool.and_false,Bool.false_and]
theorem Le {ns:List (List Label)} {now:Int} {x:Task} (h1:¬ (rY ns x.label:Int) < x.need) (h2:¬ now < x.born) (h3:x.nodes.all (mJ ns x.label)=true):lu ns now x=xR now x:=by
 unfold lu;rw [decide_eq_true (p:=x.need≤_) (by omega),decide_eq_true (p:=x.born≤now) (by omega),h3];rfl
theorem Dz {now:Int} {x:Task} (h:x.state=2):xR now x=(decide (x.start≤now) && decide (now < endOf x)):=by
 unfold xR dP;rw [if_pos (decide_eq_true h)]
theorem Nk {now:Int} {x:Task} (h:¬ x.state=2) (hn:¬ 0 < x.nodes.length):xR now x=true:=by
 unfold xR dP;rw [if_neg (by simpa using h),decide_eq_true (p:=x.nodes.length=0) (by omega)];rfl
theorem zF {now:Int} {x:Task} (h:¬ x.state=2) (hn:0 < x.nodes.length):xR now x=jG x.start (now+1) (now+40):=by
 unfold xR dP;rw [if_neg (by simpa using h),decide_eq_false (p:=x.nodes.length=0) (by omega)];rfl
attribute [local irreducible] wpQuiet
theorem OQ {S:Nat→Prop} (l:List Int) (p:Int→Bool) (v:Value) (f:Nat) (caps:Array Value) (w:World) (h:Rd fC S w v l) (hcall:∀ (args:Array Value) (W:World),(callFunc f args).run prog W=.ok (.enter f args) W)
 (hf:∀ (cs:List Value) (x:Int) (w1:World),Ext w w1→fC.rel S w1 cs x→Calls prog f (#[cs.headD undef] ++ caps) w1 fun e w'=>e=.returned (.bool (p x))∧Ext w1 w') :
 Calls prog 267 #[v,.func (.func f) #[] caps] w fun e w'=>e=.returned (.int .i64 (idxOf p l))∧Ext w w':=by
 obtain ⟨A,c,rfl,h1,h2,hk⟩:=h.open_;unfold maxLen at h2;have HK:=ah hk;have HF:=ah hf;clear hk h hf;go_enter func267,ntmps267;go_wp2_with fail;go_loopw [8] (fun i w'=>∃ k:Nat,k≤l.length∧i=.int .i64 k∧(∀ j,j < k→p (nth l j)=false)∧Ext w w') (fun i _=>l.length - (intOf i).toNat);case atStart=>exact ⟨0,by omega,rfl,fun j hj=>by omega,Ext.refl _⟩
 case round =>
  obtain ⟨k,hk1,rfl,hall,hx⟩:=hrel;have HA:=ah hall;have HX:=ah hx;clear hall;by_cases hlt:k < l.length
  · obtain ⟨b,o,cs,rfl,hb,hr,hc⟩:=HK.out k hlt;have HR:=ah (fC.keep (hx.same S) hr);have hc0:=hx.range hc 0 _ (by rw [List.getElem?_eq_getElem (by rw [fC.len hr];decide)]);have hcs:cs[0]'(by rw [fC.len hr];decide)=cs.headD undef:=by cases cs with | nil=>exact absurd (fC.len hr) (by decide) | cons a r=>rfl
    rw [hcs] at hc0;generalize hu:cs.headD undef=u at *;have HU:=ah hu;simp only [fC,Nat.mul_one,Nat.add_zero] at hc0;clear hr hc hx hcs hu;by_cases hp:p (nth l k)=true
    · have HE:Hid (idxOf p l=k):=ah (iP hlt HA.out hp);go_wp2_with (first | ((with_reducible refine ((show Calls _ _ (#[u] ++ caps) _ _ from HU.out ▸ HF.out cs (nth l k) _ HX.out HR.out)).mono ?_);rintro e w1 ⟨rfl,hx1⟩;have jf:=ah hx1;clear hx1));go_ret;exact ⟨aI HE.out.symm,HX.out.trans jf.out⟩
    · simp only [Bool.not_eq_true] at hp;have HE:=ah (all_succ HA.out hp);go_wp2_with (first | ((with_reducible refine ((show Calls _ _ (#[u] ++ caps) _ _ from HU.out ▸ HF.out cs (nth l k) _ HX.out HR.out)).mono ?_);rintro e w1 ⟨rfl,hx1⟩;have jf:=ah hx1;clear hx1));go_roundw;case rel=>exact ⟨k+1,by omega,by go_num,HE.out,HX.out.trans jf.out⟩
      case measure=>simp [intOf];omega
  · have HE:Hid (idxOf p l = -1):=ah (iO fun j hj=>HA.out j (by omega));go_wp2_with fail;go_ret;exact ⟨aI HE.out.symm,HX.out⟩
theorem Gp {S:Nat→Prop} (l:List Int) (p:Int→Bool) (v:Value) (f:Nat) (caps:Array Value) (w:World) (h:Rd fC S w v l) (hcall:∀ (args:Array Value) (W:World),(callFunc f args).run prog W=.ok (.enter f args) W)
 (hf:∀ (cs:List Value) (x:Int) (w1:World),Ext w w1→fC.rel S w1 cs x→Calls prog f (#[cs.headD undef] ++ caps) w1 fun e w'=>e=.returned (.bool (p x))∧Ext w1 w') :
 Calls prog 196 #[v,.func (.func f) #[] caps] w fun e w'=>e=.returned (.bool (l.any p))∧Ext w w':=by
 have HE:=ah (jr (p:=p) (l:=l));have H:=ah (OQ l p v f caps w h hcall hf);clear h hcall hf;go_enter func196,ntmps196;go_wp2_with (refine H.out.mono ?_;rintro e w1 ⟨rfl,hx1⟩;have jf:=ah hx1;clear hx1);go_ret;exact ⟨au HE.out,jf.out⟩
theorem uw {S:Nat→Prop} (l:List Int) (p:Int→Bool) (v:Value) (f:Nat) (c1:Value) (w:World) (h:Rd fC S w v l) (hcall:∀ (args:Array Value) (W:World),(callFunc f args).run prog W=.ok (.enter f args) W)
 (hf:∀ (cs:List Value) (x:Int) (w1:World),Ext w w1→fC.rel S w1 cs x→Calls prog f #[cs.headD undef,c1] w1 fun e w'=>e=.returned (.bool (p x))∧Ext w1 w') :
 Calls prog 196 #[v,.func (.func f) #[] #[c1]] w fun e w'=>e=.returned (.bool (l.any p))∧Ext w w' :=
 Gp l p v f #[c1] w h hcall fun cs x w1 hx hr=>by rw [show (#[cs.headD undef] ++ #[c1]:Array Value) = #[cs.headD undef,c1] from rfl];exact hf cs x w1 hx hr
theorem kZ {S:Nat→Prop} (l:List Node) (v:Value) (w:World) (h:Rd ENode S w v l) (r:Bool) (hr:bT l=r) :
 Calls prog 100 #[v] w fun e w'=>e=.returned (.bool r)∧Ext w w':=by
 subst hr;exact uH l v w h
theorem lg {S:Nat→Prop} (l:List Task) (v:Value) (w:World) (h:Rd ETask S w v l) (r:Bool) (hr:bn l=r) :
 Calls prog 101 #[v] w fun e w'=>e=.returned (.bool r)∧Ext w w':=by
 subst hr;exact N9 l v w h
theorem lV {S:Nat→Prop} (l:List Use) (v:Value) (w:World) (h:Rd dX S w v l) (r:Bool) (hr:bF l=r) :
 Calls prog 102 #[v] w fun e w'=>e=.returned (.bool r)∧Ext w w':=by
 subst hr;exact PU l v w h
theorem qJ (n:Int) (w:World) (r:Bool) (hr:vI n=r):Calls prog 103 #[.int .i64 n] w fun e w'=>e=.returned (.bool r)∧w=w':=by
 subst hr;exact Ql n w
theorem zQ {S:Nat→Prop} (x:Task) (cs:List Value) (w:World) (h:ETask.rel S w cs x) (s0:0≤x.start) (s1:x.start≤1000000) (l0:1≤x.long) (l1:x.long≤20) :
 Calls prog 68 #[.agg cs.toArray] w fun e w'=>e=.returned (.int .i64 (endOf x))∧Ext w w':=by
 obtain ⟨v1,rfl,hf,h1⟩:=h;obtain ⟨A1,c1,rfl,-⟩:=h1.form;clear hf h1;simp only [aB];have i1:IntKind.i64.wrap (x.start+1)=x.start+1:=IntWalk.i64_in _ (by omega);have i2:IntKind.i64.wrap (x.start+1+x.long)=x.start+1+x.long:=IntWalk.i64_in _ (by omega);go_enter func68,ntmps68;go_wp2_with fail;go_ret;exact ⟨aI (by unfold endOf;first | rfl | (rw [i1,i2]) | omega),(Ext.refl _).alloc _⟩
theorem Si {S:Nat→Prop} (l:List Int) (n:Int) (v:Value) (w:World) (h:Rd fC S w v l) :
 Calls prog 268 #[v,.int .i64 n] w fun e w'=>e=.returned (.int .i64 (idxOf (isNum n) l))∧Ext w w':=by
 obtain ⟨A,c,rfl,h1,h2,hk⟩:=h.open_;unfold maxLen at h2;have HK:=ah hk;clear hk h;go_enter func268,ntmps268;go_wp2_with fail;go_loopw [8] (fun i w'=>∃ k:Nat,k≤l.length∧i=.int .i64 k∧(∀ j,j < k→isNum n (nth l j)=false)∧Ext w w') (fun i _=>l.length - (intOf i).toNat);case atStart=>exact ⟨0,by omega,rfl,fun j hj=>by omega,Ext.refl _⟩
 case round =>
  obtain ⟨k,hk1,rfl,hall,hx⟩:=hrel;have HA:=ah hall;have HX:=ah hx;clear hall;by_cases hlt:k < l.length
  · obtain ⟨b,q,cs,rfl,_,⟨rfl,hfit⟩,hc⟩:=HK.out k hlt;have c0:=Ext.some hx (hc 0 _ rfl);simp only [fC,Nat.mul_one,Nat.add_zero] at c0;clear hc hfit hx;by_cases he:nth l k=n
    · have HE:=ah (iP (p:=isNum n) hlt HA.out (by simp [isNum,he]));go_wp2_with fail;go_ret;exact ⟨aI HE.out.symm,HX.out⟩
    · have HE:=ah (all_succ (p:=fun j=>isNum n (nth l j)=false) HA.out (by simp [isNum,he]));go_wp2_with fail;go_roundw;case rel=>exact ⟨k+1,by omega,by go_num,HE.out,HX.out⟩
      case measure=>simp [intOf];omega
  · have HE:=ah (iO (p:=isNum n) (l:=l) fun j hj=>HA.out j (by omega));go_wp2_with fail;go_ret;exact ⟨aI HE.out.symm,HX.out⟩
theorem yu {S:Nat→Prop} (l:List Int) (n:Int) (v:Value) (w:World) (h:Rd fC S w v l) :
 Calls prog 198 #[v,.int .i64 n] w fun e w'=>e=.returned (.bool (l.any (isNum n)))∧Ext w w':=by
 have HE:=ah (jr (p:=isNum n) (l:=l));have HR:=ah h;obtain ⟨A,c,rfl,-⟩:=h.form;clear h;go_enter func198,ntmps198;go_wp2_with (go_at_call 268;(with_reducible refine (Si (S:=S) l n _ _ HR.out).mono ?_);rintro e w1 ⟨rfl,hx1⟩;have jf:=ah hx1;clear hx1);go_ret;exact ⟨au (by rw [← HE.out]),jf.out⟩
def vF (ns:List (List Label)) (a:Label) (n:Int):Bool:=!mJ ns a n
theorem afc (ns:List (List Label)) (a:Label) (l:List Int):l.any (vF ns a) = !l.all (mJ ns a):=by
 induction l with
 | nil=>rfl
 | cons n l ih=>rw [List.any_cons,List.all_cons,ih,vF];cases mJ ns a n <;> cases l.all (mJ ns a) <;> rfl
theorem KG:∀ (args:Array Value) (W:World),(callFunc 197 args).run prog W=.ok (.enter 197 args) W:=by
 intro args W;go_simp
theorem abN {S:Nat→Prop} (ns:List (List Label)) (a:Label) (n:Int) (v:Value) (B:Nat) (w:World) (h:Rd fC S w v (eP ns a ns.length)) (hb:aF w B 74 #[v]) :
 Calls prog 197 #[.int .i64 n,.pointer (some ⟨B,0,none⟩)] w fun e w'=>e=.returned (.bool (vF ns a n))∧Ext w w':=by
 have HR:=ah h;have HE:=ah (KQ ns a n);obtain ⟨A,c,rfl,-⟩:=h.form;have b0:=hb.cell 0;clear h hb;simp only [List.getElem?_toArray,List.getElem?_cons_zero] at b0;go_enter func197,ntmps197;go_wp2_with (go_at_call 198;(with_reducible refine (yu (S:=S) (eP ns a ns.length) n _ _ HR.out).mono ?_);rintro e w1 ⟨rfl,hx1⟩;have jf:=ah hx1;clear hx1);go_ret;exact ⟨au (by rw [vF,← HE.out]),jf.out⟩
theorem WA {S:Nat→Prop} (x:Config) (cs:List Value) (a:Label) (w:World) (h:gV.rel S w cs x) :
 Calls prog 109 #[.agg cs.toArray,.agg (Rl a)] w fun e w'=>e=.returned (.int .i64 (mO x a))∧Ext w w':=by
 obtain ⟨v1,v2,v3,rfl,hf,h1,h2,h3⟩:=h;obtain ⟨A1,c1,rfl,-⟩:=h1.form;obtain ⟨A2,c2,rfl,-⟩:=h2.form;have H3:=ah h3;obtain ⟨A3,c3,rfl,l1,l2,hk⟩:=h3.open_;unfold maxLen at l2;have HF:=ah hf;have H1:=ah h1;have H2:=ah h2;have HK:=ah hk;clear hf h1 h2 h3 hk;simp only [dN];obtain ⟨t,ht⟩:∃ t,aU x=t:=⟨_,rfl⟩
 have T:=ah ht;clear ht;go_enter func109,ntmps109;go_upto_region 1 with (fail)
 obtain ⟨W,B,hW,hB,hx0,a0,b0⟩:=eY w #[.slice A1 x.nodes.length c1,.slice A2 x.pairs.length c2,.slice A3 x.ay.length c3,x.half] (Rl a) 40 47;rw [← hW,← hB];have QA:=ah a0;have QB:=ah b0;have X:=ah hx0;clear hW hB hx0 a0 b0;have q0:=QA.out.cell;cases t with
 | false =>
   have HE:Hid (mO x a=0):=ah (by rw [mO,T.out];rfl);go_wp2_with (go_at_call 99;(with_reducible refine (iE (S:=S) x [.slice A1 x.nodes.length c1,.slice A2 x.pairs.length c2,.slice A3 x.ay.length c3,x.half] _ (aY HF.out (H1.out.ext X.out) (H2.out.ext X.out) (H3.out.ext X.out)) _ T.out).mono ?_);rintro e w7 ⟨rfl,hx7⟩;have X7:=ah (X.out.trans hx7);clear hx7 q0);go_ret;exact ⟨aI HE.out.symm,X7.out⟩
 | true =>
   have hcl:=Eo T.out;have Xw:Hid (x.nodes.length≤6):=ah (pY hcl).2;have hmz:=Qm (a:=a) hcl;obtain ⟨n,hn⟩:∃ n,(eP x.nodes a x.nodes.length).length=n:=⟨_,rfl⟩
   have HN:=ah hn;have aft:n=0↔cleared (labelsIn x.nodes) a=false:=by rw [← hn];exact hmz
   clear hcl hmz hn;by_cases hz:n=0
   · subst hz;have HE:Hid (mO x a=0):=ah (by rw [mO,if_neg (by rw [aft.1 rfl];simp)]);clear aft;go_wp2_with (first
      | (go_at_call 99;(with_reducible refine (iE (S:=S) x [.slice A1 x.nodes.length c1,.slice A2 x.pairs.length c2,.slice A3 x.ay.length c3,x.half] _ (aY HF.out (H1.out.ext X.out) (H2.out.ext X.out) (H3.out.ext X.out)) _ T.out).mono ?_);rintro e w7 ⟨rfl,hx7⟩;have X7:=ah (X.out.trans hx7);have QA7:=ah (QA.out.ext hx7);have QB7:=ah (QB.out.ext hx7);clear hx7 q0;have q0:=QA7.out.cell;have p0:=QB7.out.cell)
      | (go_at_call 113;(with_reducible refine (oK (S:=S) x [.slice A1 x.nodes.length c1,.slice A2 x.pairs.length c2,.slice A3 x.ay.length c3,x.half] a _ (aY HF.out (H1.out.ext X7.out) (H2.out.ext X7.out) (H3.out.ext X7.out)) Xw.out).mono ?_);rintro e w8 ⟨v8,F8,rfl,o8,-,eu⟩;obtain ⟨A8,c8,rfl,-⟩:=o8.form;rw [HN.out];have X8:=ah (X7.out.trans eu);clear eu o8 q0 p0))
     go_ret;exact ⟨aI HE.out.symm,X8.out⟩
   · have hn0:¬ ((n:Int)=0):=by omega
     have HE:Hid (mO x a=qZ x.ay a):=ah (by rw [mO,if_pos ⟨T.out,by cases hb:cleared (labelsIn x.nodes) a with | true=>rfl | false=>exact absurd (aft.2 hb) hz⟩]);clear aft hz;go_upto_region 3 with (first
      | (go_at_call 99;(with_reducible refine (iE (S:=S) x [.slice A1 x.nodes.length c1,.slice A2 x.pairs.length c2,.slice A3 x.ay.length c3,x.half] _ (aY HF.out (H1.out.ext X.out) (H2.out.ext X.out) (H3.out.ext X.out)) _ T.out).mono ?_);rintro e w7 ⟨rfl,hx7⟩;have X7:=ah (X.out.trans hx7);have QA7:=ah (QA.out.ext hx7);have QB7:=ah (QB.out.ext hx7);clear hx7 q0;have q0:=QA7.out.cell;have p0:=QB7.out.cell)
      | (go_at_call 113;(with_reducible refine (oK (S:=S) x [.slice A1 x.nodes.length c1,.slice A2 x.pairs.length c2,.slice A3 x.ay.length c3,x.half] a _ (aY HF.out (H1.out.ext X7.out) (H2.out.ext X7.out) (H3.out.ext X7.out)) Xw.out).mono ?_);rintro e w8 ⟨v8,F8,rfl,o8,-,eu⟩;obtain ⟨A8,c8,rfl,-⟩:=o8.form;rw [HN.out];have X8:=ah (X7.out.trans eu);have QA8:=ah (QA7.out.ext eu);have QB8:=ah (QB7.out.ext eu);clear eu o8 q0 p0;have q0:=QA8.out.cell 2))
     clear hn0;go_wp2_with fail;clear q0;go_loopw [20] (fun i w'=>∃ k:Nat,k≤x.ay.length∧i=.int .i64 k∧(∀ j,j < k→(nth x.ay j).label≠a)∧Ext w8 w') (fun i _=>x.ay.length - (intOf i).toNat);case atStart=>exact ⟨0,by omega,rfl,fun j hj=>by omega,Ext.refl _⟩
     case round =>
      obtain ⟨k,hk1,rfl,hall,hx⟩:=hrel;have HA:=ah hall;have HX:=ah hx;clear hall;by_cases hlt:k < x.ay.length
      · obtain ⟨b,o,cs,rfl,_,⟨rfl,hfit⟩,hc⟩:=HK.out k hlt;have hxw:=X8.out.trans hx;have c0:=Ext.some hxw (hc 0 _ rfl);have c1:=Ext.some hxw (hc 1 _ rfl);have c2:=Ext.some hxw (hc 2 _ rfl);simp only [dJ,Nat.add_zero] at c0 c1 c2;have d0:=fun ob:Obj=>Ext.some (hx.alloc ob) (QB8.out.cell 0);have d1:=fun ob:Obj=>Ext.some (hx.alloc ob) (QB8.out.cell 1);have XR:=ah hxw;clear hc hfit hx hxw;by_cases he:(nth x.ay k).label=a
        · have HQ:=ah (Nr hlt he HA.out);have g0:(nth x.ay k).label.level=a.level:=by rw [he]
          have g1:(nth x.ay k).label.set=a.set:=by rw [he]
          clear he;go_wp2_with fail;go_ret;exact ⟨aI (by rw [HE.out,HQ.out]),XR.out.alloc _⟩
        · have HG:=ah (all_succ (p:=fun j=>(nth x.ay j).label≠a) HA.out he);have jl:=@kL;rcases nC he with g | g
          all_goals
           clear he;go_wp2_with fail;go_roundw;case rel=>exact ⟨k+1,by omega,by go_num,HG.out,HX.out.alloc _⟩
           case measure=>simp [intOf];omega
      · have HQ:=ah (ES (qs:=x.ay) (a:=a) fun j hj=>HA.out j (by omega));clear hx;go_wp2_with fail;go_ret;exact ⟨aI (by rw [HE.out,HQ.out]),X8.out.trans HX.out⟩
theorem KH:∀ (args:Array Value) (W:World),(callFunc 107 args).run prog W=.ok (.enter 107 args) W:=by
 intro args W;go_simp
theorem XP:∀ (args:Array Value) (W:World),(callFunc 111 args).run prog W=.ok (.enter 111 args) W:=by
 intro args W;go_simp
theorem QT {S S':Nat→Prop} (y:aK) (a:Label) (cs ds:List Value) (B:Nat) (w:World) (h:aH.rel S w cs a) (g:eF.rel S' w ds y) (hb:aF w B 45 ds.toArray) (hl:y.tasks.length≤96) :
 Calls prog 107 #[.agg cs.toArray,.pointer (some ⟨B,0,none⟩)] w fun e w'=>e=.returned (.bool (wJ y a))∧Ext w w':=by
 obtain ⟨rfl,-⟩:=h;obtain ⟨v1,v2,v3,v4,v5,v6,rfl,hf,h1,h2,h3,h4,h5,h6⟩:=g;obtain ⟨A1,c1,rfl,-⟩:=h1.form;obtain ⟨A2,c2,rfl,-⟩:=h2.form;obtain ⟨A3,c3,rfl,-⟩:=h3.form;obtain ⟨A4,c4,rfl,-⟩:=h4.form;obtain ⟨A5,c5,rfl,-⟩:=h5.form;obtain ⟨A6,c6,rfl,-⟩:=h6.form;have HF:Hid (iC y.config):=ah hf.1;have H1:=ah h1;have H2:=ah h2;have H3:=ah h3;have H5:=ah h5;have HL:=ah hl;have QY:=ah hb;clear hf h1 h2 h3 h4 h5 h6 hb hl;simp only [aQ,bV] at QY ⊢;go_enter func107,ntmps107;go_upto_region 1 with (fail)
 obtain ⟨W,C,hW,hC,hx0,b0⟩:∃ W C,W=w.alloc (.cells (Rl a) 47)∧C=w.heap.size∧Ext w W∧aF W C 47 (Rl a):=⟨_,_,rfl,rfl,(Ext.refl w).alloc _,aF.new _ _ _⟩
 rw [← hW,← hC];have X:=ah hx0;have y0:=(QY.out.ext hx0).cell 0;have y1:=(QY.out.ext hx0).cell 1;have y2:=(QY.out.ext hx0).cell 2;have y3:=(QY.out.ext hx0).cell 3;have y5:=(QY.out.ext hx0).cell 5;have b1:=b0.cell 1;replace b0:=b0.cell 0;simp only [List.getElem?_toArray,List.getElem?_cons_succ,List.getElem?_cons_zero] at y0 y1 y2 y3 y5 b0 b1;clear hW hC hx0;refine ak (by kernel_rfl) (by kernel_rfl) ?_;repeat (
  (refine wpQuiet_step (fun K hK=>?_)
   go_simp;first
    | (refine hK _ ?_;clear hK K)
    | (apply Exists.intro
       refine ⟨fun bH aj=>?_,hK _ ?_⟩
       · have aoP:=Ext.some aj b0;have aoR:=Ext.some aj b1;have aaK:=Ext.some aj y0;have aeI:=Ext.some aj y1;have aeJ:=Ext.some aj y2;have aeK:=Ext.some aj y3;have amJ:=Ext.some aj y5;first | exact rfl | (go_simp;done) | (go_simp;exact rfl) | (go_at_call 108;exact aJ aj (VI (S:=S') y.tasks a _ _ (H5.out.ext (X.out.trans aj)) HL.out)) | (go_at_call 109;exact aJ aj (WA (S:=S') y.config _ a _ (aY HF.out (H1.out.ext (X.out.trans aj)) (H2.out.ext (X.out.trans aj)) (H3.out.ext (X.out.trans aj)))))
       clear hK K)))
 refine wpQuiet_nil ?_;intro w1 hx1;have X1:=ah (X.out.trans hx1);clear hx1 b0 b1 y0 y1 y2 y3 y5;go_wp2_with fail;go_ret;exact ⟨au (by unfold wJ;first | rfl | (go_light;simp)),X1.out⟩
theorem acM {S S':Nat→Prop} (ls:List Label) (x:Use) (cs:List Value) (v:Value) (B:Nat) (w:World) (h:dX.rel S w cs x) (g:Rd aH S' w v ls) (hb:aF w B 134 #[v]) :
 Calls prog 111 #[.agg cs.toArray,.pointer (some ⟨B,0,none⟩)] w fun e w'=>e=.returned (.bool (qU ls x))∧Ext w w':=by
 obtain ⟨rfl,-⟩:=h;have HR:=ah g;obtain ⟨A,c,rfl,-⟩:=g.form;have b0:=fun ob:Obj=>Ext.some ((Ext.refl w).alloc ob) (hb.cell 0);clear g hb;simp only [kN];go_enter func111,ntmps111;go_wp2_with (go_at_call 112;(with_reducible refine (uV (S:=S') ls x.label _ _ (HR.out.ext ((Ext.refl _).alloc _))).mono ?_);rintro e w1 ⟨rfl,hx1⟩;have jf:=ah hx1;clear hx1);go_ret;exact ⟨au (by rw [qU]),((Ext.refl _).alloc _).trans jf.out⟩
theorem TQ {S S':Nat→Prop} (y:aK) (x:Task) (cs ds:List Value) (w:World) (h:eF.rel S w cs y) (g:ETask.rel S' w ds x) (hn:y.config.nodes.length≤6) (hw:vI y.now=true) (ht:bJ x=true) :
 Calls prog 104 #[.agg cs.toArray,.agg ds.toArray] w fun e w'=>e=.returned (.bool (lu y.config.nodes y.now x))∧Ext w w':=by
 obtain ⟨v1,v2,v3,v4,v5,v6,rfl,hf,h1,h2,h3,h4,h5,h6⟩:=h;obtain ⟨A1,c1,rfl,-⟩:=h1.form;obtain ⟨A2,c2,rfl,-⟩:=h2.form;obtain ⟨A3,c3,rfl,-⟩:=h3.form;obtain ⟨A4,c4,rfl,-⟩:=h4.form;obtain ⟨A5,c5,rfl,-⟩:=h5.form;obtain ⟨A6,c6,rfl,-⟩:=h6.form;obtain ⟨u1,rfl,gf,g1⟩:=g;obtain ⟨AT,cT,rfl,-⟩:=g1.form;have Oo:Hid (iC y.config):=ah hf.1;have GF:=ah gf;have H1:=ah h1;have H2:=ah h2;have H3:=ah h3;have G1:=ah g1;have Xw:=ah hn;have HT:=ah ht;obtain ⟨n0,n1⟩:=MV hw;have N0:=ah n0;have N1:=ah n1;clear hf gf h1 h2 h3 h4 h5 h6 g1 hn ht hw n0 n1;obtain ⟨n,hn⟩:∃ n,(eP y.config.nodes x.label y.config.nodes.length).length=n:=⟨_,rfl⟩
 have HN:=ah hn;have HM:Hid ((rY y.config.nodes x.label:Int)=(n:Int)):=ah (by rw [rY,hn]);clear hn;simp only [bV,aB];go_enter func104,ntmps104;go_upto_region 1 with (fail)
 obtain ⟨W,B,hW,hB,hx0,a0,b0⟩:=eY w (Ry y A1 c1 A2 c2 A3 c3 A4 c4 A5 c5 A6 c6) (Rt x (.slice AT x.nodes.length cT)) 45 76;rw [← hW,← hB];have QA:=ah a0;have QB:=ah b0;have X:=ah hx0;clear hW hB hx0 a0 b0;have qa:=QA.out.cell;have qb:=QB.out.cell;go_upto_region 2 with (go_at_call 113;(with_reducible refine (oK (S:=S) y.config [.slice A1 y.config.nodes.length c1,.slice A2 y.config.pairs.length c2,.slice A3 y.config.ay.length c3,y.config.half] x.label _ (aY Oo.out (H1.out.ext X.out) (H2.out.ext X.out) (H3.out.ext X.out)) Xw.out).mono ?_);rintro e w7 ⟨v7,F7,rfl,o7,-,hx7⟩;obtain ⟨A7,c7,rfl,-⟩:=o7.form;have O7:=ah o7.rd;rw [HN.out] at O7 ⊢;have H7:=ah hx7;clear hx7 o7 qa qb)
 obtain ⟨W8,B8,Yf,hB8,eu,b8⟩:∃ W B,W=w7.alloc (.cells #[.slice A7 n c7] 74)∧B=w7.heap.size∧Ext w7 W∧aF W B 74 #[.slice A7 n c7]:=⟨_,_,rfl,rfl,(Ext.refl w7).alloc _,aF.new _ _ _⟩
 rw [← Yf,← hB8];have X8:=ah ((X.out.trans H7.out).trans eu);replace QA:=ah (QA.out.ext (H7.out.trans eu));replace QB:=ah (QB.out.ext (H7.out.trans eu));have Q8:=ah b8;have R7:=ah (O7.out.ext eu);clear Yf hB8 eu b8;have qa:=QA.out.cell;have qb:=QB.out.cell;have q8:=Q8.out.cell 0;by_cases k1:(n:Int) < x.need
 · have HE:=ah (U6 (ns:=y.config.nodes) (now:=y.now) (x:=x) (by rw [HM.out];exact k1));go_wp2_with fail;go_ret;exact ⟨au HE.out.symm,X8.out⟩
 by_cases k2:y.now < x.born
 · have HE:=ah (Qk (ns:=y.config.nodes) (x:=x) k2);go_wp2_with fail;go_ret;exact ⟨au HE.out.symm,X8.out⟩
 have hcl:∀ (cs:List Value) (m:Int) (V:World),Ext W8 V→fC.rel S' V cs m→Calls prog 197 #[cs.headD undef,.pointer (some ⟨B8,0,none⟩)] V fun e w'=>e=.returned (.bool (vF y.config.nodes x.label m))∧Ext V w':=fun cs m V hx hr=>by
  obtain ⟨rfl,_⟩:=hr;exact abN (S:=fun b=>b∈F7) y.config.nodes x.label m _ B8 V (R7.out.ext hx) (Q8.out.ext hx)
 have CLO:=ah hcl;clear hcl;obtain ⟨t,ht⟩:∃ t,x.nodes.all (mJ y.config.nodes x.label)=t:=⟨_,rfl⟩
 have T:Hid (x.nodes.any (vF y.config.nodes x.label) = !t):=ah (by rw [afc,ht]);cases t with
 | false =>
   have HE:=ah (Ld (now:=y.now) ht);clear ht;go_wp2_with (go_at_call 196;(with_reducible refine (uw (S:=S') x.nodes (vF y.config.nodes x.label) _ _ _ _ (G1.out.ext X8.out) KG CLO.out).mono ?_);rintro e w9 ⟨rfl,jO⟩;rw [T.out];have X9:=ah (X8.out.trans jO);have E9:=ah jO;clear jO qa qb q8);go_ret;exact ⟨au HE.out.symm,X9.out⟩
 | true =>
   have HE:=ah (Le (by rw [HM.out];exact k1) k2 ht);clear ht;go_upto_region 6 with (go_at_call 196;(with_reducible refine (uw (S:=S') x.nodes (vF y.config.nodes x.label) _ _ _ _ (G1.out.ext X8.out) KG CLO.out).mono ?_);rintro e w9 ⟨rfl,jO⟩;rw [T.out];have X9:=ah (X8.out.trans jO);have E9:=ah jO;clear jO qa qb q8)
   replace QA:=ah (QA.out.ext E9.out);replace QB:=ah (QB.out.ext E9.out);have s9:w9.cell? ⟨B+1,11,none⟩=some (.int .i64 x.state):=QB.out.cell 11;have e12:w9.cell? ⟨B+1,12,none⟩=some (.int .i64 x.start):=QB.out.cell 12;have y7:w9.cell? ⟨B,7,none⟩=some (.int .i64 y.now):=QA.out.cell 7;clear k1 k2;by_cases hs:x.state=2
   · have HP:=ah (Dz (now:=y.now) hs);obtain ⟨s0,s1,l0,l1⟩:=Jk HT.out hs;have SB:=ah (And.intro s0 (And.intro s1 (And.intro l0 l1)));clear s0 s1 l0 l1;have e0:w9.cell? ⟨B+1,0,none⟩=some (.int .i64 x.label.level):=QB.out.cell 0;have e1:w9.cell? ⟨B+1,1,none⟩=some (.int .i64 x.label.set):=QB.out.cell 1;have e2:w9.cell? ⟨B+1,2,none⟩=some (.int .i64 x.id):=QB.out.cell 2;have e3:w9.cell? ⟨B+1,3,none⟩=some (.string x.owner):=QB.out.cell 3;have e4:w9.cell? ⟨B+1,4,none⟩=some (.int .i64 x.need):=QB.out.cell 4;have e5:w9.cell? ⟨B+1,5,none⟩=some (.int .i64 x.long):=QB.out.cell 5;have e6:w9.cell? ⟨B+1,6,none⟩=some (.int .i64 x.prio):=QB.out.cell 6;have e7:w9.cell? ⟨B+1,7,none⟩=some (.int .i64 x.under.level):=QB.out.cell 7;have e8:w9.cell? ⟨B+1,8,none⟩=some (.int .i64 x.under.set):=QB.out.cell 8;have e9:w9.cell? ⟨B+1,9,none⟩=some (.int .i64 x.after):=QB.out.cell 9;have e10:w9.cell? ⟨B+1,10,none⟩=some (.int .i64 x.born):=QB.out.cell 10;have e13:w9.cell? ⟨B+1,13,none⟩=some (.slice AT x.nodes.length cT):=QB.out.cell 13;by_cases hst:x.start≤y.now
     · have hd:=decide_eq_true hst;have HQ:Hid (lu y.config.nodes y.now x=decide (y.now < endOf x)):=ah (by rw [HE.out,HP.out,decide_eq_true hst,Bool.true_and]);go_wp2_with fail;clear hs;refine ak (by kernel_rfl) (by kernel_rfl) ?_;repeat (
        (refine wpQuiet_step (fun K hK=>?_)
         go_simp;first
          | (refine hK _ ?_;clear hK K)
          | (apply Exists.intro
             refine ⟨fun bH aj=>?_,hK _ ?_⟩
             · have oh:=Ext.some aj e0;have lX:=Ext.some aj e1;have uz:=Ext.some aj e2;have yR:=Ext.some aj e3;have abD:=Ext.some aj e4;have agV:=Ext.some aj e5;have afl:=Ext.some aj e6;have OD:=Ext.some aj e7;have RQ:=Ext.some aj e8;have RU:=Ext.some aj e9;have Qg:=Ext.some aj e10;have apo:=Ext.some aj s9;have adC:=Ext.some aj e12;have UU:=Ext.some aj e13;have aaL:=Ext.some aj y7;first | exact rfl | (go_simp;done) | (go_simp;exact rfl) | (go_at_call 68;exact aJ aj (zQ (S:=S') x _ _ (eU GF.out (G1.out.ext (X9.out.trans aj))) SB.out.1 SB.out.2.1 SB.out.2.2.1 SB.out.2.2.2))
             clear hK K)))
       refine wpQuiet_nil ?_;intro w1 hx1;have HZ:=ah (X9.out.trans hx1);clear e0 e1 e2 e3 e4 e5 e6 e7 e8 e9 e10 s9 e12 e13 y7 hx1;go_wp2_with fail;go_ret;exact ⟨au HQ.out.symm,HZ.out⟩
     · have hd:=decide_eq_false hst;have HQ:Hid (lu y.config.nodes y.now x=false):=ah (by rw [HE.out,HP.out,decide_eq_false hst,Bool.false_and]);go_wp2_with fail;clear hs;refine ak (by kernel_rfl) (by kernel_rfl) ?_;repeat (
        (refine wpQuiet_step (fun K hK=>?_)
         go_simp;first
          | (refine hK _ ?_;clear hK K)
          | (apply Exists.intro
             refine ⟨fun bH aj=>?_,hK _ ?_⟩
             · have oh:=Ext.some aj e0;have lX:=Ext.some aj e1;have uz:=Ext.some aj e2;have yR:=Ext.some aj e3;have abD:=Ext.some aj e4;have agV:=Ext.some aj e5;have afl:=Ext.some aj e6;have OD:=Ext.some aj e7;have RQ:=Ext.some aj e8;have RU:=Ext.some aj e9;have Qg:=Ext.some aj e10;have apo:=Ext.some aj s9;have adC:=Ext.some aj e12;have UU:=Ext.some aj e13;have aaL:=Ext.some aj y7;first | exact rfl | (go_simp;done) | (go_simp;exact rfl) | fail
             clear hK K)))
       refine wpQuiet_nil ?_;intro w1 hx1;have HZ:=ah (X9.out.trans hx1);clear e0 e1 e2 e3 e4 e5 e6 e7 e8 e9 e10 s9 e12 e13 y7 hx1;go_wp2_with fail;go_ret;exact ⟨au HQ.out.symm,HZ.out⟩
   · by_cases hz:0 < x.nodes.length
     · have HP:=ah (zF (now:=y.now) hs hz);have hz':(0:Int) < (x.nodes.length:Int):=by omega
       have i1:IntKind.i64.wrap (y.now+1)=y.now+1:=IntWalk.i64_in _ (by have:=N0.out;have:=N1.out;omega);have i2:IntKind.i64.wrap (y.now+40)=y.now+40:=IntWalk.i64_in _ (by have:=N0.out;have:=N1.out;omega);have e0:w9.cell? ⟨B+1,0,none⟩=some (.int .i64 x.label.level):=QB.out.cell 0;have e1:w9.cell? ⟨B+1,1,none⟩=some (.int .i64 x.label.set):=QB.out.cell 1;have e2:w9.cell? ⟨B+1,2,none⟩=some (.int .i64 x.id):=QB.out.cell 2;have e3:w9.cell? ⟨B+1,3,none⟩=some (.string x.owner):=QB.out.cell 3;have e4:w9.cell? ⟨B+1,4,none⟩=some (.int .i64 x.need):=QB.out.cell 4;have e5:w9.cell? ⟨B+1,5,none⟩=some (.int .i64 x.long):=QB.out.cell 5;have e6:w9.cell? ⟨B+1,6,none⟩=some (.int .i64 x.prio):=QB.out.cell 6;have e7:w9.cell? ⟨B+1,7,none⟩=some (.int .i64 x.under.level):=QB.out.cell 7;have e8:w9.cell? ⟨B+1,8,none⟩=some (.int .i64 x.under.set):=QB.out.cell 8;have e9:w9.cell? ⟨B+1,9,none⟩=some (.int .i64 x.after):=QB.out.cell 9;have e10:w9.cell? ⟨B+1,10,none⟩=some (.int .i64 x.born):=QB.out.cell 10;have e13:w9.cell? ⟨B+1,13,none⟩=some (.slice AT x.nodes.length cT):=QB.out.cell 13;go_wp2_with (first | (go_at_call 199;(with_reducible refine (sS _ _ _ _ _ _ _ _ _ _ _ _ _ _ _ _ _).mono ?_);rintro e w10 ⟨rfl,gq⟩;have XE:=ah (X9.out.trans gq);replace e12:=Ext.some gq e12;replace y7:=Ext.some gq y7;clear gq e0 e1 e2 e3 e4 e5 e6 e7 e8 e9 e10 s9 e13) | (go_at_call 42;(with_reducible refine (bI _ _ _ _).mono ?_);rintro e sO ⟨rfl,rfl⟩));go_ret;exact ⟨au (by rw [HE.out,HP.out]),XE.out⟩
     · have HP:=ah (Nk (now:=y.now) hs hz);have e0:w9.cell? ⟨B+1,0,none⟩=some (.int .i64 x.label.level):=QB.out.cell 0;have e1:w9.cell? ⟨B+1,1,none⟩=some (.int .i64 x.label.set):=QB.out.cell 1;have e2:w9.cell? ⟨B+1,2,none⟩=some (.int .i64 x.id):=QB.out.cell 2;have e3:w9.cell? ⟨B+1,3,none⟩=some (.string x.owner):=QB.out.cell 3;have e4:w9.cell? ⟨B+1,4,none⟩=some (.int .i64 x.need):=QB.out.cell 4;have e5:w9.cell? ⟨B+1,5,none⟩=some (.int .i64 x.long):=QB.out.cell 5;have e6:w9.cell? ⟨B+1,6,none⟩=some (.int .i64 x.prio):=QB.out.cell 6;have e7:w9.cell? ⟨B+1,7,none⟩=some (.int .i64 x.under.level):=QB.out.cell 7;have e8:w9.cell? ⟨B+1,8,none⟩=some (.int .i64 x.under.set):=QB.out.cell 8;have e9:w9.cell? ⟨B+1,9,none⟩=some (.int .i64 x.after):=QB.out.cell 9;have e10:w9.cell? ⟨B+1,10,none⟩=some (.int .i64 x.born):=QB.out.cell 10;have e13:w9.cell? ⟨B+1,13,none⟩=some (.slice AT x.nodes.length cT):=QB.out.cell 13;go_wp2_with (go_at_call 199;(with_reducible refine (sS _ _ _ _ _ _ _ _ _ _ _ _ _ _ _ _ _).mono ?_);rintro e w10 ⟨rfl,gq⟩;have XE:=ah (X9.out.trans gq);replace e12:=Ext.some gq e12;replace y7:=Ext.some gq y7;clear gq e0 e1 e2 e3 e4 e5 e6 e7 e8 e9 e10 s9 e13);go_ret;exact ⟨au (by rw [HE.out,HP.out]),XE.out⟩
theorem Jr {S S':Nat→Prop} (y:aK) (x:Task) (cs ds:List Value) (w:World) (h:eF.rel S w cs y) (g:ETask.rel S' w ds x) (hn:y.config.nodes.length≤6) (hw:vI y.now=true) (ht:bJ x=true) (r:Bool) (hr:lu y.config.nodes y.now x=r) :
 Calls prog 104 #[.agg cs.toArray,.agg ds.toArray] w fun e w'=>e=.returned (.bool r)∧Ext w w':=by
 subst hr;exact TQ y x cs ds w h g hn hw ht
theorem PW {S:Nat→Prop} (y:aK) (cs:List Value) (w:World) (h:eF.rel S w cs y) :
 Calls prog 40 #[.agg cs.toArray] w fun e w'=>e=.returned (.bool (bD y))∧Ext w w':=by
 obtain ⟨v1,v2,v3,v4,v5,v6,rfl,hf,h1,h2,h3,h4,h5,h6⟩:=h;obtain ⟨A1,c1,rfl,-⟩:=h1.form;obtain ⟨A2,c2,rfl,-⟩:=h2.form;obtain ⟨A3,c3,rfl,-⟩:=h3.form;obtain ⟨A4,c4,rfl,-⟩:=h4.form;have H5:=ah h5;obtain ⟨A5,c5,rfl,l5,m5,hk5⟩:=h5.open_;unfold maxLen at m5;obtain ⟨A6,c6,rfl,-⟩:=h6.form;have HF:=ah hf;have Oo:Hid (iC y.config):=ah hf.1;have H1:=ah h1;have H2:=ah h2;have H3:=ah h3;have H4:=ah h4;have H6:=ah h6;have HK:=ah hk5;clear hf h1 h2 h3 h4 h5 h6 hk5;simp only [bV];obtain ⟨t1,ht1⟩:∃ t,aU y.config=t:=⟨_,rfl⟩
 obtain ⟨t3,ht3⟩:∃ t,bT y.nodes=t:=⟨_,rfl⟩
 obtain ⟨t4,Vg⟩:∃ t,bn y.tasks=t:=⟨_,rfl⟩
 obtain ⟨t5,ht5⟩:∃ t,bF y.uses=t:=⟨_,rfl⟩
 obtain ⟨t6,ht6⟩:∃ t,vI y.now=t:=⟨_,rfl⟩
 have T1:=ah ht1;have T3:=ah ht3;have T4:=ah Vg;have T5:=ah ht5;have T6:=ah ht6;clear ht1 ht3 Vg ht5 ht6;go_enter func40,ntmps40;go_upto_region 1 with (fail)
 obtain ⟨W,B,hW,hB,hx0,b0⟩:∃ W B,W=w.alloc (.cells (Ry y A1 c1 A2 c2 A3 c3 A4 c4 A5 c5 A6 c6) 45)∧B=w.heap.size∧Ext w W∧aF W B 45 (Ry y A1 c1 A2 c2 A3 c3 A4 c4 A5 c5 A6 c6):=⟨_,_,rfl,rfl,(Ext.refl w).alloc _,aF.new _ _ _⟩
 rw [← hW,← hB];have QA:=ah b0;have X:=ah hx0;clear hW hB hx0 b0;have qa:=QA.out.cell;cases t1 with
 | false =>
   have HN:=ah (kM (y:=y) (by simp [fF,T1.out]));go_wp2_with (first | (go_at_call 99;(with_reducible refine (iE (S:=S) y.config [.slice A1 y.config.nodes.length c1,.slice A2 y.config.pairs.length c2,.slice A3 y.config.ay.length c3,y.config.half] _ (aY Oo.out (H1.out.ext X.out) (H2.out.ext X.out) (H3.out.ext X.out)) _ T1.out).mono ?_);rintro e w7 ⟨rfl,hx7⟩;replace X:=ah (X.out.trans hx7);replace QA:=ah (QA.out.ext hx7);clear hx7 qa;have qa:=QA.out.cell) | (go_at_call 100;(with_reducible refine (kZ (S:=S) y.nodes _ _ (H4.out.ext X.out) _ T3.out).mono ?_);rintro e w7 ⟨rfl,hx7⟩;replace X:=ah (X.out.trans hx7);replace QA:=ah (QA.out.ext hx7);clear hx7 qa;have qa:=QA.out.cell) | (go_at_call 101;(with_reducible refine (lg (S:=S) y.tasks _ _ (H5.out.ext X.out) _ T4.out).mono ?_);rintro e w7 ⟨rfl,hx7⟩;replace X:=ah (X.out.trans hx7);replace QA:=ah (QA.out.ext hx7);clear hx7 qa;have qa:=QA.out.cell) | (go_at_call 102;(with_reducible refine (lV (S:=S) y.uses _ _ (H6.out.ext X.out) _ T5.out).mono ?_);rintro e w7 ⟨rfl,hx7⟩;replace X:=ah (X.out.trans hx7);replace QA:=ah (QA.out.ext hx7);clear hx7 qa;have qa:=QA.out.cell) | (go_at_call 103;(with_reducible refine (qJ _ _ _ T6.out).mono ?_);rintro e w8 ⟨rfl,rfl⟩));go_ret;exact ⟨au HN.out.symm,X.out⟩
 | true =>
   by_cases hl:y.nodes.length=y.config.nodes.length;case neg =>
    have hl':¬ ((y.nodes.length:Int)=(y.config.nodes.length:Int)):=by omega
    have HN:=ah (kM (y:=y) (by simp [fF,hl]));go_wp2_with (first | (go_at_call 99;(with_reducible refine (iE (S:=S) y.config [.slice A1 y.config.nodes.length c1,.slice A2 y.config.pairs.length c2,.slice A3 y.config.ay.length c3,y.config.half] _ (aY Oo.out (H1.out.ext X.out) (H2.out.ext X.out) (H3.out.ext X.out)) _ T1.out).mono ?_);rintro e w7 ⟨rfl,hx7⟩;replace X:=ah (X.out.trans hx7);replace QA:=ah (QA.out.ext hx7);clear hx7 qa;have qa:=QA.out.cell) | (go_at_call 100;(with_reducible refine (kZ (S:=S) y.nodes _ _ (H4.out.ext X.out) _ T3.out).mono ?_);rintro e w7 ⟨rfl,hx7⟩;replace X:=ah (X.out.trans hx7);replace QA:=ah (QA.out.ext hx7);clear hx7 qa;have qa:=QA.out.cell) | (go_at_call 101;(with_reducible refine (lg (S:=S) y.tasks _ _ (H5.out.ext X.out) _ T4.out).mono ?_);rintro e w7 ⟨rfl,hx7⟩;replace X:=ah (X.out.trans hx7);replace QA:=ah (QA.out.ext hx7);clear hx7 qa;have qa:=QA.out.cell) | (go_at_call 102;(with_reducible refine (lV (S:=S) y.uses _ _ (H6.out.ext X.out) _ T5.out).mono ?_);rintro e w7 ⟨rfl,hx7⟩;replace X:=ah (X.out.trans hx7);replace QA:=ah (QA.out.ext hx7);clear hx7 qa;have qa:=QA.out.cell) | (go_at_call 103;(with_reducible refine (qJ _ _ _ T6.out).mono ?_);rintro e w8 ⟨rfl,rfl⟩));go_ret;exact ⟨au HN.out.symm,X.out⟩
   case pos =>
    have HL:=ah hl;have hl2:((y.nodes.length:Int) != (y.config.nodes.length:Int))=false:=by simp [hl]
    clear hl;cases t3 with
    | false =>
      have HN:=ah (kM (y:=y) (by simp [fF,T3.out]));go_wp2_with (first | (go_at_call 99;(with_reducible refine (iE (S:=S) y.config [.slice A1 y.config.nodes.length c1,.slice A2 y.config.pairs.length c2,.slice A3 y.config.ay.length c3,y.config.half] _ (aY Oo.out (H1.out.ext X.out) (H2.out.ext X.out) (H3.out.ext X.out)) _ T1.out).mono ?_);rintro e w7 ⟨rfl,hx7⟩;replace X:=ah (X.out.trans hx7);replace QA:=ah (QA.out.ext hx7);clear hx7 qa;have qa:=QA.out.cell) | (go_at_call 100;(with_reducible refine (kZ (S:=S) y.nodes _ _ (H4.out.ext X.out) _ T3.out).mono ?_);rintro e w7 ⟨rfl,hx7⟩;replace X:=ah (X.out.trans hx7);replace QA:=ah (QA.out.ext hx7);clear hx7 qa;have qa:=QA.out.cell) | (go_at_call 101;(with_reducible refine (lg (S:=S) y.tasks _ _ (H5.out.ext X.out) _ T4.out).mono ?_);rintro e w7 ⟨rfl,hx7⟩;replace X:=ah (X.out.trans hx7);replace QA:=ah (QA.out.ext hx7);clear hx7 qa;have qa:=QA.out.cell) | (go_at_call 102;(with_reducible refine (lV (S:=S) y.uses _ _ (H6.out.ext X.out) _ T5.out).mono ?_);rintro e w7 ⟨rfl,hx7⟩;replace X:=ah (X.out.trans hx7);replace QA:=ah (QA.out.ext hx7);clear hx7 qa;have qa:=QA.out.cell) | (go_at_call 103;(with_reducible refine (qJ _ _ _ T6.out).mono ?_);rintro e w8 ⟨rfl,rfl⟩));go_ret;exact ⟨au HN.out.symm,X.out⟩
    | true =>
      cases t4 with
      | false =>
        have HN:=ah (kM (y:=y) (by simp [fF,T4.out]));go_wp2_with (first | (go_at_call 99;(with_reducible refine (iE (S:=S) y.config [.slice A1 y.config.nodes.length c1,.slice A2 y.config.pairs.length c2,.slice A3 y.config.ay.length c3,y.config.half] _ (aY Oo.out (H1.out.ext X.out) (H2.out.ext X.out) (H3.out.ext X.out)) _ T1.out).mono ?_);rintro e w7 ⟨rfl,hx7⟩;replace X:=ah (X.out.trans hx7);replace QA:=ah (QA.out.ext hx7);clear hx7 qa;have qa:=QA.out.cell) | (go_at_call 100;(with_reducible refine (kZ (S:=S) y.nodes _ _ (H4.out.ext X.out) _ T3.out).mono ?_);rintro e w7 ⟨rfl,hx7⟩;replace X:=ah (X.out.trans hx7);replace QA:=ah (QA.out.ext hx7);clear hx7 qa;have qa:=QA.out.cell) | (go_at_call 101;(with_reducible refine (lg (S:=S) y.tasks _ _ (H5.out.ext X.out) _ T4.out).mono ?_);rintro e w7 ⟨rfl,hx7⟩;replace X:=ah (X.out.trans hx7);replace QA:=ah (QA.out.ext hx7);clear hx7 qa;have qa:=QA.out.cell) | (go_at_call 102;(with_reducible refine (lV (S:=S) y.uses _ _ (H6.out.ext X.out) _ T5.out).mono ?_);rintro e w7 ⟨rfl,hx7⟩;replace X:=ah (X.out.trans hx7);replace QA:=ah (QA.out.ext hx7);clear hx7 qa;have qa:=QA.out.cell) | (go_at_call 103;(with_reducible refine (qJ _ _ _ T6.out).mono ?_);rintro e w8 ⟨rfl,rfl⟩));go_ret;exact ⟨au HN.out.symm,X.out⟩
      | true =>
        cases t5 with
        | false =>
          have HN:=ah (kM (y:=y) (by simp [fF,T5.out]));go_wp2_with (first | (go_at_call 99;(with_reducible refine (iE (S:=S) y.config [.slice A1 y.config.nodes.length c1,.slice A2 y.config.pairs.length c2,.slice A3 y.config.ay.length c3,y.config.half] _ (aY Oo.out (H1.out.ext X.out) (H2.out.ext X.out) (H3.out.ext X.out)) _ T1.out).mono ?_);rintro e w7 ⟨rfl,hx7⟩;replace X:=ah (X.out.trans hx7);replace QA:=ah (QA.out.ext hx7);clear hx7 qa;have qa:=QA.out.cell) | (go_at_call 100;(with_reducible refine (kZ (S:=S) y.nodes _ _ (H4.out.ext X.out) _ T3.out).mono ?_);rintro e w7 ⟨rfl,hx7⟩;replace X:=ah (X.out.trans hx7);replace QA:=ah (QA.out.ext hx7);clear hx7 qa;have qa:=QA.out.cell) | (go_at_call 101;(with_reducible refine (lg (S:=S) y.tasks _ _ (H5.out.ext X.out) _ T4.out).mono ?_);rintro e w7 ⟨rfl,hx7⟩;replace X:=ah (X.out.trans hx7);replace QA:=ah (QA.out.ext hx7);clear hx7 qa;have qa:=QA.out.cell) | (go_at_call 102;(with_reducible refine (lV (S:=S) y.uses _ _ (H6.out.ext X.out) _ T5.out).mono ?_);rintro e w7 ⟨rfl,hx7⟩;replace X:=ah (X.out.trans hx7);replace QA:=ah (QA.out.ext hx7);clear hx7 qa;have qa:=QA.out.cell) | (go_at_call 103;(with_reducible refine (qJ _ _ _ T6.out).mono ?_);rintro e w8 ⟨rfl,rfl⟩));go_ret;exact ⟨au HN.out.symm,X.out⟩
        | true =>
          cases t6 with
          | false =>
            have HN:=ah (kM (y:=y) (by simp [fF,T6.out]));go_wp2_with (first | (go_at_call 99;(with_reducible refine (iE (S:=S) y.config [.slice A1 y.config.nodes.length c1,.slice A2 y.config.pairs.length c2,.slice A3 y.config.ay.length c3,y.config.half] _ (aY Oo.out (H1.out.ext X.out) (H2.out.ext X.out) (H3.out.ext X.out)) _ T1.out).mono ?_);rintro e w7 ⟨rfl,hx7⟩;replace X:=ah (X.out.trans hx7);replace QA:=ah (QA.out.ext hx7);clear hx7 qa;have qa:=QA.out.cell) | (go_at_call 100;(with_reducible refine (kZ (S:=S) y.nodes _ _ (H4.out.ext X.out) _ T3.out).mono ?_);rintro e w7 ⟨rfl,hx7⟩;replace X:=ah (X.out.trans hx7);replace QA:=ah (QA.out.ext hx7);clear hx7 qa;have qa:=QA.out.cell) | (go_at_call 101;(with_reducible refine (lg (S:=S) y.tasks _ _ (H5.out.ext X.out) _ T4.out).mono ?_);rintro e w7 ⟨rfl,hx7⟩;replace X:=ah (X.out.trans hx7);replace QA:=ah (QA.out.ext hx7);clear hx7 qa;have qa:=QA.out.cell) | (go_at_call 102;(with_reducible refine (lV (S:=S) y.uses _ _ (H6.out.ext X.out) _ T5.out).mono ?_);rintro e w7 ⟨rfl,hx7⟩;replace X:=ah (X.out.trans hx7);replace QA:=ah (QA.out.ext hx7);clear hx7 qa;have qa:=QA.out.cell) | (go_at_call 103;(with_reducible refine (qJ _ _ _ T6.out).mono ?_);rintro e w8 ⟨rfl,rfl⟩));go_ret;exact ⟨au HN.out.symm,X.out⟩
          | true =>
            have HH:Hid (fF y=true):=ah (by simp [fF,T1.out,HL.out,T3.out,T4.out,T5.out,T6.out]);have hcl:=Eo T1.out;have Xw:Hid (y.config.nodes.length≤6):=ah (pY hcl).2;have HCL:=ah hcl;have HLT:=ah (zZ T4.out);clear hcl;go_upto_region 3 with (first | (go_at_call 99;(with_reducible refine (iE (S:=S) y.config [.slice A1 y.config.nodes.length c1,.slice A2 y.config.pairs.length c2,.slice A3 y.config.ay.length c3,y.config.half] _ (aY Oo.out (H1.out.ext X.out) (H2.out.ext X.out) (H3.out.ext X.out)) _ T1.out).mono ?_);rintro e w7 ⟨rfl,hx7⟩;replace X:=ah (X.out.trans hx7);replace QA:=ah (QA.out.ext hx7);clear hx7 qa;have qa:=QA.out.cell) | (go_at_call 100;(with_reducible refine (kZ (S:=S) y.nodes _ _ (H4.out.ext X.out) _ T3.out).mono ?_);rintro e w7 ⟨rfl,hx7⟩;replace X:=ah (X.out.trans hx7);replace QA:=ah (QA.out.ext hx7);clear hx7 qa;have qa:=QA.out.cell) | (go_at_call 101;(with_reducible refine (lg (S:=S) y.tasks _ _ (H5.out.ext X.out) _ T4.out).mono ?_);rintro e w7 ⟨rfl,hx7⟩;replace X:=ah (X.out.trans hx7);replace QA:=ah (QA.out.ext hx7);clear hx7 qa;have qa:=QA.out.cell) | (go_at_call 102;(with_reducible refine (lV (S:=S) y.uses _ _ (H6.out.ext X.out) _ T5.out).mono ?_);rintro e w7 ⟨rfl,hx7⟩;replace X:=ah (X.out.trans hx7);replace QA:=ah (QA.out.ext hx7);clear hx7 qa;have qa:=QA.out.cell) | (go_at_call 103;(with_reducible refine (qJ _ _ _ T6.out).mono ?_);rintro e w8 ⟨rfl,rfl⟩))
            clear hl2;go_upto_region 4 with (fail)
            clear qa;obtain ⟨W3,B3,hW3,hB3,hx3,b3⟩:∃ W B,W=w7.alloc (.cells #[.bool false,.bool false,.bool false,.bool false,.bool false,.bool false] 155)∧B=w7.heap.size∧Ext w7 W∧aF W B 155 (kE fun _=>false):=⟨_,_,rfl,rfl,(Ext.refl w7).alloc _,aF.new _ _ _⟩
            rw [← hW3,← hB3];have X3:=ah hx3;have Q3:=ah b3;have HB3:Hid (w7.heap.size≤B3):=ah (by omega);have HNE:Hid (B∉[B3]):=ah (by have:=QA.out.lt;simp;omega);clear hW3 hB3 hx3 b3;have qa:W3.cell? ⟨B,5,none⟩=some (.slice A5 y.tasks.length c5):=(QA.out.ext X3.out).cell 5;go_wp2_with fail;clear qa;go_loopw [51] (fun i w'=>∃ k:Nat,k≤y.tasks.length∧i=.int .i64 k∧(∀ j,j < k→kG y j=true)∧aF w' B3 155 (kE (nM (y.tasks.take k)))∧Kept [B3] W3 w'∧Ext w7 w') (fun i _=>y.tasks.length - (intOf i).toNat);case atStart=>exact ⟨0,by omega,rfl,fun j hj=>by omega,by rw [Oh];exact Q3.out,Kept.refl _ _,X3.out⟩
            case round =>
             obtain ⟨k,hk1,rfl,hall,hb3,hkp,hx⟩:=hrel;have HA:=ah hall;have HB:=ah hb3;have HKp:=ah hkp;have HX:=ah hx;clear hall hb3 hkp;by_cases hlt:k < y.tasks.length
             · obtain ⟨b,o,cs,rfl,_,⟨vt,rfl,hft,hrt⟩,hc⟩:=HK.out k hlt;obtain ⟨AT,cT,rfl,lt1,lt2,htk⟩:=hrt.open_;unfold maxLen at lt2;have hxw:=X.out.trans hx;have z0:=Ext.some hxw (hc 0 _ rfl);have z1:=Ext.some hxw (hc 1 _ rfl);have z2:=Ext.some hxw (hc 2 _ rfl);have z3:=Ext.some hxw (hc 3 _ rfl);have z4:=Ext.some hxw (hc 4 _ rfl);have z5:=Ext.some hxw (hc 5 _ rfl);have z6:=Ext.some hxw (hc 6 _ rfl);have z7:=Ext.some hxw (hc 7 _ rfl);have z8:=Ext.some hxw (hc 8 _ rfl);have z9:=Ext.some hxw (hc 9 _ rfl);have z10:=Ext.some hxw (hc 10 _ rfl);have z11:=Ext.some hxw (hc 11 _ rfl);have z12:=Ext.some hxw (hc 12 _ rfl);have z13:=Ext.some hxw (hc 13 _ rfl);simp only [ETask,Nat.add_zero] at z0 z1 z2 z3 z4 z5 z6 z7 z8 z9 z10 z11 z12 z13;have yC:=ah hft;have Uu:=ah hrt;have DY:=ah htk;have HTR:=ah (qF T4.out hlt);clear hc hft hrt htk hx hxw;go_upto_region 7 with (fail)
               obtain ⟨W5,B5,IZ,Hz,hx5,b5⟩:∃ W B,W=wr.alloc (.cells (Rt (nth y.tasks k) (.slice AT (nth y.tasks k).nodes.length cT)) 76)∧B=wr.heap.size∧Ext wr W∧aF W B 76 (Rt (nth y.tasks k) (.slice AT (nth y.tasks k).nodes.length cT)):=⟨_,_,rfl,rfl,(Ext.refl wr).alloc _,aF.new _ _ _⟩
               rw [← IZ,← Hz];have HB5:Hid (B5∉[B3]):=ah (by have:=HB.out.lt;simp;omega);have X5:=ah (HX.out.trans hx5);have Q5:=ah b5;have QB:=ah (HB.out.ext hx5);have K5:=ah (HKp.out.trans (Kept.dw (F:=[B3]) hx5));clear IZ Hz hx5 b5 z0 z1 z2 z3 z4 z5 z6 z7 z8 z9 z10 z11 z12 z13;have qa:=(QA.out.ext X5.out).cell;have qt:=Q5.out.cell;obtain ⟨t,ht⟩:∃ t,lu y.config.nodes y.now (nth y.tasks k)=t:=⟨_,rfl⟩
               have T:=ah ht;clear ht;cases t with
               | false =>
                 have HN:=ah (Aq hlt (N8 T.out));go_wp2_with (go_at_call 104;(with_reducible refine (Jr (S:=S) (S':=S) y (nth y.tasks k) _ _ _ (gB HF.out (H1.out.ext (X.out.trans X5.out)) (H2.out.ext (X.out.trans X5.out)) (H3.out.ext (X.out.trans X5.out)) (H4.out.ext (X.out.trans X5.out)) (H5.out.ext (X.out.trans X5.out)) (H6.out.ext (X.out.trans X5.out))) (eU yC.out (Uu.out.ext (X.out.trans X5.out))) Xw.out T6.out HTR.out _ T.out).mono ?_);rintro e w8 ⟨rfl,eu⟩;have X8:=ah eu;clear eu qa qt);go_ret;exact ⟨au HN.out.symm,X.out.trans (X5.out.trans X8.out)⟩
               | true =>
                 go_upto_region 9 with (go_at_call 104;(with_reducible refine (Jr (S:=S) (S':=S) y (nth y.tasks k) _ _ _ (gB HF.out (H1.out.ext (X.out.trans X5.out)) (H2.out.ext (X.out.trans X5.out)) (H3.out.ext (X.out.trans X5.out)) (H4.out.ext (X.out.trans X5.out)) (H5.out.ext (X.out.trans X5.out)) (H6.out.ext (X.out.trans X5.out))) (eU yC.out (Uu.out.ext (X.out.trans X5.out))) Xw.out T6.out HTR.out _ T.out).mono ?_);rintro e w8 ⟨rfl,eu⟩;have X8:=ah eu;clear eu qa qt)
                 replace Q5:=ah (Q5.out.ext X8.out);replace QB:=ah (QB.out.ext X8.out);replace K5:=ah (K5.out.trans (Kept.dw (F:=[B3]) X8.out));replace X5:=ah (X5.out.trans X8.out);have qt:w8.cell? ⟨B5,13,none⟩=some (.slice AT (nth y.tasks k).nodes.length cT):=Q5.out.cell 13;go_wp2_with fail;clear qt;go_loopw [62] (fun i w'=>∃ j:Nat,j≤(nth y.tasks k).nodes.length∧i=.int .i64 j∧(∀ m,m < j→mM y.tasks k m=false)∧aF w' B3 155 (kE (jE y.tasks k j))∧Kept [B3] w8 w'∧Ext w7 w') (fun i _=>(nth y.tasks k).nodes.length - (intOf i).toNat);case atStart=>exact ⟨0,by omega,rfl,fun j hj=>by omega,by rw [Jq];exact QB.out,Kept.refl _ _,X5.out⟩
                 case round =>
                  obtain ⟨j,hj1,rfl,Lp,hbj,hkj,hxj⟩:=hrel;have HC:=ah Lp;have HBJ:=ah hbj;have HKJ:=ah hkj;have HXJ:=ah hxj;have Q5J:Hid (aF wr B5 76 _):=ah ((hkj.block B5 Q5.out.lt HB5.out).trans Q5.out);clear Lp hbj hkj;by_cases hjt:j < (nth y.tasks k).nodes.length
                  · obtain ⟨b',o',cs',rfl,_,⟨rfl,hfn⟩,hc'⟩:=DY.out j hjt;have z0:=Ext.some (X.out.trans hxj) (hc' 0 _ rfl);simp only [fC,Nat.mul_one,Nat.add_zero] at z0;have s9:wr.cell? ⟨B5,11,none⟩=some (.int .i64 (nth y.tasks k).state):=Q5J.out.cell 11;obtain ⟨p0,p5⟩:=zA HTR.out hjt;have hge:(nth (nth y.tasks k).nodes j) < 6:=by omega
                    have tk:=HBJ.out.cell (nth (nth y.tasks k).nodes j).toNat;rw [P9 p0 p5] at tk;have fz:=HBJ.out.frozen (nth (nth y.tasks k).nodes j).toNat;have P0:=ah p0;have P5:=ah p5;have ac1:=ah (HBJ.out.bQ (nth (nth y.tasks k).nodes j).toNat);have HJ:=ah hjt;clear hc' hfn hxj p5;obtain ⟨u,hu⟩:∃ u,jE y.tasks k j (nth (nth y.tasks k).nodes j)=u:=⟨_,rfl⟩
                    rw [hu] at tk;have U:=ah hu;clear hu;by_cases hs:(nth y.tasks k).state=2
                    · have HR:Hid (dP (nth y.tasks k)=true):=ah (by simp [dP,hs]);cases u with
                      | true =>
                        have HN:=ah (Aq hlt (N7 hjt (by rw [mM,HR.out,U.out];rfl)));go_wp2_with fail;go_ret;exact ⟨au HN.out.symm,X.out.trans HXJ.out⟩
                      | false =>
                        have HG:=ah (all_succ (p:=fun m=>mM y.tasks k m=false) HC.out (by rw [mM,HR.out,U.out];rfl));go_wp2_with fail;go_roundw;case rel=>exact ⟨j+1,by omega,by go_num,HG.out,by rw [← NZ HJ.out HR.out P0.out P5.out];exact ac1.out _,HKJ.out.setCell (List.mem_cons_self ..) _,HXJ.out.setCell HB3.out _⟩
                        case measure=>simp [intOf];omega
                    · have HR:Hid (dP (nth y.tasks k)=false):=ah (by simp [dP,hs]);have hsb:((nth y.tasks k).state == 2)=false:=by simp [hs]
                      have HG:=ah (all_succ (p:=fun m=>mM y.tasks k m=false) HC.out (by rw [mM,HR.out];rfl));cases u with
                      | true =>
                        go_wp2_with fail;go_roundw;case rel=>exact ⟨j+1,by omega,by go_num,HG.out,by rw [Jp HJ.out HR.out,← KD P0.out P5.out U.out];exact ac1.out _,HKJ.out.setCell (List.mem_cons_self ..) _,HXJ.out.setCell HB3.out _⟩
                        case measure=>simp [intOf];omega
                      | false =>
                        go_wp2_with fail;go_roundw;case rel=>exact ⟨j+1,by omega,by go_num,HG.out,by rw [Jp HJ.out HR.out,← KD P0.out P5.out U.out];exact ac1.out _,HKJ.out.setCell (List.mem_cons_self ..) _,HXJ.out.setCell HB3.out _⟩
                        case measure=>simp [intOf];omega
                  · obtain rfl:j=(nth y.tasks k).nodes.length:=by omega
                    have HG:=ah (all_succ (p:=fun m=>kG y m=true) HA.out (TR T.out (fun m hm=>HC.out m hm)));clear hxj;go_wp2_with fail;go_roundw;case rel=>exact ⟨k+1,by omega,by go_num,HG.out,by rw [← QO hlt];exact HBJ.out,K5.out.trans HKJ.out,HXJ.out⟩
                    case measure=>simp [intOf];omega
             · have HG:Hid (∀ i,i < y.tasks.length→kG y i=true):=ah (fun j hj=>HA.out j (by omega));have qa:=(QA.out.ext hx).cell;clear hx;replace QA:=ah (QA.out.ext HX.out);replace X:=ah (X.out.trans HX.out);go_upto_region 18 with (go_at_call 105;(with_reducible refine (qM (S:=S) y.config [.slice A1 y.config.nodes.length c1,.slice A2 y.config.pairs.length c2,.slice A3 y.config.ay.length c3,y.config.half] _ (aY Oo.out (H1.out.ext X.out) (H2.out.ext X.out) (H3.out.ext X.out)) HCL.out).mono ?_);rintro e w9 ⟨v9,F9,rfl,o9,-,jO⟩;obtain ⟨A9,c9,rfl,-⟩:=o9.form;have O9:=ah o9.rd;have H9:=ah jO;clear jO o9 qa)
               obtain ⟨W8,B8,Yf,hB8,eu,b8⟩:∃ W B,W=w9.alloc (.cells #[.slice A9 (labelsIn y.config.nodes).length c9] 134)∧B=w9.heap.size∧Ext w9 W∧aF W B 134 #[.slice A9 (labelsIn y.config.nodes).length c9]:=⟨_,_,rfl,rfl,(Ext.refl w9).alloc _,aF.new _ _ _⟩
               rw [← Yf,← hB8];replace X:=ah ((X.out.trans H9.out).trans eu);replace QA:=ah (QA.out.ext (H9.out.trans eu));have Q8:=ah b8;replace O9:=ah (O9.out.ext eu);clear Yf hB8 eu b8;have q8:=Q8.out.cell 0;simp only [List.getElem?_toArray,List.getElem?_cons_zero] at q8;obtain ⟨u,hu⟩:∃ u,(labelsIn y.config.nodes).any (wJ y)=u:=⟨_,rfl⟩
               have U:=ah hu;clear hu;cases u with
               | true =>
                 have HN:=ah (QU U.out);go_wp2_with (go_at_call 106;(with_reducible refine (rG (S:=fun b=>b∈F9) (labelsIn y.config.nodes) (wJ y) _ _ _ _ O9.out KH (fun cs a V hx hr=>QT (S:=fun b=>b∈F9) (S':=S) y a cs _ B V hr (gB HF.out (H1.out.ext (X.out.trans hx)) (H2.out.ext (X.out.trans hx)) (H3.out.ext (X.out.trans hx)) (H4.out.ext (X.out.trans hx)) (H5.out.ext (X.out.trans hx)) (H6.out.ext (X.out.trans hx))) (QA.out.ext hx) HLT.out)).mono ?_);rintro e w10 ⟨rfl,gq⟩;rw [U.out];have Rx:=ah (X.out.trans gq);have E10:=ah gq;clear gq q8);go_ret;exact ⟨au HN.out.symm,Rx.out⟩
               | false =>
                 obtain ⟨z,hz⟩:∃ z,y.uses.any (qU (labelsIn y.config.nodes))=z:=⟨_,rfl⟩
                 have Z:=ah hz;have HN:=ah (aeL HH.out HG.out U.out hz);clear hz;go_upto_region 20 with (go_at_call 106;(with_reducible refine (rG (S:=fun b=>b∈F9) (labelsIn y.config.nodes) (wJ y) _ _ _ _ O9.out KH (fun cs a V hx hr=>QT (S:=fun b=>b∈F9) (S':=S) y a cs _ B V hr (gB HF.out (H1.out.ext (X.out.trans hx)) (H2.out.ext (X.out.trans hx)) (H3.out.ext (X.out.trans hx)) (H4.out.ext (X.out.trans hx)) (H5.out.ext (X.out.trans hx)) (H6.out.ext (X.out.trans hx))) (QA.out.ext hx) HLT.out)).mono ?_);rintro e w10 ⟨rfl,gq⟩;rw [U.out];have Rx:=ah (X.out.trans gq);have E10:=ah gq;clear gq q8)
                 have q3:w10.cell? ⟨B,6,none⟩=some (.slice A6 y.uses.length c6):=(QA.out.ext E10.out).cell 6;replace Q8:=ah (Q8.out.ext E10.out);replace O9:=ah (O9.out.ext E10.out);go_wp2_with (go_at_call 110;(with_reducible refine (C9 (S:=S) y.uses (qU (labelsIn y.config.nodes)) _ _ _ _ (H6.out.ext Rx.out) XP (fun cs x V hx hr=>acM (S:=S) (S':=fun b=>b∈F9) (labelsIn y.config.nodes) x cs _ B8 V hr (O9.out.ext hx) (Q8.out.ext hx))).mono ?_);rintro e sO ⟨rfl,xg⟩;rw [Z.out];have X11:=ah (Rx.out.trans xg);clear xg q3);go_ret;exact ⟨au HN.out.symm,X11.out⟩
theorem lW {S:Nat→Prop} (y:aK) (cs:List Value) (w:World) (h:eF.rel S w cs y) (r:Bool) (hr:bD y=r) :
 Calls prog 40 #[.agg cs.toArray] w fun e w'=>e=.returned (.bool r)∧Ext w w':=by
 subst hr;exact PW y cs w h
theorem E8 {S:Nat→Prop} (l:List Node) (v:Value) (w:World) (h:Rd ENode S w v l) (r:Bool) (hr:bT l=r) :
 Calls prog 82 #[v] w fun e w'=>e=.returned (.bool r)∧Ext w w':=by
 subst hr;exact DK l v w h
theorem Fb {S:Nat→Prop} (l:List Task) (v:Value) (w:World) (h:Rd ETask S w v l) (r:Bool) (hr:bn l=r) :
 Calls prog 83 #[v] w fun e w'=>e=.returned (.bool r)∧Ext w w':=by
 subst hr;exact uJ l v w h
theorem Iy {S:Nat→Prop} (l:List Use) (v:Value) (w:World) (h:Rd dX S w v l) (r:Bool) (hr:bF l=r) :
 Calls prog 84 #[v] w fun e w'=>e=.returned (.bool r)∧Ext w w':=by
 subst hr;exact qB l v w h
theorem Yn (n:Int) (w:World) (r:Bool) (hr:vI n=r):Calls prog 80 #[.int .i64 n] w fun e w'=>e=.returned (.bool r)∧w=w':=by
 subst hr;exact MC n w
theorem xB {S:Nat→Prop} (x:Task) (cs:List Value) (w:World) (h:ETask.rel S w cs x) (s0:0≤x.start) (s1:x.start≤1000000) (l0:1≤x.long) (l1:x.long≤20) :
 Calls prog 61 #[.agg cs.toArray] w fun e w'=>e=.returned (.int .i64 (endOf x))∧Ext w w':=by
 obtain ⟨v1,rfl,hf,h1⟩:=h;obtain ⟨A1,c1,rfl,-⟩:=h1.form;clear hf h1;simp only [aB];have i1:IntKind.i64.wrap (x.start+1)=x.start+1:=IntWalk.i64_in _ (by omega);have i2:IntKind.i64.wrap (x.start+1+x.long)=x.start+1+x.long:=IntWalk.i64_in _ (by omega);go_enter func61,ntmps61;go_wp2_with fail;go_ret;exact ⟨aI (by unfold endOf;first | rfl | (rw [i1,i2]) | omega),(Ext.refl _).alloc _⟩
def wH (x:Config):List Label:=if aU x=true then labelsIn x.nodes else []
theorem Tn (x:Config) (a:Label):mO x a=if cleared (wH x) a=true then qZ x.ay a else 0:=by
 unfold mO wH;by_cases h:aU x=true
 · rw [if_pos h];by_cases g:cleared (labelsIn x.nodes) a=true
   · rw [if_pos ⟨h,g⟩,if_pos g]
   · rw [if_neg (fun k=>g k.2),if_neg g]
 · rw [if_neg h,if_neg (fun k=>h k.1),if_neg (by simp [cleared])]
theorem Iw {S:Nat→Prop} (x:Config) (cs:List Value) (w:World) (h:gV.rel S w cs x) (ls:List Label) (hl:wH x=ls) :
 Calls prog 176 #[.agg cs.toArray] w (kX eX 47 ls w):=by
 obtain ⟨v1,v2,v3,rfl,hf,h1,h2,h3⟩:=h;obtain ⟨A1,c1,rfl,-⟩:=h1.form;obtain ⟨A2,c2,rfl,-⟩:=h2.form;obtain ⟨A3,c3,rfl,-⟩:=h3.form;have HF:=ah hf;have H1:=ah h1;have H2:=ah h2;have H3:=ah h3;have HL:=ah hl;clear hf h1 h2 h3 hl;simp only [dN];obtain ⟨t,ht⟩:∃ t,aU x=t:=⟨_,rfl⟩
 have T:=ah ht;clear ht;go_enter func176,ntmps176;go_upto_region 1 with (fail)
 obtain ⟨W,B,hW,hB,hx0,a0⟩:∃ W B,W=w.alloc (.cells #[.slice A1 x.nodes.length c1,.slice A2 x.pairs.length c2,.slice A3 x.ay.length c3,x.half] 40)∧B=w.heap.size∧Ext w W∧aF W B 40 #[.slice A1 x.nodes.length c1,.slice A2 x.pairs.length c2,.slice A3 x.ay.length c3,x.half]:=⟨_,_,rfl,rfl,(Ext.refl w).alloc _,aF.new _ _ _⟩
 rw [← hW,← hB];have QA:=ah a0;have X:=ah hx0;clear hW hB hx0 a0;have q0:=QA.out.cell;cases t with
 | false =>
   have HE:Hid (ls = []):=ah (by rw [← HL.out,wH,T.out];rfl);go_upto_region 2 with (go_at_call 81;(with_reducible refine (pG (S:=S) x [.slice A1 x.nodes.length c1,.slice A2 x.pairs.length c2,.slice A3 x.ay.length c3,x.half] _ (aY HF.out (H1.out.ext X.out) (H2.out.ext X.out) (H3.out.ext X.out)) _ T.out).mono ?_);rintro e w7 ⟨rfl,hx7⟩;have X7:=ah (X.out.trans hx7);clear hx7 q0)
   go_wp2_with fail;go_ret;exact ⟨_,[w7.heap.size],rfl,by rw [HE.out];exact SY (aF.new _ _ _),fun b hb=>by rw [List.mem_singleton.1 hb];exact X7.out.size,X7.out.alloc _⟩
 | true =>
   have HE:Hid (labelsIn x.nodes=ls):=ah (by rw [← HL.out,wH,if_pos T.out]);go_wp2_with (first
    | (go_at_call 81;(with_reducible refine (pG (S:=S) x [.slice A1 x.nodes.length c1,.slice A2 x.pairs.length c2,.slice A3 x.ay.length c3,x.half] _ (aY HF.out (H1.out.ext X.out) (H2.out.ext X.out) (H3.out.ext X.out)) _ T.out).mono ?_);rintro e w7 ⟨rfl,hx7⟩;have X7:=ah (X.out.trans hx7);have QA7:=ah (QA.out.ext hx7);clear hx7 q0;have q0:=QA7.out.cell 0)
    | (go_at_call 86;(with_reducible refine (ku (S:=S) x.nodes _ _ (H1.out.ext X7.out)).mono ?_);rintro e w8 ⟨v8,F8,rfl,o8,g8,eu⟩;rw [HE.out] at o8;have O8:=ah o8;have G8:=ah g8;have X8:=ah (X7.out.trans eu);clear eu o8 g8 q0))
   go_ret;exact ⟨_,F8,rfl,O8.out,fun b hb=>Nat.le_trans X7.out.size (G8.out b hb),X8.out⟩
theorem JU {S:Nat→Prop} (x:Config) (cs:List Value) (a:Label) (w:World) (h:gV.rel S w cs x) :
 Calls prog 89 #[.agg cs.toArray,.agg (Rl a)] w fun e w'=>e=.returned (.int .i64 (mO x a))∧Ext w w':=by
 obtain ⟨v1,v2,v3,rfl,hf,h1,h2,h3⟩:=h;obtain ⟨A1,c1,rfl,-⟩:=h1.form;obtain ⟨A2,c2,rfl,-⟩:=h2.form;have H3:=ah h3;obtain ⟨A3,c3,rfl,l1,l2,hk⟩:=h3.open_;unfold maxLen at l2;have HF:=ah hf;have H1:=ah h1;have H2:=ah h2;have HK:=ah hk;clear hf h1 h2 h3 hk;simp only [dN];have XG:=ah (Tn x a);obtain ⟨ls,hls⟩:∃ ls,wH x=ls:=⟨_,rfl⟩
 have tN:=ah hls;obtain ⟨t,ht⟩:∃ t,cleared ls a=t:=⟨_,rfl⟩
 have T:=ah ht;rw [hls,ht] at XG;clear ht hls;go_enter func89,ntmps89;go_upto_region 1 with (fail)
 obtain ⟨W,B,hW,hB,hx0,a0,b0⟩:=eY w #[.slice A1 x.nodes.length c1,.slice A2 x.pairs.length c2,.slice A3 x.ay.length c3,x.half] (Rl a) 40 47;rw [← hW,← hB];have QA:=ah a0;have QB:=ah b0;have X:=ah hx0;clear hW hB hx0 a0 b0;have Ku:∀ V,Ext W V→∀ i,V.cell? ⟨B,i,none⟩=_:=fun V hx=>(QA.out.ext hx).cell;have agM:∀ V,Ext W V→∀ i,V.cell? ⟨B+1,i,none⟩=_:=fun V hx=>(QB.out.ext hx).cell;go_region_held3 (fun V=>Ext W V) (first | exact Ext.refl _ | exact (Ext.refl _).drew | assumption | exact Ext.trans (by assumption) hx7 | exact Ext.trans (by assumption) eu) (first
  | (go_at_call 176;(with_reducible refine (Iw (S:=S) x [.slice A1 x.nodes.length c1,.slice A2 x.pairs.length c2,.slice A3 x.ay.length c3,x.half] _ (aY HF.out (H1.out.ext (X.out.trans (by assumption))) (H2.out.ext (X.out.trans (by assumption))) (H3.out.ext (X.out.trans (by assumption)))) ls tN.out).mono ?_);rintro e w7 ⟨v7,F7,rfl,o7,-,hx7⟩;obtain ⟨A7,c7,rfl,-⟩:=aW.form o7;have O7:=ah (aW.rd o7);clear o7)
  | (go_at_call 87;(with_reducible refine (dU (S:=fun b=>b∈F7) ls a _ _ (by first | exact O7.out | exact O7.out.ext (by assumption) | exact O7.out.ext (Ext.refl _).drew) _ T.out).mono ?_);rintro e w8 ⟨rfl,eu⟩))
 all_goals clear Ku agM
 have X8:Hid (Ext W w8):=ah (by first | assumption | exact Ext.trans (by assumption) eu | exact Ext.drew (by assumption));cases t with
 | false =>
   go_wp2_with fail;go_ret;exact ⟨aI (by rw [XG.out];rfl),X.out.trans X8.out⟩
 | true =>
   have HE:Hid (mO x a=qZ x.ay a):=ah (by rw [XG.out,if_pos rfl]);go_wp2_with fail;go_loopw [5] (fun i w'=>∃ k:Nat,k≤x.ay.length∧i=.int .i64 k∧(∀ j,j < k→(nth x.ay j).label≠a)∧Ext W w') (fun i _=>x.ay.length - (intOf i).toNat);case atStart=>exact ⟨0,by omega,rfl,fun j hj=>by omega,X8.out⟩
   case round =>
    obtain ⟨k,hk1,rfl,hall,hx⟩:=hrel;have HA:=ah hall;have HX:=ah hx;have qa:wr.cell? ⟨B,2,none⟩=some (.slice A3 x.ay.length c3):=(QA.out.ext hx).cell 2;clear hall;by_cases hlt:k < x.ay.length
    · obtain ⟨b,o,cs,rfl,_,⟨rfl,hfit⟩,hc⟩:=HK.out k hlt;have hxw:=X.out.trans hx;have z0:=Ext.some hxw (hc 0 _ rfl);have z1:=Ext.some hxw (hc 1 _ rfl);have z2:=Ext.some hxw (hc 2 _ rfl);simp only [dJ,Nat.add_zero] at z0 z1 z2;have d0:wr.cell? ⟨B+1,0,none⟩=some (.int .i64 a.level):=(QB.out.ext hx).cell 0;have d1:wr.cell? ⟨B+1,1,none⟩=some (.int .i64 a.set):=(QB.out.ext hx).cell 1;clear hc hfit hx hxw;by_cases he:(nth x.ay k).label=a
      · have HQ:=ah (Nr hlt he HA.out);have g0:(nth x.ay k).label.level=a.level:=by rw [he]
        have g1:(nth x.ay k).label.set=a.set:=by rw [he]
        clear he;go_wp2_with fail;refine ak (by kernel_rfl) (by kernel_rfl) ?_;repeat (
         (refine wpQuiet_step (fun K hK=>?_)
          go_simp;first
           | (refine hK _ ?_;clear hK K)
           | (apply Exists.intro
              refine ⟨fun bH aj=>?_,hK _ ?_⟩
              · have al5:=Ext.some aj qa;have JW:=Ext.some aj z0;have Uf:=Ext.some aj z1;have jH:=Ext.some aj d0;have kJ:=Ext.some aj d1;first | exact rfl | (go_simp;done) | (go_simp;exact rfl)
              clear hK K)))
        refine wpQuiet_nil ?_;intro w1 hx1;have HZ:=ah hx1;replace qa:=Ext.some hx1 qa;replace z2:=Ext.some hx1 z2;clear z0 z1 d0 d1 hx1;go_wp2_with fail;go_ret;exact ⟨aI (by rw [HE.out,HQ.out]),X.out.trans (HX.out.trans HZ.out)⟩
      · have HG:=ah (all_succ (p:=fun j=>(nth x.ay j).label≠a) HA.out he);rcases nC he with g | g
        all_goals
         clear he;have jl:=@kL;go_wp2_with fail;refine ak (by kernel_rfl) (by kernel_rfl) ?_;repeat (
          (refine wpQuiet_step (fun K hK=>?_)
           go_simp;first
            | (refine hK _ ?_;clear hK K)
            | (apply Exists.intro
               refine ⟨fun bH aj=>?_,hK _ ?_⟩
               · have al5:=Ext.some aj qa;have JW:=Ext.some aj z0;have Uf:=Ext.some aj z1;have jH:=Ext.some aj d0;have kJ:=Ext.some aj d1;first | exact rfl | (go_simp;done) | (go_simp;exact rfl)
               clear hK K)))
         refine wpQuiet_nil ?_;intro w1 hx1;have HZ:=ah hx1;clear qa z0 z1 z2 d0 d1 hx1 jl;go_wp2_with fail;go_roundw;case rel=>exact ⟨k+1,by omega,by go_num,HG.out,HX.out.trans HZ.out⟩
         case measure=>simp [intOf];omega
    · have HQ:=ah (ES (qs:=x.ay) (a:=a) fun j hj=>HA.out j (by omega));clear hx;go_wp2_with fail;go_ret;exact ⟨aI (by rw [HE.out,HQ.out]),X.out.trans HX.out⟩
theorem Sz {S:Nat→Prop} (x:Config) (cs:List Value) (a:Label) (w:World) (h:gV.rel S w cs x) :
 Calls prog 174 #[.agg cs.toArray,.agg (Rl a)] w fun e w'=>e=.returned (.int .i64 (rY x.nodes a))∧Ext w w':=by
 obtain ⟨v1,v2,v3,rfl,hf,h1,h2,h3⟩:=h;obtain ⟨A1,c1,rfl,l1,l2,hk⟩:=h1.open_;unfold maxLen at l2;obtain ⟨A2,c2,rfl,-⟩:=h2.form;obtain ⟨A3,c3,rfl,-⟩:=h3.form;have HK:=ah hk;clear hf h1 h2 h3 hk;simp only [dN];go_enter func174,ntmps174;go_upto_region 1 with (fail)
 obtain ⟨W,B,hW,hB,hx0,a0,b0⟩:=eY w #[.slice A1 x.nodes.length c1,.slice A2 x.pairs.length c2,.slice A3 x.ay.length c3,x.half] (Rl a) 40 47;rw [← hW,← hB];have QA:=ah a0;have QB:=ah b0;have X:=ah hx0;clear hW hB hx0 a0 b0;go_wp2_with fail;go_loopw [5,6] (fun n i w'=>∃ k:Nat,k≤x.nodes.length∧i=.int .i64 k∧n=.int .i64 ((eP x.nodes a k).length)∧Ext W w') (fun _ i _=>x.nodes.length - (intOf i).toNat);case atStart=>exact ⟨0,by omega,rfl,rfl,Ext.refl _⟩
 case round =>
  obtain ⟨k,hk1,rfl,rfl,hx⟩:=hrel;have HX:=ah hx;have qa:wr.cell? ⟨B,0,none⟩=some (.slice A1 x.nodes.length c1):=(QA.out.ext hx).cell 0;by_cases hlt:k < x.nodes.length
  · obtain ⟨b,o,cs,rfl,_,⟨vr,rfl,hr⟩,hc⟩:=HK.out k hlt;have hxw:=X.out.trans hx;have z0:=Ext.some hxw (hc 0 _ rfl);simp only [gU,Nat.mul_one,Nat.add_zero] at z0;have HR:=ah (hr.ext hxw);have d0:wr.cell? ⟨B+1,0,none⟩=some (.int .i64 a.level):=(QB.out.ext hx).cell 0;have d1:wr.cell? ⟨B+1,1,none⟩=some (.int .i64 a.set):=(QB.out.ext hx).cell 1;have HE:=ah (ab2 x.nodes a k);have hle:=um x.nodes a k;obtain ⟨t,ht⟩:∃ t,cleared (nth x.nodes k) a=t:=⟨_,rfl⟩
    have T:=ah ht;clear hc hr hx hxw ht;generalize hn:(eP x.nodes a k).length=n at *;have HN:=ah hn;clear hn;go_wp2_with fail;refine ak (by kernel_rfl) (by kernel_rfl) ?_;repeat (
     (refine wpQuiet_step (fun K hK=>?_)
      go_simp;first
       | (refine hK _ ?_;clear hK K)
       | (apply Exists.intro
          refine ⟨fun bH aj=>?_,hK _ ?_⟩
          · have al5:=Ext.some aj qa;have JW:=Ext.some aj z0;have jH:=Ext.some aj d0;have kJ:=Ext.some aj d1;first | exact rfl | (go_simp;done) | (go_simp;exact rfl) | (go_at_call 87;exact aJ aj (dU (S:=S) (nth x.nodes k) a _ _ (HR.out.ext aj) _ T.out))
          clear hK K)))
    refine wpQuiet_nil ?_;intro w1 hx1;have HZ:=ah hx1;clear qa z0 d0 d1 hx1;cases t with
    | false =>
      go_wp2_with fail;go_roundw;case rel=>exact ⟨k+1,by omega,by go_num,by rw [HE.out,T.out,if_neg (by simp)];rfl,HX.out.trans HZ.out⟩
      case measure=>simp [intOf];omega
    | true =>
      go_wp2_with fail;go_roundw;case rel=>exact ⟨k+1,by omega,by go_num,by rw [HE.out,T.out,if_pos rfl];go_num,HX.out.trans HZ.out⟩
      case measure=>simp [intOf];omega
  · obtain rfl:k=x.nodes.length:=by omega
    clear hx;go_wp2_with fail;go_ret;exact ⟨rfl,X.out.trans HX.out⟩
theorem zo {S:Nat→Prop} (x:Config) (cs:List Value) (a:Label) (w:World) (h:gV.rel S w cs x) (n:Nat) (hn:rY x.nodes a=n) :
 Calls prog 174 #[.agg cs.toArray,.agg (Rl a)] w fun e w'=>e=.returned (.int .i64 n)∧Ext w w':=by
 subst hn;exact Sz x cs a w h
theorem ad3 {ns:List (List Label)} {a:Label} {n:Int} (h:(ns.length:Int)≤n):mJ ns a n=false:=by
 unfold mJ;rw [decide_eq_false (p:=n.toNat < ns.length) (by omega),Bool.and_false,Bool.false_and]
theorem afz {ns:List (List Label)} {a:Label} {n:Int} {t:Bool} (h0:0≤n) (h:n.toNat < ns.length) (ht:cleared (nth ns n.toNat) a=t):mJ ns a n=t:=by
 unfold mJ;rw [decide_eq_true h0,decide_eq_true h,ht];rfl
theorem D9 {α:Type} [Inhabited α] {p:α→Bool} {l:List α} {k:Nat} (hk:k < l.length) (h:p (nth l k)=false):l.all p=false :=
 List.all_eq_false.2 ⟨nth l k,bG hk,by simp [h]⟩
theorem Uy {α:Type} [Inhabited α] {p:α→Bool} {l:List α} (h:∀ k,k < l.length→p (nth l k)=true):l.all p=true:=by
 refine List.all_eq_true.2 fun x hx=>?_;obtain ⟨i,hi,rfl⟩:=List.getElem_of_mem hx;rw [← aO hi];exact h i hi
theorem adu {α:Type} [Inhabited α] {p:α→Bool} {l:List α} {k:Nat} (hk:k < l.length) (h:p (nth l k)=true):l.any p=true :=
 List.any_eq_true.2 ⟨nth l k,bG hk,h⟩
theorem any_none {α:Type} [Inhabited α] {p:α→Bool} {l:List α} (h:∀ k,k < l.length→p (nth l k)=false):l.any p=false:=by
 refine List.any_eq_false.2 fun x hx=>?_;obtain ⟨i,hi,rfl⟩:=List.getElem_of_mem hx;rw [← aO hi,h i hi];simp
theorem Vx {S S':Nat→Prop} (y:aK) (x:Task) (cs ds:List Value) (w:World) (h:eF.rel S w cs y) (g:ETask.rel S' w ds x) (hn:y.nodes.length=y.config.nodes.length) (hw:vI y.now=true) (ht:bJ x=true) :
 Calls prog 85 #[.agg cs.toArray,.agg ds.toArray] w fun e w'=>e=.returned (.bool (lu y.config.nodes y.now x))∧Ext w w':=by
 obtain ⟨v1,v2,v3,v4,v5,v6,rfl,hf,h1,h2,h3,h4,h5,h6⟩:=h;have H1:=ah h1;obtain ⟨A1,c1,rfl,l1,m1,hk1⟩:=h1.open_;unfold maxLen at m1;obtain ⟨A2,c2,rfl,-⟩:=h2.form;obtain ⟨A3,c3,rfl,-⟩:=h3.form;obtain ⟨A4,c4,rfl,l4,m4⟩:=h4.form;unfold maxLen at m4;obtain ⟨A5,c5,rfl,-⟩:=h5.form;obtain ⟨A6,c6,rfl,-⟩:=h6.form;obtain ⟨u1,rfl,gf,g1⟩:=g;have G1:=ah g1;obtain ⟨AT,cT,rfl,lT,mT,gk⟩:=g1.open_;unfold maxLen at mT;have Oo:Hid (iC y.config):=ah hf.1;have GF:=ah gf;have H2:=ah h2;have H3:=ah h3;have HK1:=ah hk1;have GK:=ah gk;have Xw:=ah hn;have HT:=ah ht;obtain ⟨n0,n1⟩:=MV hw;have N0:=ah n0;have N1:=ah n1;clear hf gf h1 h2 h3 h4 h5 h6 g1 hk1 gk hn ht hw n0 n1;obtain ⟨n,hn⟩:∃ n,rY y.config.nodes x.label=n:=⟨_,rfl⟩
 have HN:=ah hn;have HM:Hid ((rY y.config.nodes x.label:Int)=(n:Int)):=ah (by rw [hn]);clear hn;simp only [bV,aB];go_enter func85,ntmps85;go_upto_region 1 with (fail)
 obtain ⟨W,B,hW,hB,hx0,a0,b0⟩:=eY w (Ry y A1 c1 A2 c2 A3 c3 A4 c4 A5 c5 A6 c6) (Rt x (.slice AT x.nodes.length cT)) 45 76;rw [← hW,← hB];have QA:=ah a0;have QB:=ah b0;have X:=ah hx0;clear hW hB hx0 a0 b0;have y0:W.cell? ⟨B,0,none⟩=some (.slice A1 y.config.nodes.length c1):=QA.out.cell 0;have y1:W.cell? ⟨B,1,none⟩=some (.slice A2 y.config.pairs.length c2):=QA.out.cell 1;have y2:W.cell? ⟨B,2,none⟩=some (.slice A3 y.config.ay.length c3):=QA.out.cell 2;have y3:W.cell? ⟨B,3,none⟩=some (.int .i64 y.config.half):=QA.out.cell 3;have y7:W.cell? ⟨B,7,none⟩=some (.int .i64 y.now):=QA.out.cell 7;have e0:W.cell? ⟨B+1,0,none⟩=some (.int .i64 x.label.level):=QB.out.cell 0;have e1:W.cell? ⟨B+1,1,none⟩=some (.int .i64 x.label.set):=QB.out.cell 1;have e4:W.cell? ⟨B+1,4,none⟩=some (.int .i64 x.need):=QB.out.cell 4;have e10:W.cell? ⟨B+1,10,none⟩=some (.int .i64 x.born):=QB.out.cell 10;by_cases k1:(n:Int) < x.need
 · have HE:=ah (U6 (ns:=y.config.nodes) (now:=y.now) (x:=x) (by rw [HM.out];exact k1));have hd:=decide_eq_true k1;refine ak (by kernel_rfl) (by kernel_rfl) ?_;repeat (
    (refine wpQuiet_step (fun K hK=>?_)
     go_simp;first
      | (refine hK _ ?_;clear hK K)
      | (apply Exists.intro
         refine ⟨fun bH aj=>?_,hK _ ?_⟩
         · have aaK:=Ext.some aj y0;have aeI:=Ext.some aj y1;have aeJ:=Ext.some aj y2;have aeK:=Ext.some aj y3;have aaL:=Ext.some aj y7;have oh:=Ext.some aj e0;have lX:=Ext.some aj e1;have abD:=Ext.some aj e4;have Qg:=Ext.some aj e10;first | exact rfl | (go_simp;done) | (go_simp;exact rfl) | (go_at_call 174;exact aJ aj (zo (S:=S) y.config _ x.label _ (aY Oo.out (H1.out.ext (X.out.trans aj)) (H2.out.ext (X.out.trans aj)) (H3.out.ext (X.out.trans aj))) n HN.out))
         clear hK K)))
   refine wpQuiet_nil ?_;intro w1 hx1;have X1:=ah (X.out.trans hx1);have E1:=ah hx1;clear y0 y1 y2 y3 y7 e0 e1 e4 e10 hx1;go_wp2_with fail;go_ret;exact ⟨au HE.out.symm,X1.out⟩
 have hd:=decide_eq_false k1;by_cases k2:y.now < x.born
 · have HE:=ah (Qk (ns:=y.config.nodes) (x:=x) k2);have hd2:=decide_eq_true k2;refine ak (by kernel_rfl) (by kernel_rfl) ?_;repeat (
    (refine wpQuiet_step (fun K hK=>?_)
     go_simp;first
      | (refine hK _ ?_;clear hK K)
      | (apply Exists.intro
         refine ⟨fun bH aj=>?_,hK _ ?_⟩
         · have aaK:=Ext.some aj y0;have aeI:=Ext.some aj y1;have aeJ:=Ext.some aj y2;have aeK:=Ext.some aj y3;have aaL:=Ext.some aj y7;have oh:=Ext.some aj e0;have lX:=Ext.some aj e1;have abD:=Ext.some aj e4;have Qg:=Ext.some aj e10;first | exact rfl | (go_simp;done) | (go_simp;exact rfl) | (go_at_call 174;exact aJ aj (zo (S:=S) y.config _ x.label _ (aY Oo.out (H1.out.ext (X.out.trans aj)) (H2.out.ext (X.out.trans aj)) (H3.out.ext (X.out.trans aj))) n HN.out))
         clear hK K)))
   refine wpQuiet_nil ?_;intro w1 hx1;have X1:=ah (X.out.trans hx1);have E1:=ah hx1;clear y0 y1 y2 y3 y7 e0 e1 e4 e10 hx1;go_wp2_with fail;go_ret;exact ⟨au HE.out.symm,X1.out⟩
 have hd2:=decide_eq_false k2;have HE:Hid (x.nodes.all (mJ y.config.nodes x.label)=true→lu y.config.nodes y.now x=xR y.now x):=ah (fun ht=>Le (by rw [HM.out];exact k1) k2 ht);refine ak (by kernel_rfl) (by kernel_rfl) ?_;repeat (
  (refine wpQuiet_step (fun K hK=>?_)
   go_simp;first
    | (refine hK _ ?_;clear hK K)
    | (apply Exists.intro
       refine ⟨fun bH aj=>?_,hK _ ?_⟩
       · have aaK:=Ext.some aj y0;have aeI:=Ext.some aj y1;have aeJ:=Ext.some aj y2;have aeK:=Ext.some aj y3;have aaL:=Ext.some aj y7;have oh:=Ext.some aj e0;have lX:=Ext.some aj e1;have abD:=Ext.some aj e4;have Qg:=Ext.some aj e10;first | exact rfl | (go_simp;done) | (go_simp;exact rfl) | (go_at_call 174;exact aJ aj (zo (S:=S) y.config _ x.label _ (aY Oo.out (H1.out.ext (X.out.trans aj)) (H2.out.ext (X.out.trans aj)) (H3.out.ext (X.out.trans aj))) n HN.out))
       clear hK K)))
 refine wpQuiet_nil ?_;intro w1 hx1;have X1:=ah (X.out.trans hx1);have E1:=ah hx1;clear y0 y1 y2 y3 y7 e0 e1 e4 e10 hx1;replace QA:=ah (QA.out.ext E1.out);replace QB:=ah (QB.out.ext E1.out);clear hd2;go_wp2_with fail;clear hd k1 k2;go_loopw [5] (fun i w'=>∃ k:Nat,k≤x.nodes.length∧i=.int .i64 k∧(∀ j,j < k→mJ y.config.nodes x.label (nth x.nodes j)=true)∧Ext w1 w') (fun i _=>x.nodes.length - (intOf i).toNat);case atStart=>exact ⟨0,by omega,rfl,fun j hj=>by omega,Ext.refl _⟩
 case round =>
  obtain ⟨k,hk1,rfl,hall,hx⟩:=hrel;have HA:=ah hall;have HX:=ah hx;have QAr:=ah (QA.out.ext hx);have Ux:=ah (QB.out.ext hx);clear hall;by_cases hlt:k < x.nodes.length
  · have HLT:=ah hlt;have y0:wr.cell? ⟨B,0,none⟩=some (.slice A1 y.config.nodes.length c1):=QAr.out.cell 0;have y4:wr.cell? ⟨B,4,none⟩=some (.slice A4 y.nodes.length c4):=QAr.out.cell 4;have e0:wr.cell? ⟨B+1,0,none⟩=some (.int .i64 x.label.level):=Ux.out.cell 0;have e1:wr.cell? ⟨B+1,1,none⟩=some (.int .i64 x.label.set):=Ux.out.cell 1;have e13:wr.cell? ⟨B+1,13,none⟩=some (.slice AT x.nodes.length cT):=Ux.out.cell 13;obtain ⟨b,o,cs,rfl,_,⟨rfl,hfn⟩,hc⟩:=GK.out k hlt;have hxw:=X1.out.trans hx;have z0:=Ext.some hxw (hc 0 _ rfl);simp only [fC,Nat.mul_one,Nat.add_zero] at z0;obtain ⟨p0,p5⟩:=zA HT.out hlt;clear hc hfn hx;by_cases hge:(y.nodes.length:Int)≤nth x.nodes k
    · have HF:=ah (Ld (now:=y.now) (D9 hlt (ad3 (a:=x.label) (by rw [← Xw.out];exact hge))));have hd:=decide_eq_true hge;clear hxw;go_wp2_with fail;refine ak (by kernel_rfl) (by kernel_rfl) ?_;repeat (
       (refine wpQuiet_step (fun K hK=>?_)
        go_simp;first
         | (refine hK _ ?_;clear hK K)
         | (apply Exists.intro
            refine ⟨fun bH aj=>?_,hK _ ?_⟩
            · have aaK:=Ext.some aj y0;have apv:=Ext.some aj y4;have oh:=Ext.some aj e0;have lX:=Ext.some aj e1;have UU:=Ext.some aj e13;have JW:=Ext.some aj z0;first | exact rfl | (go_simp;done) | (go_simp;exact rfl) | fail
            clear hK K)))
      refine wpQuiet_nil ?_;intro w1 hx1;have HZ:=ah hx1;clear y0 y4 e0 e1 e13 z0 hx1;go_wp2_with fail;go_ret;exact ⟨au HF.out.symm,X1.out.trans (HX.out.trans HZ.out)⟩
    · have hd:=decide_eq_false hge;have hn2:(nth x.nodes k).toNat < y.config.nodes.length:=by have:=Xw.out;omega
      have hn3:nth x.nodes k < (y.config.nodes.length:Int):=by omega
      obtain ⟨b2,o2,cs2,rfl,_,⟨vr,rfl,hr⟩,hc2⟩:=HK1.out (nth x.nodes k).toNat hn2;have r0:=Ext.some hxw (hc2 0 _ rfl);simp only [gU,Nat.mul_one,Nat.add_zero] at r0;obtain ⟨AR,cR,rfl,-⟩:=hr.form;have HR:=ah (hr.ext hxw);obtain ⟨t,ht⟩:∃ t,cleared (nth y.config.nodes (nth x.nodes k).toNat) x.label=t:=⟨_,rfl⟩
      have Ju:=ah (afz p0 hn2 ht);have T:=ah ht;clear hxw hc2 hr ht;go_wp2_with fail;refine ak (by kernel_rfl) (by kernel_rfl) ?_;repeat (
       (refine wpQuiet_step (fun K hK=>?_)
        go_simp;first
         | (refine hK _ ?_;clear hK K)
         | (apply Exists.intro
            refine ⟨fun bH aj=>?_,hK _ ?_⟩
            · have aaK:=Ext.some aj y0;have apv:=Ext.some aj y4;have oh:=Ext.some aj e0;have lX:=Ext.some aj e1;have UU:=Ext.some aj e13;have JW:=Ext.some aj z0;have auc:=Ext.some aj r0;first | exact rfl | (go_simp;done) | (go_simp;exact rfl) | (go_at_call 87;exact aJ aj (dU (S:=S) (nth y.config.nodes (nth x.nodes k).toNat) x.label _ _ (HR.out.ext aj) _ T.out))
            clear hK K)))
      refine wpQuiet_nil ?_;intro w1 hx1;have HZ:=ah hx1;clear y0 y4 e0 e1 e13 z0 r0 hx1 hd;cases t with
      | false =>
        have HF:=ah (Ld (now:=y.now) (D9 hlt Ju.out));go_wp2_with fail;go_ret;exact ⟨au HF.out.symm,X1.out.trans (HX.out.trans HZ.out)⟩
      | true =>
        have HG:=ah (all_succ (p:=fun j=>mJ y.config.nodes x.label (nth x.nodes j)=true) HA.out Ju.out);go_wp2_with fail;go_roundw;case rel=>exact ⟨k+1,by omega,by go_num,HG.out,HX.out.trans HZ.out⟩
        case measure=>simp [intOf];omega
  · have HF:=ah (HE.out (Uy fun j hj=>HA.out j (by omega)));have X9:=ah (X1.out.trans hx);clear hx;have y7:wr.cell? ⟨B,7,none⟩=some (.int .i64 y.now):=QAr.out.cell 7;have e0:wr.cell? ⟨B+1,0,none⟩=some (.int .i64 x.label.level):=Ux.out.cell 0;have e1:wr.cell? ⟨B+1,1,none⟩=some (.int .i64 x.label.set):=Ux.out.cell 1;have e2:wr.cell? ⟨B+1,2,none⟩=some (.int .i64 x.id):=Ux.out.cell 2;have e3:wr.cell? ⟨B+1,3,none⟩=some (.string x.owner):=Ux.out.cell 3;have e4:wr.cell? ⟨B+1,4,none⟩=some (.int .i64 x.need):=Ux.out.cell 4;have e5:wr.cell? ⟨B+1,5,none⟩=some (.int .i64 x.long):=Ux.out.cell 5;have e6:wr.cell? ⟨B+1,6,none⟩=some (.int .i64 x.prio):=Ux.out.cell 6;have e7:wr.cell? ⟨B+1,7,none⟩=some (.int .i64 x.under.level):=Ux.out.cell 7;have e8:wr.cell? ⟨B+1,8,none⟩=some (.int .i64 x.under.set):=Ux.out.cell 8;have e9:wr.cell? ⟨B+1,9,none⟩=some (.int .i64 x.after):=Ux.out.cell 9;have e10:wr.cell? ⟨B+1,10,none⟩=some (.int .i64 x.born):=Ux.out.cell 10;have e11:wr.cell? ⟨B+1,11,none⟩=some (.int .i64 x.state):=Ux.out.cell 11;have e12:wr.cell? ⟨B+1,12,none⟩=some (.int .i64 x.start):=Ux.out.cell 12;have e13:wr.cell? ⟨B+1,13,none⟩=some (.slice AT x.nodes.length cT):=Ux.out.cell 13;by_cases hs:x.state=2
    · have HP:=ah (Dz (now:=y.now) hs);obtain ⟨s0,s1,l0,l1⟩:=Jk HT.out hs;have SB:=ah (And.intro s0 (And.intro s1 (And.intro l0 l1)));clear s0 s1 l0 l1;by_cases hst:x.start≤y.now
      · have hd:=decide_eq_true hst;have HQ:Hid (lu y.config.nodes y.now x=decide (y.now < endOf x)):=ah (by rw [HF.out,HP.out,decide_eq_true hst,Bool.true_and]);go_wp2_with fail;clear hs;refine ak (by kernel_rfl) (by kernel_rfl) ?_;repeat (
         (refine wpQuiet_step (fun K hK=>?_)
          go_simp;first
           | (refine hK _ ?_;clear hK K)
           | (apply Exists.intro
              refine ⟨fun bH aj=>?_,hK _ ?_⟩
              · have oh:=Ext.some aj e0;have lX:=Ext.some aj e1;have uz:=Ext.some aj e2;have yR:=Ext.some aj e3;have abD:=Ext.some aj e4;have agV:=Ext.some aj e5;have afl:=Ext.some aj e6;have OD:=Ext.some aj e7;have RQ:=Ext.some aj e8;have RU:=Ext.some aj e9;have Qg:=Ext.some aj e10;have als:=Ext.some aj e11;have adC:=Ext.some aj e12;have UU:=Ext.some aj e13;have aaL:=Ext.some aj y7;first | exact rfl | (go_simp;done) | (go_simp;exact rfl) | (go_at_call 61;exact aJ aj (xB (S:=S') x _ _ (eU GF.out (G1.out.ext (X9.out.trans aj))) SB.out.1 SB.out.2.1 SB.out.2.2.1 SB.out.2.2.2))
              clear hK K)))
        refine wpQuiet_nil ?_;intro w1 hx1;have HZ:=ah (X9.out.trans hx1);clear e0 e1 e2 e3 e4 e5 e6 e7 e8 e9 e10 e11 e12 e13 y7 hx1;go_wp2_with fail;go_ret;exact ⟨au HQ.out.symm,HZ.out⟩
      · have hd:=decide_eq_false hst;have HQ:Hid (lu y.config.nodes y.now x=false):=ah (by rw [HF.out,HP.out,decide_eq_false hst,Bool.false_and]);go_wp2_with fail;clear hs;refine ak (by kernel_rfl) (by kernel_rfl) ?_;repeat (
         (refine wpQuiet_step (fun K hK=>?_)
          go_simp;first
           | (refine hK _ ?_;clear hK K)
           | (apply Exists.intro
              refine ⟨fun bH aj=>?_,hK _ ?_⟩
              · have oh:=Ext.some aj e0;have lX:=Ext.some aj e1;have uz:=Ext.some aj e2;have yR:=Ext.some aj e3;have abD:=Ext.some aj e4;have agV:=Ext.some aj e5;have afl:=Ext.some aj e6;have OD:=Ext.some aj e7;have RQ:=Ext.some aj e8;have RU:=Ext.some aj e9;have Qg:=Ext.some aj e10;have als:=Ext.some aj e11;have adC:=Ext.some aj e12;have UU:=Ext.some aj e13;have aaL:=Ext.some aj y7;first | exact rfl | (go_simp;done) | (go_simp;exact rfl) | fail
              clear hK K)))
        refine wpQuiet_nil ?_;intro w1 hx1;have HZ:=ah (X9.out.trans hx1);clear e0 e1 e2 e3 e4 e5 e6 e7 e8 e9 e10 e11 e12 e13 y7 hx1;go_wp2_with fail;go_ret;exact ⟨au HQ.out.symm,HZ.out⟩
    · by_cases hz:0 < x.nodes.length
      · have HP:=ah (zF (now:=y.now) hs hz);have hz':¬ ((x.nodes.length:Int)=0):=by omega
        have i2:IntKind.i64.wrap (y.now+40)=y.now+40:=IntWalk.i64_in _ (by have:=N0.out;have:=N1.out;omega);by_cases hp:y.now < x.start
        · by_cases hq:x.start≤y.now+40
          · have HQ:Hid (lu y.config.nodes y.now x=true):=ah (by rw [HF.out,HP.out];unfold jG;exact decide_eq_true ⟨by omega,hq⟩);go_wp2_with fail;all_goals (go_ret;exact ⟨au (by first | exact HQ.out.symm | (rw [HQ.out];go_light;first | grind | omega | simp_all)),X9.out⟩)
          · have HQ:Hid (lu y.config.nodes y.now x=false):=ah (by rw [HF.out,HP.out];unfold jG;exact decide_eq_false (fun h=>hq h.2));go_wp2_with fail;all_goals (go_ret;exact ⟨au (by first | exact HQ.out.symm | (rw [HQ.out];go_light;first | grind | omega | simp_all)),X9.out⟩)
        · have HQ:Hid (lu y.config.nodes y.now x=false):=ah (by rw [HF.out,HP.out];unfold jG;exact decide_eq_false (fun h=>hp (by omega)));go_wp2_with fail;all_goals (go_ret;exact ⟨au (by first | exact HQ.out.symm | (rw [HQ.out];go_light;first | grind | omega | simp_all)),X9.out⟩)
      · have HQ:Hid (lu y.config.nodes y.now x=true):=ah (by rw [HF.out,Nk hs hz]);have hz':(x.nodes.length:Int)=0:=by omega
        go_wp2_with fail;all_goals (go_ret;exact ⟨au (by first | exact HQ.out.symm | (rw [HQ.out];go_light;first | grind | omega | simp_all)),X9.out⟩)
theorem MG {S S':Nat→Prop} (y:aK) (x:Task) (cs ds:List Value) (w:World) (h:eF.rel S w cs y) (g:ETask.rel S' w ds x) (hn:y.nodes.length=y.config.nodes.length) (hw:vI y.now=true) (ht:bJ x=true) (r:Bool) (hr:lu y.config.nodes y.now x=r) :
 Calls prog 85 #[.agg cs.toArray,.agg ds.toArray] w fun e w'=>e=.returned (.bool r)∧Ext w w':=by
 subst hr;exact Vx y x cs ds w h g hn hw ht
theorem adZ (w:World):(Instr.makeSlice 132 (.int .i64 6) (.int .i64 6)).run prog w=.ok (.slice (some ⟨w.heap.size,0,none⟩) 6 6) (w.alloc (.cells (kE fun _=>false) 4)):=by
 obtain ⟨i,i1,i2,i3,i4⟩:=info_parts (P:=prog) (e:=4) (z:=.bool false) (size:=1) (bytes:=1) (by kernel_rfl);have h:=run_make (P:=prog) w 132 4 i _ underlying132 i1 i2 .i64 .i64 6 6 (by decide) (by decide) (by rw [i4];decide) (by decide);have e:madeCells (Value.bool false).cells (Int.toNat 6 * 1)=kE (fun _=>false):=by kernel_rfl
 rw [i3,e] at h;exact h
theorem ab1 {l:List Task} {a:Label} (h:bn l=true):xG l a=(wI l a:Int):=by rw [xG,if_pos h]
theorem CJ {S:Nat→Prop} (l:List Task) (a:Label) (v:Value) (w:World) (h:Rd ETask S w v l) (r:Int) (hr:xG l a=r) :
 Calls prog 88 #[v,.agg (Rl a)] w fun e w'=>e=.returned (.int .i64 r)∧Ext w w':=by
 subst hr;exact NR l a v w h
theorem zL {S:Nat→Prop} (x:Config) (cs:List Value) (a:Label) (w:World) (h:gV.rel S w cs x) (r:Int) (hr:mO x a=r) :
 Calls prog 89 #[.agg cs.toArray,.agg (Rl a)] w fun e w'=>e=.returned (.int .i64 r)∧Ext w w':=by
 subst hr;exact JU x cs a w h
theorem Fe {S:Nat→Prop} (y:aK) (cs:List Value) (w:World) (h:eF.rel S w cs y) :
 Calls prog 30 #[.agg cs.toArray] w fun e w'=>e=.returned (.bool (bD y))∧Ext w w':=by
 obtain ⟨v1,v2,v3,v4,v5,v6,rfl,hf,h1,h2,h3,h4,h5,h6⟩:=h;obtain ⟨A1,c1,rfl,-⟩:=h1.form;obtain ⟨A2,c2,rfl,-⟩:=h2.form;obtain ⟨A3,c3,rfl,-⟩:=h3.form;obtain ⟨A4,c4,rfl,-⟩:=h4.form;have H5:=ah h5;obtain ⟨A5,c5,rfl,l5,m5,hk5⟩:=h5.open_;unfold maxLen at m5;have H6:=ah h6;obtain ⟨A6,c6,rfl,l6,m6,hk6⟩:=h6.open_;unfold maxLen at m6;have HF:=ah hf;have Oo:Hid (iC y.config):=ah hf.1;have H1:=ah h1;have H2:=ah h2;have H3:=ah h3;have H4:=ah h4;have HK:=ah hk5;have HK6:=ah hk6;clear hf h1 h2 h3 h4 h5 h6 hk5 hk6;simp only [bV];obtain ⟨t1,ht1⟩:∃ t,aU y.config=t:=⟨_,rfl⟩
 obtain ⟨t3,ht3⟩:∃ t,bT y.nodes=t:=⟨_,rfl⟩
 obtain ⟨t4,Vg⟩:∃ t,bn y.tasks=t:=⟨_,rfl⟩
 obtain ⟨t5,ht5⟩:∃ t,bF y.uses=t:=⟨_,rfl⟩
 obtain ⟨t6,ht6⟩:∃ t,vI y.now=t:=⟨_,rfl⟩
 have T1:=ah ht1;have T3:=ah ht3;have T4:=ah Vg;have T5:=ah ht5;have T6:=ah ht6;clear ht1 ht3 Vg ht5 ht6;go_enter func30,ntmps30;go_upto_region 1 with (fail)
 obtain ⟨W,B,hW,hB,hx0,b0⟩:∃ W B,W=w.alloc (.cells (Ry y A1 c1 A2 c2 A3 c3 A4 c4 A5 c5 A6 c6) 45)∧B=w.heap.size∧Ext w W∧aF W B 45 (Ry y A1 c1 A2 c2 A3 c3 A4 c4 A5 c5 A6 c6):=⟨_,_,rfl,rfl,(Ext.refl w).alloc _,aF.new _ _ _⟩
 rw [← hW,← hB];have QA:=ah b0;have X:=ah hx0;clear hW hB hx0 b0;have qa:=QA.out.cell;cases t6
 case' false =>
  have HN:=ah (kM (y:=y) (by simp [fF,T6.out]))
 case' true =>
  cases t1
  case' false =>
   have HN:=ah (kM (y:=y) (by simp [fF,T1.out]))
  case' true =>
   cases t3
   case' false =>
    have HN:=ah (kM (y:=y) (by simp [fF,T3.out]))
   case' true =>
    by_cases hl:y.nodes.length=y.config.nodes.length
    case' neg =>
     have hl':¬ ((y.nodes.length:Int)=(y.config.nodes.length:Int)):=by omega
     have HN:=ah (kM (y:=y) (by simp [fF,hl]))
    case' pos =>
     have HL:=ah hl;have hl2:((y.nodes.length:Int) != (y.config.nodes.length:Int))=false:=by simp [hl]
     clear hl;cases t4
     case' false =>
      have HN:=ah (kM (y:=y) (by simp [fF,T4.out]))
     case' true =>
      cases t5
      case' false =>
       have HN:=ah (kM (y:=y) (by simp [fF,T5.out]))
      case' true =>
       have HH:Hid (fF y=true):=ah (by simp [fF,T1.out,HL.out,T3.out,T4.out,T5.out,T6.out])
 all_goals go_upto_region 3 with (first | (go_at_call 81;(with_reducible refine (pG (S:=S) y.config [.slice A1 y.config.nodes.length c1,.slice A2 y.config.pairs.length c2,.slice A3 y.config.ay.length c3,y.config.half] _ (aY Oo.out (H1.out.ext X.out) (H2.out.ext X.out) (H3.out.ext X.out)) _ T1.out).mono ?_);rintro e w7 ⟨rfl,hx7⟩;replace X:=ah (X.out.trans hx7);replace QA:=ah (QA.out.ext hx7);clear hx7 qa;have qa:=QA.out.cell) | (go_at_call 82;(with_reducible refine (E8 (S:=S) y.nodes _ _ (H4.out.ext X.out) _ T3.out).mono ?_);rintro e w7 ⟨rfl,hx7⟩;replace X:=ah (X.out.trans hx7);replace QA:=ah (QA.out.ext hx7);clear hx7 qa;have qa:=QA.out.cell) | (go_at_call 83;(with_reducible refine (Fb (S:=S) y.tasks _ _ (H5.out.ext X.out) _ T4.out).mono ?_);rintro e w7 ⟨rfl,hx7⟩;replace X:=ah (X.out.trans hx7);replace QA:=ah (QA.out.ext hx7);clear hx7 qa;have qa:=QA.out.cell) | (go_at_call 84;(with_reducible refine (Iy (S:=S) y.uses _ _ (H6.out.ext X.out) _ T5.out).mono ?_);rintro e w7 ⟨rfl,hx7⟩;replace X:=ah (X.out.trans hx7);replace QA:=ah (QA.out.ext hx7);clear hx7 qa;have qa:=QA.out.cell) | (go_at_call 80;(with_reducible refine (Yn _ _ _ T6.out).mono ?_);rintro e w8 ⟨rfl,rfl⟩))
 all_goals (try (go_ret;exact ⟨au HN.out.symm,X.out⟩))
 clear hl2;clear qa;obtain ⟨W3,B3,hW3,hB3,hx3,b3⟩:∃ W B,W=w7.alloc (.cells (kE fun _=>false) 4)∧B=w7.heap.size∧Ext w7 W∧aF W B 4 (kE fun _=>false):=⟨_,_,rfl,rfl,(Ext.refl w7).alloc _,aF.new _ _ _⟩
 have hmk:=adZ w7;rw [← hW3,← hB3] at hmk;have X3:=ah hx3;have Q3:=ah b3;have HB3:Hid (w7.heap.size≤B3):=ah (by omega);have HNE:Hid (B∉[B3]):=ah (by have:=QA.out.lt;simp;omega);clear hW3 hB3 hx3 b3;go_wp2_with fail;clear hmk;go_loopw [4] (fun i w'=>∃ k:Nat,k≤y.tasks.length∧i=.int .i64 k∧(∀ j,j < k→kG y j=true)∧aF w' B3 4 (kE (nM (y.tasks.take k)))∧Ext w7 w') (fun i _=>y.tasks.length - (intOf i).toNat);case atStart=>exact ⟨0,by omega,rfl,fun j hj=>by omega,by rw [Oh];exact Q3.out,X3.out⟩
 case round =>
  obtain ⟨k,hk1,rfl,hall,hb3,hx⟩:=hrel;have HA:=ah hall;have HB:=ah hb3;have HX:=ah hx;have ya:wr.cell? ⟨B,5,none⟩=some (.slice A5 y.tasks.length c5):=(QA.out.ext hx).cell 5;clear hall hb3;by_cases hlt:k < y.tasks.length
  · obtain ⟨b,o,cs,rfl,_,⟨vt,rfl,hft,hrt⟩,hc⟩:=HK.out k hlt;obtain ⟨AT,cT,rfl,lt1,lt2,htk⟩:=hrt.open_;unfold maxLen at lt2;have hxw:=X.out.trans hx;have z0:=Ext.some hxw (hc 0 _ rfl);have z1:=Ext.some hxw (hc 1 _ rfl);have z2:=Ext.some hxw (hc 2 _ rfl);have z3:=Ext.some hxw (hc 3 _ rfl);have z4:=Ext.some hxw (hc 4 _ rfl);have z5:=Ext.some hxw (hc 5 _ rfl);have z6:=Ext.some hxw (hc 6 _ rfl);have z7:=Ext.some hxw (hc 7 _ rfl);have z8:=Ext.some hxw (hc 8 _ rfl);have z9:=Ext.some hxw (hc 9 _ rfl);have z10:=Ext.some hxw (hc 10 _ rfl);have z11:=Ext.some hxw (hc 11 _ rfl);have z12:=Ext.some hxw (hc 12 _ rfl);have z13:=Ext.some hxw (hc 13 _ rfl);simp only [ETask,Nat.add_zero] at z0 z1 z2 z3 z4 z5 z6 z7 z8 z9 z10 z11 z12 z13;have yC:=ah hft;have Uu:=ah hrt;have DY:=ah htk;have HTR:=ah (qF T4.out hlt);clear hc hft hrt htk hx hxw;go_upto_region 8 with (fail)
    obtain ⟨W5,B5,IZ,Hz,hx5,b5⟩:∃ W B,W=wr.alloc (.cells (Rt (nth y.tasks k) (.slice AT (nth y.tasks k).nodes.length cT)) 76)∧B=wr.heap.size∧Ext wr W∧aF W B 76 (Rt (nth y.tasks k) (.slice AT (nth y.tasks k).nodes.length cT)):=⟨_,_,rfl,rfl,(Ext.refl wr).alloc _,aF.new _ _ _⟩
    rw [← IZ,← Hz];have HB5:Hid (B5∉[B3]):=ah (by have:=HB.out.lt;simp;omega);have X5:=ah (HX.out.trans hx5);have Q5:=ah b5;have QB:=ah (HB.out.ext hx5);clear IZ Hz hx5 b5 z0 z1 z2 z3 z4 z5 z6 z7 z8 z9 z10 z11 z12 z13 ya;have qa:=(QA.out.ext X5.out).cell;have qt:=Q5.out.cell;obtain ⟨t,ht⟩:∃ t,lu y.config.nodes y.now (nth y.tasks k)=t:=⟨_,rfl⟩
    have T:=ah ht;clear ht;cases t with
    | false =>
      have HN:=ah (Aq hlt (N8 T.out));go_wp2_with (go_at_call 85;(with_reducible refine (MG (S:=S) (S':=S) y (nth y.tasks k) _ _ _ (gB HF.out (H1.out.ext (X.out.trans X5.out)) (H2.out.ext (X.out.trans X5.out)) (H3.out.ext (X.out.trans X5.out)) (H4.out.ext (X.out.trans X5.out)) (H5.out.ext (X.out.trans X5.out)) (H6.out.ext (X.out.trans X5.out))) (eU yC.out (Uu.out.ext (X.out.trans X5.out))) HL.out T6.out HTR.out _ T.out).mono ?_);rintro e w8 ⟨rfl,eu⟩;have X8:=ah eu;clear eu qa qt);go_ret;exact ⟨au HN.out.symm,X.out.trans (X5.out.trans X8.out)⟩
    | true =>
      go_upto_region 10 with (go_at_call 85;(with_reducible refine (MG (S:=S) (S':=S) y (nth y.tasks k) _ _ _ (gB HF.out (H1.out.ext (X.out.trans X5.out)) (H2.out.ext (X.out.trans X5.out)) (H3.out.ext (X.out.trans X5.out)) (H4.out.ext (X.out.trans X5.out)) (H5.out.ext (X.out.trans X5.out)) (H6.out.ext (X.out.trans X5.out))) (eU yC.out (Uu.out.ext (X.out.trans X5.out))) HL.out T6.out HTR.out _ T.out).mono ?_);rintro e w8 ⟨rfl,eu⟩;have X8:=ah eu;clear eu qa qt)
      replace Q5:=ah (Q5.out.ext X8.out);replace QB:=ah (QB.out.ext X8.out);replace X5:=ah (X5.out.trans X8.out);go_wp2_with fail;go_loopw [6] (fun i w'=>∃ j:Nat,j≤(nth y.tasks k).nodes.length∧i=.int .i64 j∧(∀ m,m < j→mM y.tasks k m=false)∧aF w' B3 4 (kE (jE y.tasks k j))∧Kept [B3] w8 w'∧Ext w7 w') (fun i _=>(nth y.tasks k).nodes.length - (intOf i).toNat);case atStart=>exact ⟨0,by omega,rfl,fun j hj=>by omega,by rw [Jq];exact QB.out,Kept.refl _ _,X5.out⟩
      case round =>
       obtain ⟨j,hj1,rfl,Lp,hbj,hkj,hxj⟩:=hrel;have HC:=ah Lp;have HBJ:=ah hbj;have HKJ:=ah hkj;have HXJ:=ah hxj;have Q5J:Hid (aF wr B5 76 _):=ah ((hkj.block B5 Q5.out.lt HB5.out).trans Q5.out);have s9:wr.cell? ⟨B5,11,none⟩=some (.int .i64 (nth y.tasks k).state):=Q5J.out.cell 11;have s13:wr.cell? ⟨B5,13,none⟩=some (.slice AT (nth y.tasks k).nodes.length cT):=Q5J.out.cell 13;clear Lp hbj hkj;by_cases hs:(nth y.tasks k).state=2
       · have HR:Hid (dP (nth y.tasks k)=true):=ah (by simp [dP,hs]);by_cases hjt:j < (nth y.tasks k).nodes.length
         · obtain ⟨b',o',cs',rfl,_,⟨rfl,hfn⟩,hc'⟩:=DY.out j hjt;have z0:=Ext.some (X.out.trans hxj) (hc' 0 _ rfl);simp only [fC,Nat.mul_one,Nat.add_zero] at z0;obtain ⟨p0,p5⟩:=zA HTR.out hjt;have hge:(nth (nth y.tasks k).nodes j) < 6:=by omega
           have tk:=HBJ.out.cell (nth (nth y.tasks k).nodes j).toNat;rw [P9 p0 p5] at tk;have fz:=HBJ.out.frozen (nth (nth y.tasks k).nodes j).toNat;have P0:=ah p0;have P5:=ah p5;have ac1:=ah (HBJ.out.bQ (nth (nth y.tasks k).nodes j).toNat);have HJ:=ah hjt;clear hc' hfn hxj p5;obtain ⟨u,hu⟩:∃ u,jE y.tasks k j (nth (nth y.tasks k).nodes j)=u:=⟨_,rfl⟩
           rw [hu] at tk;have U:=ah hu;clear hu;cases u with
           | true =>
             have HN:=ah (Aq hlt (N7 hjt (by rw [mM,HR.out,U.out];rfl)));go_wp2_with fail;go_ret;exact ⟨au HN.out.symm,X.out.trans HXJ.out⟩
           | false =>
             have HG:=ah (all_succ (p:=fun m=>mM y.tasks k m=false) HC.out (by rw [mM,HR.out,U.out];rfl));go_wp2_with fail;go_roundw;case rel=>exact ⟨j+1,by omega,by go_num,HG.out,by rw [← NZ HJ.out HR.out P0.out P5.out];exact ac1.out _,HKJ.out.setCell (List.mem_cons_self ..) _,HXJ.out.setCell HB3.out _⟩
             case measure=>simp [intOf];omega
         · obtain rfl:j=(nth y.tasks k).nodes.length:=by omega
           have HG:=ah (all_succ (p:=fun m=>kG y m=true) HA.out (TR T.out (fun m hm=>HC.out m hm)));clear hxj;go_wp2_with fail;go_roundw;case rel=>exact ⟨k+1,by omega,by go_num,HG.out,by rw [← QO hlt];exact HBJ.out,HXJ.out⟩
           case measure=>simp [intOf];omega
       · have HR:Hid (dP (nth y.tasks k)=false):=ah (by simp [dP,hs]);have HG:=ah (all_succ (p:=fun m=>kG y m=true) HA.out (TR T.out (fun m hm=>by rw [mM,HR.out];rfl)));have HBE:Hid (aF wr B3 4 (kE (nM (y.tasks.take (k+1))))):=ah (by have h:=HBJ.out;rwa [show jE y.tasks k j=nM (y.tasks.take (k+1)) from funext fun n=>by rw [NY n HR.out,acH n hlt HR.out]] at h);clear hxj;by_cases hjt:j < (nth y.tasks k).nodes.length
         · go_wp2_with fail;go_roundw;case rel=>exact ⟨k+1,by omega,by go_num,HG.out,HBE.out,HXJ.out⟩
           case measure=>simp [intOf];omega
         · go_wp2_with fail;go_roundw;case rel=>exact ⟨k+1,by omega,by go_num,HG.out,HBE.out,HXJ.out⟩
           case measure=>simp [intOf];omega
  · have HG:Hid (∀ i,i < y.tasks.length→kG y i=true):=ah (fun j hj=>HA.out j (by omega));replace QA:=ah (QA.out.ext hx);replace X:=ah (X.out.trans hx);have qa:=QA.out.cell;clear hx;go_upto_region 17 with (go_at_call 86;(with_reducible refine (ku (S:=S) y.config.nodes _ _ (H1.out.ext X.out)).mono ?_);rintro e w9 ⟨v9,F9,rfl,o9,-,jO⟩;obtain ⟨A9,c9,rfl,l9,m9,hk9⟩:=Rd.open_ o9.rd;unfold maxLen at m9;have HK9:=ah hk9;have O9:=ah o9.rd;have H9:=ah jO;clear jO o9 hk9 qa)
    replace X:=ah (X.out.trans H9.out);replace QA:=ah (QA.out.ext H9.out);generalize hls:labelsIn y.config.nodes=ls at *;have tN:=ah hls;clear hls;go_wp2_with fail;go_loopw [8] (fun i w'=>∃ k:Nat,k≤y.uses.length∧i=.int .i64 k∧(∀ j,j < k→qU ls (nth y.uses j)=false)∧Ext w9 w') (fun i _=>y.uses.length - (intOf i).toNat);case atStart=>exact ⟨0,by omega,rfl,fun j hj=>by omega,Ext.refl _⟩
    case round =>
     obtain ⟨i,hi1,rfl,hall,hx⟩:=hrel;have HU:=ah hall;have HX6:=ah hx;have ya:wr.cell? ⟨B,6,none⟩=some (.slice A6 y.uses.length c6):=(QA.out.ext hx).cell 6;clear hall;by_cases hit:i < y.uses.length
     · obtain ⟨b',o',cs',rfl,_,⟨rfl,hfu⟩,hc'⟩:=HK6.out i hit;have hxw:=X.out.trans hx;have z0:=Ext.some hxw (hc' 0 _ rfl);have z1:=Ext.some hxw (hc' 1 _ rfl);have z2:=Ext.some hxw (hc' 2 _ rfl);have z3:=Ext.some hxw (hc' 3 _ rfl);simp only [dX,Nat.add_zero] at z0 z1 z2 z3;obtain ⟨t,ht⟩:∃ t,cleared ls (nth y.uses i).label=t:=⟨_,rfl⟩
       have T:=ah ht;have HI:=ah hit;clear hc' hfu hx hxw ht;cases t with
       | false =>
         have HN:=ah (aeM (y:=y) (by rw [tN.out];exact adu hit (by rw [qU,T.out];rfl)));go_wp2_with (go_at_call 87;(with_reducible refine (dU (S:=fun b=>b∈F9) ls (nth y.uses i).label _ _ (O9.out.ext HX6.out) _ T.out).mono ?_);rintro e w10 ⟨rfl,gq⟩;have Rx:=ah gq;clear gq z0 z1 z2 z3 ya);go_ret;exact ⟨au HN.out.symm,X.out.trans (HX6.out.trans Rx.out)⟩
       | true =>
         have HG2:=ah (all_succ (p:=fun j=>qU ls (nth y.uses j)=false) HU.out (by rw [qU,T.out];rfl));go_wp2_with (go_at_call 87;(with_reducible refine (dU (S:=fun b=>b∈F9) ls (nth y.uses i).label _ _ (O9.out.ext HX6.out) _ T.out).mono ?_);rintro e w10 ⟨rfl,gq⟩;have Rx:=ah gq;clear gq z0 z1 z2 z3 ya);go_roundw;case rel=>exact ⟨i+1,by omega,by go_num,HG2.out,HX6.out.trans Rx.out⟩
         case measure=>simp [intOf];omega
     · have HU2:Hid (y.uses.any (qU ls)=false):=ah (any_none fun j hj=>HU.out j (by omega));clear hx;go_wp2_with fail;clear ya;go_loopw [9] (fun i w'=>∃ k:Nat,k≤ls.length∧i=.int .i64 k∧(∀ j,j < k→wJ y (nth ls j)=false)∧Ext w9 w') (fun i _=>ls.length - (intOf i).toNat);case atStart=>exact ⟨0,by omega,rfl,fun j hj=>by omega,HX6.out⟩
       case round =>
        obtain ⟨n,hn1,rfl,hall,hx⟩:=hrel;have HO:=ah hall;have HX9:=ah hx;clear hall;by_cases hnt:n < ls.length
        · obtain ⟨b',o',cs',rfl,_,⟨rfl,hfl⟩,hc'⟩:=HK9.out n hnt;have z0:=Ext.some hx (hc' 0 _ rfl);have z1:=Ext.some hx (hc' 1 _ rfl);simp only [aH,Nat.add_zero] at z0 z1;have y0:wr.cell? ⟨B,0,none⟩=some (.slice A1 y.config.nodes.length c1):=(ah (QA.out.ext hx)).out.cell 0;have y1:wr.cell? ⟨B,1,none⟩=some (.slice A2 y.config.pairs.length c2):=(ah (QA.out.ext hx)).out.cell 1;have y2:wr.cell? ⟨B,2,none⟩=some (.slice A3 y.config.ay.length c3):=(ah (QA.out.ext hx)).out.cell 2;have y3:wr.cell? ⟨B,3,none⟩=some (.int .i64 y.config.half):=(ah (QA.out.ext hx)).out.cell 3;have y5:wr.cell? ⟨B,5,none⟩=some (.slice A5 y.tasks.length c5):=(ah (QA.out.ext hx)).out.cell 5;obtain ⟨p,hp⟩:∃ p,xG y.tasks (nth ls n)=p:=⟨_,rfl⟩
          obtain ⟨q,hq⟩:∃ q,mO y.config (nth ls n)=q:=⟨_,rfl⟩
          have HOV:Hid (wJ y (nth ls n)=decide (q < p)):=ah (by rw [wJ,hq,← ab1 T4.out,hp]);have LP:=ah hp;have QP:=ah hq;have XR:=ah (X.out.trans hx);clear hc' hfl hx hp hq;by_cases hpq:q < p
          · have HN:=ah (QU (y:=y) (by rw [tN.out];exact adu hnt (by rw [HOV.out];exact decide_eq_true hpq)));go_wp2_with fail;refine ak (by kernel_rfl) (by kernel_rfl) ?_;repeat (
             (refine wpQuiet_step (fun K hK=>?_)
              go_simp;first
               | (refine hK _ ?_;clear hK K)
               | (apply Exists.intro
                  refine ⟨fun bH aj=>?_,hK _ ?_⟩
                  · have aaK:=Ext.some aj y0;have aeI:=Ext.some aj y1;have aeJ:=Ext.some aj y2;have aeK:=Ext.some aj y3;have amJ:=Ext.some aj y5;have JW:=Ext.some aj z0;have Uf:=Ext.some aj z1;first | exact rfl | (go_simp;done) | (go_simp;exact rfl) | (go_at_call 88;exact aJ aj (CJ (S:=S) y.tasks (nth ls n) _ _ (H5.out.ext (XR.out.trans aj)) p LP.out)) | (go_at_call 89;exact aJ aj (zL (S:=S) y.config _ (nth ls n) _ (aY Oo.out (H1.out.ext (XR.out.trans aj)) (H2.out.ext (XR.out.trans aj)) (H3.out.ext (XR.out.trans aj))) q QP.out))
                  clear hK K)))
            refine wpQuiet_nil ?_;intro w1 hx1;have HZ:=ah hx1;clear y0 y1 y2 y3 y5 z0 z1 hx1;go_wp2_with fail;go_ret;exact ⟨au HN.out.symm,XR.out.trans HZ.out⟩
          · have HG3:=ah (all_succ (p:=fun j=>wJ y (nth ls j)=false) HO.out (by rw [HOV.out];exact decide_eq_false hpq));go_wp2_with fail;refine ak (by kernel_rfl) (by kernel_rfl) ?_;repeat (
             (refine wpQuiet_step (fun K hK=>?_)
              go_simp;first
               | (refine hK _ ?_;clear hK K)
               | (apply Exists.intro
                  refine ⟨fun bH aj=>?_,hK _ ?_⟩
                  · have aaK:=Ext.some aj y0;have aeI:=Ext.some aj y1;have aeJ:=Ext.some aj y2;have aeK:=Ext.some aj y3;have amJ:=Ext.some aj y5;have JW:=Ext.some aj z0;have Uf:=Ext.some aj z1;first | exact rfl | (go_simp;done) | (go_simp;exact rfl) | (go_at_call 88;exact aJ aj (CJ (S:=S) y.tasks (nth ls n) _ _ (H5.out.ext (XR.out.trans aj)) p LP.out)) | (go_at_call 89;exact aJ aj (zL (S:=S) y.config _ (nth ls n) _ (aY Oo.out (H1.out.ext (XR.out.trans aj)) (H2.out.ext (XR.out.trans aj)) (H3.out.ext (XR.out.trans aj))) q QP.out))
                  clear hK K)))
            refine wpQuiet_nil ?_;intro w1 hx1;have HZ:=ah hx1;clear y0 y1 y2 y3 y5 z0 z1 hx1;go_wp2_with fail;go_roundw;case rel=>exact ⟨n+1,by omega,by go_num,HG3.out,HX9.out.trans HZ.out⟩
            case measure=>simp [intOf];omega
        · have HN:=ah (afJ HH.out HG.out (by rw [tN.out];exact any_none fun j hj=>HO.out j (by omega)) (by rw [tN.out];exact HU2.out));clear hx;go_wp2_with fail;go_ret;exact ⟨au HN.out.symm,X.out.trans HX9.out⟩
theorem jy {S:Nat→Prop} (y:aK) (cs:List Value) (w:World) (h:eF.rel S w cs y) (r:Bool) (hr:bD y=r) :
 Calls prog 30 #[.agg cs.toArray] w fun e w'=>e=.returned (.bool r)∧Ext w w':=by
 subst hr;exact Fe y cs w h
end Go.Proofs.YtbdicafambkhdaaGreat
