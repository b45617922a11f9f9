/- How each of the program's types of data lies in memory. Printed by wip/gen.py. -/
import Derived.Test.YtbdicafambkhdaaGreatLib
import Derived.Test.YtbdicafambkhdaaGreatRows
import Derived.Deep.RegionHeld3
set_option maxHeartbeats 4000000
namespace Go.Proofs.YtbdicafambkhdaaGreat
open Go.Proofs.Tryz
open Go.RowKit
def Str (s:ByteArray):Prop:=s.size≤maxLen
def fC:Elem Int where
 size:=1
 rel:=fun _ _ cs x=>cs = [.int .i64 x]∧I64 x
 len:=by rintro _ _ _ _ ⟨rfl,_⟩;rfl
 keep:=fun _ h=>h
 sub:=fun _ h=>h
 one:=by rintro _ _ _ _ ⟨rfl,_⟩;simp [Value.oneCell']
def gU {α:Type} (E:Elem α):Elem (List α) where
 size:=1
 rel:=fun S w cs x=>∃ v,cs = [v]∧Rd E S w v x
 len:=by rintro _ _ _ _ ⟨v,rfl,_⟩;rfl
 keep:=by rintro _ _ _ _ _ hs ⟨v,rfl,h⟩;exact ⟨v,rfl,h.keep hs⟩
 sub:=by rintro _ _ _ _ _ hs ⟨v,rfl,h⟩;exact ⟨v,rfl,h.sub hs⟩
 one:=by
  rintro _ _ _ _ ⟨v,rfl,h⟩ u hu;simp only [List.mem_cons,List.not_mem_nil,or_false] at hu;rw [hu];exact h.one
def nO (x:Span):List Value:=[x.from_,x.jA]
def wP (x:Span):Prop:=I64 x.from_∧I64 x.jA
def dM:Elem Span where
 size:=2
 rel:=fun _ _ cs x=>cs=nO x∧wP x
 len:=by rintro _ _ _ _ ⟨rfl,_⟩;rfl
 keep:=fun _ h=>h
 sub:=fun _ h=>h
 one:=by rintro _ _ _ _ ⟨rfl,_⟩;simp [nO,Value.oneCell']
theorem WE {S:Nat→Prop} {w:World} {x:Span} (hf:wP x):dM.rel S w [x.from_,x.jA] x:=⟨rfl,hf⟩
def aQ (x:Label):List Value:=[x.level,x.set]
def aP (x:Label):Prop:=I64 x.level∧I64 x.set
def aH:Elem Label where
 size:=2
 rel:=fun _ _ cs x=>cs=aQ x∧aP x
 len:=by rintro _ _ _ _ ⟨rfl,_⟩;rfl
 keep:=fun _ h=>h
 sub:=fun _ h=>h
 one:=by rintro _ _ _ _ ⟨rfl,_⟩;simp [aQ,Value.oneCell']
theorem aC {S:Nat→Prop} {w:World} {x:Label} (hf:aP x):aH.rel S w [x.level,x.set] x:=⟨rfl,hf⟩
def lG (x:Node) (v1:Value):List Value:=[x.state,v1]
def JX (x:Node):Prop:=I64 x.state
def ENode:Elem Node where
 size:=2
 rel:=fun S w cs x=>∃ v1,cs=lG x v1∧JX x∧Rd dM S w v1 x.books
 len:=by rintro _ _ _ _ ⟨v1,rfl,_⟩;rfl
 keep:=by rintro _ _ _ _ _ hs ⟨v1,rfl,hf,h1⟩;exact ⟨v1,rfl,hf,h1.keep hs⟩
 sub:=by rintro _ _ _ _ _ hs ⟨v1,rfl,hf,h1⟩;exact ⟨v1,rfl,hf,h1.sub hs⟩
 one:=by
  rintro _ _ _ _ ⟨v1,rfl,_,h1⟩ u hu;have o1:=h1.one;simp only [lG,List.mem_cons,List.not_mem_nil,or_false] at hu;rcases hu with rfl | rfl <;> first | rfl | assumption
def kN (x:Use):List Value:=[x.label.level,x.label.set,.string x.owner,x.used]
def wQ (x:Use):Prop:=I64 x.label.level∧I64 x.label.set∧Str x.owner∧I64 x.used
def dX:Elem Use where
 size:=4
 rel:=fun _ _ cs x=>cs=kN x∧wQ x
 len:=by rintro _ _ _ _ ⟨rfl,_⟩;rfl
 keep:=fun _ h=>h
 sub:=fun _ h=>h
 one:=by rintro _ _ _ _ ⟨rfl,_⟩;simp [kN,Value.oneCell']
theorem jh {S:Nat→Prop} {w:World} {x:Use} (hf:wQ x):dX.rel S w [x.label.level,x.label.set,.string x.owner,x.used] x:=⟨rfl,hf⟩
def aB (x:Task) (v1:Value):List Value:=[x.label.level,x.label.set,x.id,.string x.owner,x.need,x.long,x.prio,x.under.level,x.under.set,x.after,x.born,x.state,x.start,v1]
def eH (x:Task):Prop:=I64 x.label.level∧I64 x.label.set∧I64 x.id∧Str x.owner∧I64 x.need∧I64 x.long∧I64 x.prio∧I64 x.under.level∧I64 x.under.set∧I64 x.after∧I64 x.born∧I64 x.state∧I64 x.start
def ETask:Elem Task where
 size:=14
 rel:=fun S w cs x=>∃ v1,cs=aB x v1∧eH x∧Rd fC S w v1 x.nodes
 len:=by rintro _ _ _ _ ⟨v1,rfl,_⟩;rfl
 keep:=by rintro _ _ _ _ _ hs ⟨v1,rfl,hf,h1⟩;exact ⟨v1,rfl,hf,h1.keep hs⟩
 sub:=by rintro _ _ _ _ _ hs ⟨v1,rfl,hf,h1⟩;exact ⟨v1,rfl,hf,h1.sub hs⟩
 one:=by
  rintro _ _ _ _ ⟨v1,rfl,_,h1⟩ u hu;have o1:=h1.one;simp only [aB,List.mem_cons,List.not_mem_nil,or_false] at hu;rcases hu with rfl | rfl | rfl | rfl | rfl | rfl | rfl | rfl | rfl | rfl | rfl | rfl | rfl | rfl <;> first | rfl | assumption
theorem eU {S:Nat→Prop} {w:World} {x:Task} {v1:Value} (hf:eH x) (h1:Rd fC S w v1 x.nodes):ETask.rel S w [x.label.level,x.label.set,x.id,.string x.owner,x.need,x.long,x.prio,x.under.level,x.under.set,x.after,x.born,x.state,x.start,v1] x:=⟨_,rfl,hf,h1⟩
def fM (x:Pair):List Value:=[x.from_.level,x.from_.set,x.jA.level,x.jA.set,x.rate]
def nN (x:Pair):Prop:=I64 x.from_.level∧I64 x.from_.set∧I64 x.jA.level∧I64 x.jA.set∧I64 x.rate
def fA:Elem Pair where
 size:=5
 rel:=fun _ _ cs x=>cs=fM x∧nN x
 len:=by rintro _ _ _ _ ⟨rfl,_⟩;rfl
 keep:=fun _ h=>h
 sub:=fun _ h=>h
 one:=by rintro _ _ _ _ ⟨rfl,_⟩;simp [fM,Value.oneCell']
def mY (x:jk):List Value:=[x.label.level,x.label.set,x.most]
def rE (x:jk):Prop:=I64 x.label.level∧I64 x.label.set∧I64 x.most
def dJ:Elem jk where
 size:=3
 rel:=fun _ _ cs x=>cs=mY x∧rE x
 len:=by rintro _ _ _ _ ⟨rfl,_⟩;rfl
 keep:=fun _ h=>h
 sub:=fun _ h=>h
 one:=by rintro _ _ _ _ ⟨rfl,_⟩;simp [mY,Value.oneCell']
def dN (x:Config) (v1 v2 v3:Value):List Value:=[v1,v2,v3,x.half]
def iC (x:Config):Prop:=I64 x.half
def gV:Elem Config where
 size:=4
 rel:=fun S w cs x=>∃ v1 v2 v3,cs=dN x v1 v2 v3∧iC x∧Rd (gU aH) S w v1 x.nodes∧Rd fA S w v2 x.pairs∧Rd dJ S w v3 x.ay
 len:=by rintro _ _ _ _ ⟨v1,v2,v3,rfl,_⟩;rfl
 keep:=by rintro _ _ _ _ _ hs ⟨v1,v2,v3,rfl,hf,h1,h2,h3⟩;exact ⟨v1,v2,v3,rfl,hf,h1.keep hs,h2.keep hs,h3.keep hs⟩
 sub:=by rintro _ _ _ _ _ hs ⟨v1,v2,v3,rfl,hf,h1,h2,h3⟩;exact ⟨v1,v2,v3,rfl,hf,h1.sub hs,h2.sub hs,h3.sub hs⟩
 one:=by
  rintro _ _ _ _ ⟨v1,v2,v3,rfl,_,h1,h2,h3⟩ u hu;have o1:=h1.one;have o2:=h2.one;have o3:=h3.one;simp only [dN,List.mem_cons,List.not_mem_nil,or_false] at hu;rcases hu with rfl | rfl | rfl | rfl <;> first | rfl | assumption
theorem aY {S:Nat→Prop} {w:World} {x:Config} {v1 v2 v3:Value} (hf:iC x) (h1:Rd (gU aH) S w v1 x.nodes) (h2:Rd fA S w v2 x.pairs) (h3:Rd dJ S w v3 x.ay):gV.rel S w [v1,v2,v3,x.half] x:=⟨_,_,_,rfl,hf,h1,h2,h3⟩
def bV (x:aK) (v1 v2 v3 v4 v5 v6:Value):List Value:=[v1,v2,v3,x.config.half,v4,v5,v6,x.now]
def qV (x:aK):Prop:=I64 x.config.half∧I64 x.now
def eF:Elem aK where
 size:=8
 rel:=fun S w cs x=>∃ v1 v2 v3 v4 v5 v6,cs=bV x v1 v2 v3 v4 v5 v6∧qV x∧Rd (gU aH) S w v1 x.config.nodes∧Rd fA S w v2 x.config.pairs∧Rd dJ S w v3 x.config.ay∧Rd ENode S w v4 x.nodes∧Rd ETask S w v5 x.tasks∧Rd dX S w v6 x.uses
 len:=by rintro _ _ _ _ ⟨v1,v2,v3,v4,v5,v6,rfl,_⟩;rfl
 keep:=by rintro _ _ _ _ _ hs ⟨v1,v2,v3,v4,v5,v6,rfl,hf,h1,h2,h3,h4,h5,h6⟩;exact ⟨v1,v2,v3,v4,v5,v6,rfl,hf,h1.keep hs,h2.keep hs,h3.keep hs,h4.keep hs,h5.keep hs,h6.keep hs⟩
 sub:=by rintro _ _ _ _ _ hs ⟨v1,v2,v3,v4,v5,v6,rfl,hf,h1,h2,h3,h4,h5,h6⟩;exact ⟨v1,v2,v3,v4,v5,v6,rfl,hf,h1.sub hs,h2.sub hs,h3.sub hs,h4.sub hs,h5.sub hs,h6.sub hs⟩
 one:=by
  rintro _ _ _ _ ⟨v1,v2,v3,v4,v5,v6,rfl,_,h1,h2,h3,h4,h5,h6⟩ u hu;have o1:=h1.one;have o2:=h2.one;have o3:=h3.one;have o4:=h4.one;have o5:=h5.one;have o6:=h6.one;simp only [bV,List.mem_cons,List.not_mem_nil,or_false] at hu;rcases hu with rfl | rfl | rfl | rfl | rfl | rfl | rfl | rfl <;> first | rfl | assumption
theorem gB {S:Nat→Prop} {w:World} {x:aK} {v1 v2 v3 v4 v5 v6:Value} (hf:qV x) (h1:Rd (gU aH) S w v1 x.config.nodes) (h2:Rd fA S w v2 x.config.pairs) (h3:Rd dJ S w v3 x.config.ay) (h4:Rd ENode S w v4 x.nodes) (h5:Rd ETask S w v5 x.tasks) (h6:Rd dX S w v6 x.uses):eF.rel S w [v1,v2,v3,x.config.half,v4,v5,v6,x.now] x:=⟨_,_,_,_,_,_,rfl,hf,h1,h2,h3,h4,h5,h6⟩
def bY (x:Place) (v1:Value):List Value:=[x.label.level,x.label.set,x.id,x.from_,x.jA,.bool x.runs,v1]
def iQ (x:Place):Prop:=I64 x.label.level∧I64 x.label.set∧I64 x.id∧I64 x.from_∧I64 x.jA
def dG:Elem Place where
 size:=7
 rel:=fun S w cs x=>∃ v1,cs=bY x v1∧iQ x∧Rd fC S w v1 x.nodes
 len:=by rintro _ _ _ _ ⟨v1,rfl,_⟩;rfl
 keep:=by rintro _ _ _ _ _ hs ⟨v1,rfl,hf,h1⟩;exact ⟨v1,rfl,hf,h1.keep hs⟩
 sub:=by rintro _ _ _ _ _ hs ⟨v1,rfl,hf,h1⟩;exact ⟨v1,rfl,hf,h1.sub hs⟩
 one:=by
  rintro _ _ _ _ ⟨v1,rfl,_,h1⟩ u hu;have o1:=h1.one;simp only [bY,List.mem_cons,List.not_mem_nil,or_false] at hu;rcases hu with rfl | rfl | rfl | rfl | rfl | rfl | rfl <;> first | rfl | assumption
theorem ach {S:Nat→Prop} {w:World} {x:Place} {v1:Value} (hf:iQ x) (h1:Rd fC S w v1 x.nodes):dG.rel S w [x.label.level,x.label.set,x.id,x.from_,x.jA,.bool x.runs,v1] x:=⟨_,rfl,hf,h1⟩
end Go.Proofs.YtbdicafambkhdaaGreat
/- The walks of the small functions that only compute. -/
namespace Go.Proofs.YtbdicafambkhdaaGreat
open Go.Proofs.Tryz
open Go.RowKit
attribute [local irreducible] wpQuiet
theorem fG (n a b:Int) (w:World) :
 Calls prog 32 #[.int .i64 n,.int .i64 a,.int .i64 b] w fun e w'=>e=.returned (.bool (jG n a b))∧w=w':=by
 go_enter func32,ntmps32;go_wp2;all_goals (go_ret;exact ⟨by simp [jG];try omega,rfl⟩)
theorem bI (n a b:Int) (w:World) :
 Calls prog 42 #[.int .i64 n,.int .i64 a,.int .i64 b] w fun e w'=>e=.returned (.bool (jG n a b))∧w=w':=by
 go_enter func42,ntmps42;go_wp2;all_goals (go_ret;exact ⟨by simp [jG];try omega,rfl⟩)
theorem uZ (n:Int) (w:World) :
 Calls prog 249 #[.int .i64 n] w fun e w'=>e=.returned (.bool (oD n))∧w=w':=by
 go_enter func249,ntmps249;go_wp2_with (go_at_call 32;refine (fG _ _ _ _).mono ?_;rintro e w' ⟨rfl,rfl⟩);go_ret;exact ⟨rfl,rfl⟩
theorem xq (n:Int) (w:World) :
 Calls prog 265 #[.int .i64 n] w fun e w'=>e=.returned (.bool (oD n))∧w=w':=by
 go_enter func265,ntmps265;go_wp2_with (go_at_call 42;refine (bI _ _ _ _).mono ?_;rintro e w' ⟨rfl,rfl⟩);go_ret;exact ⟨rfl,rfl⟩
end Go.Proofs.YtbdicafambkhdaaGreat
/- The walks of the comparisons: cmp.Compare,cmp.Or,compareLabels. -/
namespace Go.Proofs.YtbdicafambkhdaaGreat
open Go.Proofs.Tryz
open Go.RowKit
attribute [local irreducible] wpQuiet
def mQ (a b:Int):Int:=if a < b then -1 else if b < a then 1 else 0
def vW:List Int→Int
 | []=>0
 | x :: l=>if x=0 then vW l else x
theorem Nc {l:List Int} {k:Nat} (hk:k < l.length) (h:∀ j,j < k→nth l j=0) (hp:nth l k≠0):vW l=nth l k:=by
 induction l generalizing k with
 | nil=>simp at hk
 | cons x l ih =>
   unfold vW;cases k with
   | zero=>rw [if_neg (by simpa [nth] using hp)];simp [nth]
   | succ k =>
     have h0:x=0:=by have:=h 0 (by omega);simpa [nth] using this
     rw [if_pos h0];have e:nth (x :: l) (k+1)=nth l k:=by simp [nth]
     rw [e] at hp ⊢;exact ih (by simpa using hk) (fun j hj=>by have:=h (j+1) (by omega);simpa [nth] using this) hp
theorem Qx {l:List Int} (h:∀ j,j < l.length→nth l j=0):vW l=0:=by
 induction l with
 | nil=>rfl
 | cons x l ih =>
   unfold vW;have h0:x=0:=by have:=h 0 (by simp);simpa [nth] using this
   rw [if_pos h0];exact ih fun j hj=>by have:=h (j+1) (by simp;omega);simpa [nth] using this
theorem Ej (a b:Int):I64 (mQ a b):=by unfold mQ I64;split <;> (try split) <;> omega
theorem abU (n:Int) (w:World):Calls prog 273 #[.int .i64 n] w fun e w'=>e=.returned (.bool false)∧w=w':=by
 go_enter func273,ntmps273;go_wp2;go_ret;exact ⟨by simp,rfl⟩
theorem yN (a b:Int) (w:World):Calls prog 216 #[.int .i64 a,.int .i64 b] w fun e w'=>e=.returned (.int .i64 (mQ a b))∧w=w':=by
 go_enter func216,ntmps216;go_wp2_with (go_at_call 273;refine (abU _ _).mono ?_;rintro e w' ⟨rfl,rfl⟩);all_goals (go_ret;exact ⟨aI (by unfold mQ;(repeat' split) <;> omega),rfl⟩)
theorem ad6 {S:Nat→Prop} (l:List Int) (v:Value) (w:World) (h:Rd fC S w v l) :
 Calls prog 215 #[v] w fun e w'=>e=.returned (.int .i64 (vW l))∧Ext w w':=by
 obtain ⟨A,c,rfl,h1,h2,hk⟩:=h.open_;unfold maxLen at h2;have HK:=ah hk;clear hk h;go_enter func215,ntmps215;go_wp2_with fail;go_loopw [8] (fun i w'=>∃ k:Nat,k≤l.length∧i=.int .i64 k∧(∀ j,j < k→nth l j=0)∧Ext w w') (fun i _=>l.length - (intOf i).toNat);case atStart=>exact ⟨0,by omega,rfl,fun j hj=>by omega,Ext.refl _⟩
 case round =>
  obtain ⟨k,hk1,rfl,hall,hx⟩:=hrel;have HA:=ah hall;have HX:=ah hx;clear hall;by_cases hlt:k < l.length
  · obtain ⟨b,o,cs,rfl,_,⟨rfl,_⟩,hc⟩:=HK.out k hlt;have c0:=Ext.some hx (hc 0 _ rfl);simp only [fC,Nat.mul_one,Nat.add_zero] at c0;clear hc hx;by_cases he:nth l k=0
    · have HE:=ah he;have e1:(nth l k != 0)=false:=by simp [he]
      clear he;go_wp2_with fail;go_roundw;case rel=>exact ⟨k+1,by omega,by go_num,all_succ HA.out HE.out,HX.out⟩
      case measure=>simp [intOf];omega
    · have HE:=ah he;have e1:(nth l k != 0)=true:=by simp [he]
      clear he;go_wp2_with fail;go_ret;exact ⟨aI (Nc hlt HA.out HE.out).symm,HX.out⟩
  · have HE:=ah (Qx (l:=l) fun j hj=>HA.out j (by omega));go_wp2_with fail;go_ret;exact ⟨aI HE.out.symm,HX.out⟩
theorem Tt (w:World) (a b:Int) (T:TypeId) (ha:I64 a) (hb:I64 b):Rd fC (fun _=>True) (w.alloc (.cells #[.int .i64 a,.int .i64 b] T)) (.slice (some ⟨w.heap.size,0,none⟩) 2 2) [a,b]:=by
 refine ⟨_,_,rfl,Nat.le_refl _,by decide,fun k x hk=>?_⟩;have hB:=aF.new w T #[.int .i64 a,.int .i64 b];rcases k with _ | _ | k
 · obtain rfl:a=x:=by simpa using hk
   exact ⟨_,_,_,rfl,trivial,⟨rfl,ha⟩,fun j u hj=>by
    rcases j with _ | j
    · rw [show (0+0 * fC.size+0:Nat)=0 from rfl,hB.cell 0];simpa using hj
    · simp at hj⟩
 · obtain rfl:b=x:=by simpa using hk
   exact ⟨_,_,_,rfl,trivial,⟨rfl,hb⟩,fun j u hj=>by
    rcases j with _ | j
    · rw [show (0+(0+1) * fC.size+0:Nat)=1 from rfl,hB.cell 1];simpa using hj
    · simp at hj⟩
 · simp at hk
def bW (a b:Label):Int:=vW [mQ a.level b.level,mQ a.set b.set]
theorem qg {S S':Nat→Prop} (a b:Label) (cs ds:List Value) (w:World) (h:aH.rel S w cs a) (g:aH.rel S' w ds b) :
 Calls prog 117 #[.agg cs.toArray,.agg ds.toArray] w fun e w'=>e=.returned (.int .i64 (bW a b))∧Ext w w':=by
 obtain ⟨rfl,hi⟩:=h;obtain ⟨rfl,gi⟩:=g;clear hi gi;simp only [aQ];go_enter func117,ntmps117;go_upto_region 1 with (fail)
 obtain ⟨W,B,hW,hB,hx0,a0,b0⟩:=eY w (Rl a) (Rl b) 47 47;rw [← hW,← hB];clear hW hB;have XX:=ah hx0;have al:∀ V,Ext W V→∀ i,V.cell? ⟨B,i,none⟩=_:=fun V hx=>(a0.ext hx).cell;have bl:∀ V,Ext W V→∀ i,V.cell? ⟨B+1,i,none⟩=_:=fun V hx=>(b0.ext hx).cell;clear hx0 a0 b0;go_region_held3 (fun w'=>Ext W w') (first | exact (Ext.refl _).drew | assumption | exact Ext.alloc (by assumption) _ | exact Ext.trans (by assumption) jO) (first | (go_at_call 216;refine (yN _ _ _).mono ?_;rintro e w1 ⟨rfl,rfl⟩) | (go_at_call 215;refine (ad6 [mQ a.level b.level,mQ a.set b.set] _ _ ((Tt W _ _ _ (Ej _ _) (Ej _ _)).ext (Ext.refl _).drew)).mono ?_;rintro e w9 ⟨rfl,jO⟩));all_goals
  clear al bl;go_wp2_with fail;go_ret;exact ⟨rfl,XX.out.trans (by assumption)⟩
end Go.Proofs.YtbdicafambkhdaaGreat
/- The walks of NameRight,the program's and the reference's: both answer nameRight. The walks of LabelRight,isWork,isNow and WishRight,the program's and the reference's. -/
namespace Go.Proofs.YtbdicafambkhdaaGreat
open Go.Proofs.Tryz
open Go.RowKit
attribute [local irreducible] wpQuiet
def byteAt (s:ByteArray) (k:Nat):Nat:=if h:k < s.size then (s[k]'h).toNat else 0
theorem Gl {s:ByteArray} {k:Nat} (h:k < s.size):(s[k]'h).toNat=byteAt s k:=by rw [byteAt,dif_pos h]
theorem Qc (s:ByteArray) (k:Nat):byteAt s k < 256:=by
 unfold byteAt;split
 · exact (s[k]).toNat_lt
 · decide
def ML (c:Nat):Bool:=decide (97≤c∧c≤122)
def WG (c:Nat):Bool:=ML c || decide (48≤c∧c≤57) || decide (c=95)
def nameAt (s:ByteArray) (k:Nat):Bool:=if k=0 then ML (byteAt s 0) else WG (byteAt s k)
def je (s:ByteArray):Bool:=decide (1≤s.size∧s.size≤20) && (List.range s.size).all (nameAt s)
theorem qo {s:ByteArray} (h:¬ (1≤s.size∧s.size≤20)):je s=false:=by unfold je;rw [decide_eq_false h];rfl
theorem oO {s:ByteArray} {k:Nat} (hk:k < s.size) (h:nameAt s k=false):je s=false:=by
 unfold je;rw [Bool.and_eq_false_iff];right;rw [List.all_eq_false];exact ⟨k,List.mem_range.2 hk,by simp [h]⟩
theorem EL {s:ByteArray} (h:1≤s.size∧s.size≤20) (ha:∀ k,k < s.size→nameAt s k=true):je s=true:=by
 unfold je;rw [decide_eq_true h,Bool.true_and];exact List.all_eq_true.2 fun i hi=>ha i (List.mem_range.1 hi)
theorem fE (s:ByteArray) (w:World) (hs:Str s) :
 Calls prog 140 #[.string s] w fun e w'=>e=.returned (.bool (je s))∧w=w':=by
 unfold Str maxLen at hs;by_cases h1:s.size < 1
 · have HF:=ah (qo (s:=s) (by omega));go_enter func140,ntmps140;go_wp2_with fail;go_ret;exact ⟨au HF.out.symm,rfl⟩
 · have h1':1≤s.size:=by omega
   clear h1;by_cases h2:20 < s.size
   · have HF:=ah (qo (s:=s) (by omega));go_enter func140,ntmps140;go_wp2_with fail;go_ret;exact ⟨au HF.out.symm,rfl⟩
   · have h2':s.size≤20:=by omega
     clear h2;go_enter func140,ntmps140;go_wp2_with fail;go_loop [3,4] (fun i _=>∃ k:Nat,k≤s.size∧i=.int .i64 k∧(∀ j,j < k→nameAt s j=true)) (fun i _=>s.size - (intOf i).toNat);case atStart=>exact ⟨0,by omega,rfl,fun j hj=>by omega⟩
     case round =>
      obtain ⟨k,hk1,rfl,hall⟩:=hrel;have HA:=ah hall;clear hall;by_cases hlt:k < s.size
      · have HB:=ah (Gl hlt);have hb:=Qc s k;rcases Nat.eq_zero_or_pos k with h0 | h0
        · subst h0;go_wp2_with fail;all_goals first
           | (go_ret;refine ⟨au (oO hlt ?_).symm,rfl⟩;have hc:=HB.out;go_light;clear HA;simp only [nameAt,if_true,ML];rw [← hc];simp_all;try omega)
           | (refine ⟨⟨1,by omega,by go_num,all_succ HA.out ?_⟩,by simp [intOf];omega⟩;have hc:=HB.out;go_light;clear HA;simp only [nameAt,if_true,ML];rw [← hc];simp_all;try omega)
        · have e0:((k:Int) == 0)=false:=by simp;omega
          go_wp2_with fail;all_goals first
           | (go_ret;refine ⟨au (oO hlt ?_).symm,rfl⟩;have hc:=HB.out;go_light;clear HA;rw [nameAt,if_neg (by omega),← hc];simp_all [WG,ML];try omega)
           | (refine ⟨⟨k+1,by omega,by go_num,all_succ HA.out ?_⟩,by simp [intOf];omega⟩;have hc:=HB.out;go_light;clear HA;rw [nameAt,if_neg (by omega),← hc];simp_all [WG,ML];try omega)
      · have HF:=ah (EL ⟨h1',h2'⟩ fun j hj=>HA.out j (by omega));go_wp2_with fail;go_ret;exact ⟨au HF.out.symm,rfl⟩
theorem eG (s:ByteArray) (w:World) (hs:Str s) :
 Calls prog 151 #[.string s] w fun e w'=>e=.returned (.bool (je s))∧w=w':=by
 unfold Str maxLen at hs;by_cases h1:s.size < 1
 · have HF:=ah (qo (s:=s) (by omega));go_enter func151,ntmps151;go_wp2_with fail;go_ret;exact ⟨au HF.out.symm,rfl⟩
 · have h1':1≤s.size:=by omega
   clear h1;by_cases h2:20 < s.size
   · have HF:=ah (qo (s:=s) (by omega));go_enter func151,ntmps151;go_wp2_with fail;go_ret;exact ⟨au HF.out.symm,rfl⟩
   · have h2':s.size≤20:=by omega
     clear h2;have hlt0:0 < s.size:=by omega
     have HB0:=ah (Gl hlt0);by_cases hl:((s[0]'hlt0).toNat:Int) < 97
     · have HF:=ah (oO hlt0 (by rw [nameAt,if_pos rfl,← HB0.out];simp only [ML,decide_eq_false_iff_not];omega));go_enter func151,ntmps151;go_wp2_with fail;go_ret;exact ⟨au HF.out.symm,rfl⟩
     · have hl':97≤((s[0]'hlt0).toNat:Int):=by omega
       clear hl;by_cases hu:122 < ((s[0]'hlt0).toNat:Int)
       · have HF:=ah (oO hlt0 (by rw [nameAt,if_pos rfl,← HB0.out];simp only [ML,decide_eq_false_iff_not];omega));go_enter func151,ntmps151;go_wp2_with fail;go_ret;exact ⟨au HF.out.symm,rfl⟩
       · have hu':((s[0]'hlt0).toNat:Int)≤122:=by omega
         clear hu;have HL:Hid (nameAt s 0=true):=ah (by rw [nameAt,if_pos rfl,← HB0.out];simp only [ML,decide_eq_true_iff];omega);go_enter func151,ntmps151;go_wp2_with fail;go_loop [25] (fun i=>∃ k:Nat,k≤s.size∧i=.int .i64 k∧(∀ j,j < k→nameAt s j=true)) (fun i=>s.size - (intOf i).toNat);case atStart=>exact ⟨0,by omega,rfl,fun j hj=>by omega⟩
         case round =>
          obtain ⟨k,hk1,rfl,hall⟩:=hrel;have HA:=ah hall;clear hall;by_cases hlt:k < s.size
          · have HB:=ah (Gl hlt);have hb:=Qc s k;rcases Nat.eq_zero_or_pos k with h0 | h0
            · subst h0;go_wp2_with fail;all_goals (refine ⟨⟨1,by omega,by go_num,all_succ HA.out HL.out⟩,by simp [intOf];omega⟩)
            · clear hl' hu';go_wp2_with fail;all_goals first
               | (go_ret;refine ⟨au (oO hlt ?_).symm,rfl⟩;have hc:=HB.out;go_light;clear HA;rw [nameAt,if_neg (by omega),← hc];simp_all [WG,ML];try omega)
               | (refine ⟨⟨k+1,by omega,by go_num,all_succ HA.out ?_⟩,by simp [intOf];omega⟩;have hc:=HB.out;go_light;clear HA;rw [nameAt,if_neg (by omega),← hc];simp_all [WG,ML];try omega)
          · have HF:=ah (EL ⟨h1',h2'⟩ fun j hj=>HA.out j (by omega));go_wp2_with fail;go_ret;exact ⟨au HF.out.symm,rfl⟩
def aA (a:Label):Bool:=jG a.level 0 3 && jG a.set 0 7
def xu (need long prio:Int):Bool:=jG need 1 6 && jG long 1 20 && jG prio 0 9
def vI (n:Int):Bool:=jG n 0 999900
theorem dB {S:Nat→Prop} (x:Label) (cs:List Value) (w:World) (h:aH.rel S w cs x) :
 Calls prog 139 #[.agg cs.toArray] w fun e w'=>e=.returned (.bool (aA x))∧Ext w w':=by
 obtain ⟨rfl,hi⟩:=h;clear hi;simp only [aQ];go_enter func139,ntmps139;go_wp2_with (go_at_call 32;refine (fG _ _ _ _).mono ?_;rintro e w' ⟨rfl,rfl⟩);all_goals (go_ret;exact ⟨au (by simp_all [aA]),(Ext.refl _).alloc _⟩)
theorem gy {S:Nat→Prop} (x:Label) (cs:List Value) (w:World) (h:aH.rel S w cs x) :
 Calls prog 150 #[.agg cs.toArray] w fun e w'=>e=.returned (.bool (aA x))∧Ext w w':=by
 obtain ⟨rfl,hi⟩:=h;clear hi;simp only [aQ];go_enter func150,ntmps150;go_wp2_with (go_at_call 42;refine (bI _ _ _ _).mono ?_;rintro e w' ⟨rfl,rfl⟩);all_goals (go_ret;exact ⟨au (by simp_all [aA]),(Ext.refl _).alloc _⟩)
theorem Ym (a b c:Int) (w:World) :
 Calls prog 263 #[.int .i64 a,.int .i64 b,.int .i64 c] w fun e w'=>e=.returned (.bool (xu a b c))∧w=w':=by
 go_enter func263,ntmps263;go_wp2_with (go_at_call 42;refine (bI _ _ _ _).mono ?_;rintro e w' ⟨rfl,rfl⟩);all_goals (go_ret;exact ⟨au (by simp_all [xu]),rfl⟩)
theorem MC (n:Int) (w:World) :
 Calls prog 80 #[.int .i64 n] w fun e w'=>e=.returned (.bool (vI n))∧w=w':=by
 go_enter func80,ntmps80;go_wp2_with (go_at_call 32;refine (fG _ _ _ _).mono ?_;rintro e w' ⟨rfl,rfl⟩);go_ret;exact ⟨rfl,rfl⟩
theorem Ql (n:Int) (w:World) :
 Calls prog 103 #[.int .i64 n] w fun e w'=>e=.returned (.bool (vI n))∧w=w':=by
 go_enter func103,ntmps103;go_wp2_with (go_at_call 42;refine (bI _ _ _ _).mono ?_;rintro e w' ⟨rfl,rfl⟩);go_ret;exact ⟨rfl,rfl⟩
end Go.Proofs.YtbdicafambkhdaaGreat
