/- The plain data of the scheduler. Printed by wip/gen.py. The plain data of the scheduler, and what its small functions compute, in plain Lean. Small words on memory that every walk here uses: a slice that reads as a list of given elements, kept while memory only grows. No program in sight. -/
import Derived.WalkKit
import Derived.WalkSpells
import Derived.WalkLawsBesides
import Derived.Lib.Hide
import Derived.Deep.MidRow
import Derived.Deep.Light
import Derived.Deep.Quiet
import Derived.Deep.QuietTactic
import Derived.Deep.DeepCutAuto
import Derived.Deep.LoopGhost
namespace Go.Proofs.YtoblacfjmcpbmaaGreat
@[ext] structure Span where
 from_:Int
 to_:Int
 deriving DecidableEq,Inhabited
@[ext] structure Label where
 level:Int
 set:Int
 deriving DecidableEq,Inhabited
@[ext] structure Node where
 state:Int
 books:List Span
 deriving DecidableEq,Inhabited
@[ext] structure Use where
 label:Label
 owner:ByteArray
 used:Int
 deriving DecidableEq,Inhabited
@[ext] structure Task where
 label:Label
 id:Int
 owner:ByteArray
 need:Int
 long:Int
 prio:Int
 under:Label
 after:Int
 born:Int
 state:Int
 start:Int
 nodes:List Int
 deriving DecidableEq,Inhabited
@[ext] structure Wish where
 owner:ByteArray
 need:Int
 long:Int
 prio:Int
 under:Label
 after:Int
 count:Int
 deriving DecidableEq,Inhabited
@[ext] structure Pair where
 from_:Label
 to_:Label
 rate:Int
 deriving DecidableEq,Inhabited
@[ext] structure Quota where
 label:Label
 most:Int
 deriving DecidableEq,Inhabited
@[ext] structure Config where
 nodes:List (List Label)
 pairs:List Pair
 quotas:List Quota
 half:Int
 deriving DecidableEq,Inhabited
@[ext] structure Yard where
 config:Config
 nodes:List Node
 tasks:List Task
 uses:List Use
 now:Int
 deriving DecidableEq,Inhabited
@[ext] structure Note where
 at_:Int
 word:Int
 deriving DecidableEq,Inhabited
@[ext] structure Box where
 next:List Int
 here:List Int
 log:List Note
 deriving DecidableEq,Inhabited
@[ext] structure Mail where
 boxes:List Box
 deriving DecidableEq,Inhabited
@[ext] structure Place where
 label:Label
 id:Int
 from_:Int
 to_:Int
 runs:Bool
 nodes:List Int
 deriving DecidableEq,Inhabited
@[ext] structure NodesOut where
 nodes:List Node
 code:Int
 deriving DecidableEq,Inhabited
@[ext] structure TaskOut where
 task:Task
 at_:Int
 code:Int
 deriving DecidableEq,Inhabited
@[ext] structure YardOut where
 yard:Yard
 id:Int
 code:Int
 deriving DecidableEq,Inhabited
@[ext] structure ConfigOut where
 config:Config
 line:Int
 code:Int
 deriving DecidableEq,Inhabited
@[ext] structure MailOut where
 mail:Mail
 code:Int
 deriving DecidableEq,Inhabited
end Go.Proofs.YtoblacfjmcpbmaaGreat
namespace Go.Proofs.YtoblacfjmcpbmaaGreat
def isB (n a b:Int):Bool:=decide (a≤n∧n≤b)
theorem isB_true {n a b:Int} (h:isB n a b=true):a≤n∧n≤b:=by simpa [isB] using h
theorem isB_iff {n a b:Int}:isB n a b=true↔a≤n∧n≤b:=by simp [isB]
def nth {α:Type} [Inhabited α] (l:List α) (k:Nat):α:=l.getD k default
theorem nth_eq {α:Type} [Inhabited α] {l:List α} {k:Nat} (h:k < l.length):nth l k=l[k]:=by simp [nth,List.getElem?_eq_getElem h]
theorem nth_mem {α:Type} [Inhabited α] {l:List α} {k:Nat} (h:k < l.length):nth l k∈l:=by rw [nth_eq h];exact List.getElem_mem h
theorem get_nth {α:Type} [Inhabited α] {l:List α} {k:Nat} (h:k < l.length):l[k]? = some (nth l k):=by rw [nth_eq h];exact List.getElem?_eq_getElem h
theorem drop_nth {α:Type} [Inhabited α] {l:List α} {k:Nat} (h:k < l.length):l.drop k=nth l k :: l.drop (k+1):=by rw [nth_eq h];exact List.drop_eq_getElem_cons h
def idxOf {α:Type} (p:α→Bool) (l:List α):Int:=(l.findIdx? p).elim (-1) (fun i=>(i:Int))
theorem idxOf_none {α:Type} [Inhabited α] {p:α→Bool} {l:List α} (h:∀ j,j < l.length→p (nth l j)=false):idxOf p l = -1:=by
 have:l.findIdx? p=none:=List.findIdx?_eq_none_iff.2 fun x hx=>by
  obtain ⟨i,hi,rfl⟩:=List.getElem_of_mem hx
  have:=h i hi
  rwa [nth_eq hi] at this
 rw [idxOf,this];rfl
theorem idxOf_some {α:Type} [Inhabited α] {p:α→Bool} {l:List α} {k:Nat} (hk:k < l.length) (h:∀ j,j < k→p (nth l j)=false) (hp:p (nth l k)=true):idxOf p l=k:=by
 have:l.findIdx? p=some k:=List.findIdx?_eq_some_iff_getElem.2 ⟨hk,by rwa [nth_eq hk] at hp,fun j hj=>by
  have:=h j hj
  rw [nth_eq (by omega)] at this
  simp [this]⟩
 rw [idxOf,this];rfl
theorem idxOf_any {α:Type} {p:α→Bool} {l:List α}:decide (0≤idxOf p l)=l.any p:=by
 unfold idxOf
 cases h:l.findIdx? p with
 | none =>
   rw [List.findIdx?_eq_none_iff] at h
   have:l.any p=false:=by rw [List.any_eq_false];intro x hx;rw [h x hx];simp
   rw [this];simp
 | some i =>
   obtain ⟨hi,hp,_⟩:=List.findIdx?_eq_some_iff_getElem.1 h
   have:l.any p=true:=List.any_eq_true.2 ⟨_,List.getElem_mem hi,hp⟩
   rw [this];simp
def timeOk (n:Int):Bool:=isB n 0 1000000
def spanRight (x:Span):Bool:=timeOk x.from_ && timeOk x.to_ && decide (x.from_ < x.to_)
def spanAt (l:List Span) (i:Nat):Bool:=spanRight (nth l i) && (decide (i=0) || decide ((nth l (i - 1)).to_≤(nth l i).from_))
def spansRight (l:List Span):Bool:=decide (l.length≤20) && (List.range l.length).all (spanAt l)
theorem spansRight_false {l:List Span} {i:Nat} (hi:i < l.length) (h:spanAt l i=false):spansRight l=false:=by
 unfold spansRight
 rw [Bool.and_eq_false_iff]
 right
 rw [List.all_eq_false]
 exact ⟨i,List.mem_range.2 hi,by simp [h]⟩
theorem spansRight_of {l:List Span} (h:∀ i,i < l.length→spanAt l i=true):spansRight l=decide (l.length≤20):=by
 unfold spansRight
 have:(List.range l.length).all (spanAt l)=true:=List.all_eq_true.2 fun i hi=>h i (List.mem_range.1 hi)
 rw [this,Bool.and_true]
theorem spanAt_zero {l:List Span}:spanAt l 0=spanRight (nth l 0):=by simp [spanAt]
theorem spanAt_succ {l:List Span} {m:Nat}:spanAt l (m+1)=(spanRight (nth l (m+1)) && decide ((nth l m).to_≤(nth l (m+1)).from_)):=by simp [spanAt]
theorem spanAt_bad {l:List Span} {k:Nat} (h:spanRight (nth l k)=false):spanAt l k=false:=by simp [spanAt,h]
theorem all_succ {p:Nat→Prop} {k:Nat} (h:∀ j,j < k→p j) (hk:p k):∀ j,j < k+1→p j:=fun j hj=>by
 rcases Nat.lt_or_ge j k with h1 | h1
 · exact h j h1
 · obtain rfl:j=k:=by omega
   exact hk
end Go.Proofs.YtoblacfjmcpbmaaGreat
namespace Go.Proofs.YtoblacfjmcpbmaaGreat
open Go.RowKit
theorem ret_int {k:IntKind} {a b:Int} (h:a=b):Ending.returned (.int k a)=.returned (.int k b):=by rw [h]
theorem ret_bool {a b:Bool} (h:a=b):Ending.returned (.bool a)=.returned (.bool b):=by rw [h]
theorem bytes_iff {a b:ByteArray}:a=b↔a.toList=b.toList:=by
 rw [ByteArray.toList_eq,ByteArray.toList_eq]
 refine ⟨fun h=>by rw [h],fun h=>?_⟩
 cases a;cases b
 simpa using h
def I64 (x:Int):Prop:=-9223372036854775808≤x∧x≤9223372036854775807
def Ext (w w':World):Prop:=Below w.heap.size w w'
theorem Ext.refl (w:World):Ext w w:=Below.refl _ _
theorem Ext.trans {a b c:World} (h:Ext a b) (k:Ext b c):Ext a c:=Below.trans h (Below.mono k h.size)
theorem Ext.size {w w':World} (h:Ext w w'):w.heap.size≤w'.heap.size:=Below.size h
theorem Ext.drew {w w':World} (h:Ext w w'):Ext w w'.drew:=Below.drew h
theorem Ext.alloc {w w':World} (h:Ext w w') (o:Obj):Ext w (w'.alloc o):=Below.alloc h h.size o
theorem Ext.setCell {w w':World} (h:Ext w w') {p:Addr} (hp:w.heap.size≤p.block) (v:Value):Ext w (w'.setCell p v):=Below.setCell h hp v
theorem Ext.cell {w w':World} (h:Ext w w') {p:Addr} (hp:p.block < w.heap.size):w'.cell? p=w.cell? p:=Below.cell h hp
theorem Ext.cells {w w':World} (h:Ext w w'):∀ b o,b < w.heap.size→w'.cell? ⟨b,o,none⟩=w.cell? ⟨b,o,none⟩:=fun b o hb=>Below.cell (p:=⟨b,o,none⟩) h hb
theorem Ext.frozens {w w':World} (h:Ext w w'):∀ b o,b < w.heap.size→w'.frozen? ⟨b,o,none⟩=w.frozen? ⟨b,o,none⟩:=fun b o hb=>Below.frozen (p:=⟨b,o,none⟩) h hb
theorem Ext.some {w w':World} (h:Ext w w') {p:Addr} {u:Value} (hp:w.cell? p=some u):w'.cell? p=some u:=(h.cell (World.block_lt_of_cell? w p hp)).trans hp
theorem ext_of {P:Program} {f:FuncId} {args:Array Value} {w w1:World} {v:Value} (hx:Ext w w1) (h:Calls P f args w1 fun e w'=>e=.returned v∧Ext w1 w') :
 Calls P f args w1 fun e w'=>e=.returned v∧Ext w w':=h.mono fun _ _ ⟨he,hk⟩=>⟨he,hx.trans hk⟩
theorem ext_of_same {P:Program} {f:FuncId} {args:Array Value} {w w1:World} {v:Value} (hx:Ext w w1) (h:Calls P f args w1 fun e w'=>e=.returned v∧w1=w') :
 Calls P f args w1 fun e w'=>e=.returned v∧Ext w w':=h.mono fun _ _ ⟨he,hk⟩=>⟨he,hk ▸ hx⟩
theorem wp_region_ext {P:Program} {id:Nat} {Q:Exit→Act→World→Prop} {a:Act} {w:World} {l:List Oper} (hm:P.follows .mixedOrders=true) (hB:Region.lexB .any l.toArray=true)
 (h:wpQuiet P l.toArray (fun w'=>Ext w w') (fun a'=>∀ w',Ext w w'→Q .normal a' w') l a):(Code.region id l.toArray true).wp P Q a w :=
 wp_region_quiet (C:=fun w'=>Ext w w') hm hB (Ext.refl w).drew (by simpa using h)
theorem wpQuiet_load {P:Program} {ops:Array Oper} {C:World→Prop} {Q:Act→Prop} {rest:List Oper} {op:Oper} {a:Act} (hw:Region.wanted op (yielded ops a.tmps)=true) (ty:TypeId) (x:Operand) (ho:op.op=.load ty x)
 (b o:Nat) (hx:a.eval x=.pointer (.some ⟨b,o,none⟩)) (cs:List Value) (d:TypeDesc) (hS:∀ w,C w→w.rangeAt b o cs) (hu:P.underlying ty=.some d) (hd:d.isRow=true) (hi:(P.info? ty).map (·.size)=.some cs.length)
 (h:wpQuiet P ops C Q rest (a.put op.dst (.agg cs.toArray))):wpQuiet P ops C Q (op :: rest) a:=by
 unfold wpQuiet
 rw [if_pos hw]
 refine ⟨_,fun w hC=>?_,h⟩
 unfold Oper.quietAt execOp
 simp only [ho,hx,Instr.loadAt,Instr.sureAddr,Sem.run_bind,Sem.run_pure,Result.andThen_ok,run_loadVar_mid w b o ty cs d (hS w hC) hu hd hi]
 exact ⟨rfl,rfl⟩
theorem ite_ok (p:Prop) [Decidable p] (b:Bool) (w:World):(if p then Result.ok (Next.value (.bool b)) w else Result.ok (Next.value (.bool false)) w)=Result.ok (Next.value (.bool (decide p && b))) w:=by
 by_cases h:p <;> simp [h]
theorem box_new (w:World) (cs:Array Value) (T:TypeId):∃ W B,W=w.alloc (.cells cs T)∧B=w.heap.size∧Ext w W∧(∀ i u,cs[i]? = some u→W.cell? ⟨B,i,none⟩=some u):=by
 refine ⟨_,_,rfl,rfl,(Ext.refl w).alloc _,fun i u hu=>?_⟩
 rw [show (w.alloc (.cells cs T)).cell? ⟨w.heap.size,i,none⟩=cs[i]? from cell_of_row _ _ i cs T (0,0) (heap_alloc_new w _)]
 exact hu
def Same (S:Nat→Prop) (w w':World):Prop:=∀ b o u,S b→w.cell? ⟨b,o,none⟩=.some u→w'.cell? ⟨b,o,none⟩=.some u
theorem Ext.same {w w':World} (h:Ext w w') (S:Nat→Prop):Same S w w':=fun _ _ _ _ hc=>h.some hc
theorem Same.trans {S:Nat→Prop} {a b c:World} (h:Same S a b) (k:Same S b c):Same S a c:=fun x o u hs hc=>k x o u hs (h x o u hs hc)
theorem Same.refl (S:Nat→Prop) (w:World):Same S w w:=fun _ _ _ _ h=>h
theorem Same.sub {S S':Nat→Prop} {w w':World} (h:Same S' w w') (hs:∀ b,S b→S' b):Same S w w':=fun b o u hb hc=>h b o u (hs b hb) hc
theorem Same.setCell {S:Nat→Prop} {w w':World} {p:Addr} (h:Same S w w') (hp:¬ S p.block) (v:Value):Same S w (w'.setCell p v):=fun b o u hb hc=>by
 rw [World.cell?_setCell_other w' p ⟨b,o,none⟩ v (fun e=>hp (by rw [e];exact hb))]
 exact h b o u hb hc
theorem Same.range {S:Nat→Prop} {w w':World} (h:Same S w w') {b o:Nat} {cs:List Value} (hb:S b) (hr:w.rangeAt b o cs):w'.rangeAt b o cs:=fun j v hj=>h b (o+j) v hb (hr j v hj)
theorem Ext.range {w w':World} (h:Ext w w') {b o:Nat} {cs:List Value} (hr:w.rangeAt b o cs):w'.rangeAt b o cs:=fun j v hj=>h.some (hr j v hj)
structure Elem (α:Type) where
 size:Nat
 rel:(Nat→Prop)→World→List Value→α→Prop
 len:∀ {S w cs x},rel S w cs x→cs.length=size
 keep:∀ {S w w' cs x},Same S w w'→rel S w cs x→rel S w' cs x
 sub:∀ {S S':Nat→Prop} {w cs x},(∀ b,S b→S' b)→rel S w cs x→rel S' w cs x
 one:∀ {S w cs x},rel S w cs x→∀ v∈cs,v.oneCell'=true
def Rd {α:Type} (E:Elem α) (S:Nat→Prop) (w:World) (v:Value) (l:List α):Prop :=
 ∃ A c,v=.slice A l.length c∧l.length≤c∧c≤maxLen ∧
   ∀ k x,l[k]? = .some x→∃ b o cs,A=.some ⟨b,o,none⟩∧S b∧E.rel S w cs x∧w.rangeAt b (o+k * E.size) cs
section
variable {α:Type} {E:Elem α} {S S':Nat→Prop} {w w':World} {v:Value} {l:List α}
theorem Rd.keep (h:Rd E S w v l) (hx:Same S w w'):Rd E S w' v l:=by
 obtain ⟨A,c,hv,h1,h2,hk⟩:=h
 refine ⟨A,c,hv,h1,h2,fun k x hkx=>?_⟩
 obtain ⟨b,o,cs,hA,hs,hr,hc⟩:=hk k x hkx
 exact ⟨b,o,cs,hA,hs,E.keep hx hr,hx.range hs hc⟩
theorem Rd.ext (h:Rd E S w v l) (hx:Ext w w'):Rd E S w' v l:=h.keep (hx.same S)
theorem Rd.sub (h:Rd E S w v l) (hs:∀ b,S b→S' b):Rd E S' w v l:=by
 obtain ⟨A,c,hv,h1,h2,hk⟩:=h
 refine ⟨A,c,hv,h1,h2,fun k x hkx=>?_⟩
 obtain ⟨b,o,cs,hA,hb,hr,hc⟩:=hk k x hkx
 exact ⟨b,o,cs,hA,hs b hb,E.sub hs hr,hc⟩
theorem Rd.open_ [Inhabited α] (h:Rd E S w v l):∃ A c,v=.slice A l.length c∧l.length≤c∧c≤maxLen ∧
 ∀ k,k < l.length→∃ b o cs,A=.some ⟨b,o,none⟩∧S b∧E.rel S w cs (nth l k)∧w.rangeAt b (o+k * E.size) cs:=by
 obtain ⟨A,c,hv,h1,h2,hk⟩:=h
 exact ⟨A,c,hv,h1,h2,fun k hlt=>hk k _ (get_nth hlt)⟩
theorem Rd.form (h:Rd E S w v l):∃ A c,v=.slice A l.length c∧l.length≤c∧c≤maxLen:=by
 obtain ⟨A,c,hv,h1,h2,_⟩:=h
 exact ⟨A,c,hv,h1,h2⟩
theorem Rd.one (h:Rd E S w v l):v.oneCell'=true:=by
 obtain ⟨A,c,rfl,_⟩:=h
 rfl
theorem Rd.nil {A:Option Addr} {c:Nat} (hc:c≤maxLen):Rd E S w (.slice A 0 c) []:=⟨A,c,rfl,Nat.zero_le _,hc,fun k x h=>by simp at h⟩
end
def Blk (w:World) (g:Nat) (t:TypeId) (cs:Array Value):Prop:=w.heap[g]? = .some (.cells cs t (0,0))
section
variable {w w':World} {g:Nat} {t:TypeId} {cs:Array Value}
theorem Blk.lt (h:Blk w g t cs):g < w.heap.size:=by
 rcases Nat.lt_or_ge g w.heap.size with hlt | hge
 · exact hlt
 · unfold Blk at h;rw [Array.getElem?_eq_none hge] at h;cases h
theorem Blk.cell (h:Blk w g t cs) (i:Nat):w.cell? ⟨g,i,none⟩=cs[i]?:=cell_of_row w g i cs t (0,0) h
theorem Blk.frozen (h:Blk w g t cs) (i:Nat):w.frozen? ⟨g,i,none⟩=false:=by
 unfold Blk at h
 simp [World.frozen?,h]
theorem Blk.new (w:World) (t:TypeId) (cs:Array Value):Blk (w.alloc (.cells cs t)) w.heap.size t cs:=heap_alloc_new w _
theorem Blk.ext (h:Blk w g t cs) (hx:Ext w w'):Blk w' g t cs:=(Below.block hx g h.lt).trans h
theorem Blk.set_ (h:Blk w g t cs) (i:Nat) (u:Value):Blk (w.setCell ⟨g,i,none⟩ u) g t (cs.setIfInBounds i u):=by
 unfold Blk at h ⊢
 simp [World.setCell,Array.getElem?_modify,h]
theorem Blk.far (h:Blk w g t cs) {p:Addr} (hp:g≠p.block) (u:Value):Blk (w.setCell p u) g t cs:=(Below.heap_setCell w p u g hp).trans h
end
theorem boxes3 (w:World) (A O P:Array Value) (T U V:TypeId):∃ W B,W=((w.alloc (.cells A T)).alloc (.cells O U)).alloc (.cells P V)∧B=w.heap.size∧Ext w W∧Blk W B T A∧Blk W (B+1) U O∧Blk W (B+1+1) V P:=by
 refine ⟨_,_,rfl,rfl,((((Ext.refl w).alloc _).alloc _).alloc _),?_,?_,?_⟩
 · exact ((Blk.new w T A).ext ((Ext.refl _).alloc _)).ext ((Ext.refl _).alloc _)
 · have h:=(Blk.new (w.alloc (.cells A T)) U O).ext ((Ext.refl _).alloc (.cells P V))
   simpa using h
 · have h:=Blk.new ((w.alloc (.cells A T)).alloc (.cells O U)) V P
   simpa using h
theorem boxes2 (w:World) (A O:Array Value) (T U:TypeId):∃ W B,W=(w.alloc (.cells A T)).alloc (.cells O U)∧B=w.heap.size∧Ext w W∧Blk W B T A∧Blk W (B+1) U O:=by
 refine ⟨_,_,rfl,rfl,(((Ext.refl w).alloc _).alloc _),?_,?_⟩
 · exact (Blk.new w T A).ext ((Ext.refl _).alloc _)
 · have h:=Blk.new (w.alloc (.cells A T)) U O
   simpa using h
section
variable {w:World} {g:Nat} {t:TypeId} {cs:Array Value}
theorem Blk.range (h:Blk w g t cs):w.rangeAt g 0 cs.toList:=fun j v hj=>by
 rw [Nat.zero_add,h.cell j]
 simpa using hj
theorem Blk.there (h:Blk w g t cs):w.there g 0 cs.size:=fun j hj=>by
 rw [Nat.zero_add,h.cell j]
 exact ⟨by rw [Array.getElem?_eq_getElem hj];rfl,h.frozen j⟩
theorem blk_setCells {g:Nat} {t:TypeId}:∀ (vs:List Value) (pre:List Value) (w:World) (cs:List Value),Blk w g t (pre ++ cs).toArray→cs.length=vs.length →
 Blk (w.setCells g pre.length vs) g t (pre ++ vs).toArray
 | [],pre,w,cs,h,hl=>by
   obtain rfl:cs = []:=List.eq_nil_of_length_eq_zero hl
   exact h
 | v :: r,pre,w,cs,h,hl=>by
   match cs,hl with
   | c :: cs',hl =>
     have h1:=h.set_ pre.length v
     have e:((pre ++ c :: cs').toArray.setIfInBounds pre.length v)=((pre ++ [v]) ++ cs').toArray:=by simp
     rw [e] at h1
     have h2:=blk_setCells r (pre ++ [v]) _ cs' h1 (by simpa using hl)
     simpa [World.setCells] using h2
theorem Blk.setAll (h:Blk w g t cs) {vs:Array Value} (hl:cs.size=vs.size):Blk (w.setCells g 0 vs.toList) g t vs:=by
 have:=blk_setCells vs.toList [] w cs.toList (by simpa using h) (by simpa using hl)
 simpa using this
end
theorem results_blk {P:Program} {fn:Func} {p:Tmp} {ty T:TypeId} {d:TypeDesc} {tmps:Array Value} {w:World} {B:Nat} {cs:Array Value} (h:fn.results = #[.cell p ty]) (hp:tmps.getD p undef=.pointer (.some ⟨B,0,none⟩)) (hb:Blk w B T cs)
 (hu:P.underlying ty=.some d) (hd:d.isRow=true) (hi:(P.info? ty).map (·.size)=.some cs.size):(results fn tmps).run P w=.ok (.agg cs) w:=by
 have h1:=run_loadVar_mid (P:=P) w B 0 ty cs.toList d hb.range hu hd (by rw [hi];simp)
 simp only [results,h]
 have hp':tmps[p]?.getD undef=.pointer (.some ⟨B,0,none⟩):=by rw [← hp];simp [Array.getD_eq_getD_getElem?]
 simp [hp',asAddr,h1]
theorem setCells_same' {S:Nat→Prop} {w w':World} {B o:Nat} {vs:List Value} (h:Same S w w') (hB:¬ S B):Same S w (w'.setCells B o vs):=h.trans fun b i u hb hc=>by
 rw [World.cell?_setCells_out B vs o w' ⟨b,i,none⟩ (fun e=>absurd (e ▸ hb) hB)]
 exact hc
def Part {α:Type} [Inhabited α] (E:Elem α) (w:World) (B:Nat) (T:TypeId) (l:List α) (k:Nat):Prop :=
 ∃ C:Array Value,w.heap[B]? = .some (.cells C T (0,0))∧C.size=l.length * E.size∧∀ j,j < k→∃ cs,E.rel (fun b=>B < b) w cs (nth l j)∧w.rangeAt B (j * E.size) cs
theorem cells_frozen {w:World} {B:Nat} {C:Array Value} {T:TypeId} (h:w.heap[B]? = .some (.cells C T (0,0))) (i:Nat):w.frozen? ⟨B,i,none⟩=false:=by simp [World.frozen?,h]
theorem cells_there {w:World} {B:Nat} {C:Array Value} {T:TypeId} (h:w.heap[B]? = .some (.cells C T (0,0))) {o n:Nat} (hn:o+n≤C.size):w.there B o n:=fun j hj=>by
 refine ⟨?_,cells_frozen h _⟩
 rw [cell_of_row w B (o+j) C T (0,0) h,Array.getElem?_eq_getElem (by omega)]
 rfl
theorem setCells_other (w:World) (B:Nat) (p:Addr) (hp:p.block≠B):∀ (vs:List Value) (o:Nat),(w.setCells B o vs).cell? p=w.cell? p:=fun vs o =>
 World.cell?_setCells_out B vs o w p (fun h=>absurd h hp)
theorem setCells_same {S:Nat→Prop} {w:World} {B o:Nat} {vs:List Value} (hB:¬ S B):Same S w (w.setCells B o vs):=fun b i u hb hc=>by
 rw [setCells_other w B ⟨b,i,none⟩ (fun e=>hB (e ▸ hb))]
 exact hc
theorem setCells_heap {B:Nat} {T:TypeId}:∀ (vs:List Value) (w:World) (o:Nat) (C:Array Value),w.heap[B]? = .some (.cells C T (0,0))→∃ C',(w.setCells B o vs).heap[B]? = .some (.cells C' T (0,0))∧C'.size=C.size
 | [],_,_,C,h=>⟨C,h,rfl⟩
 | v :: r,w,o,C,h=>by
   have h1:(w.setCell ⟨B,o,none⟩ v).heap[B]? = .some (.cells (C.setIfInBounds o v) T (0,0)):=by simp [World.setCell,Array.getElem?_modify,h]
   obtain ⟨C',h2,h3⟩:=setCells_heap r _ (o+1) _ h1
   exact ⟨C',h2,by simpa using h3⟩
theorem setCells_ext {w0:World} {B:Nat} (hB:w0.heap.size≤B):∀ (vs:List Value) (w:World) (o:Nat),Ext w0 w→Ext w0 (w.setCells B o vs)
 | [],_,_,h=>h
 | v :: r,_,o,h=>setCells_ext hB r _ (o+1) (h.setCell (p:=⟨B,o,none⟩) hB v)
section
variable {α:Type} [Inhabited α] {E:Elem α} {w w':World} {B:Nat} {T:TypeId} {l:List α} {k:Nat}
theorem Part.new (w:World) (C:Array Value) (hC:C.size=l.length * E.size):Part E (w.alloc (.cells C T)) w.heap.size T l 0:=⟨C,heap_alloc_new w _,hC,fun j hj=>by omega⟩
theorem Part.ext (h:Part E w B T l k) (hx:Ext w w'):Part E w' B T l k:=by
 obtain ⟨C,h1,h2,h3⟩:=h
 refine ⟨C,?_,h2,fun j hj=>?_⟩
 · have hlt:B < w.heap.size:=by
    rcases Nat.lt_or_ge B w.heap.size with h' | h'
    · exact h'
    · rw [Array.getElem?_eq_none h'] at h1;cases h1
   exact (Below.block hx B hlt).trans h1
 · obtain ⟨cs,hr,hc⟩:=h3 j hj
   exact ⟨cs,E.keep (hx.same _) hr,hx.range hc⟩
theorem Part.lt (h:Part E w B T l k):B < w.heap.size:=by
 obtain ⟨C,h1,_⟩:=h
 rcases Nat.lt_or_ge B w.heap.size with h' | h'
 · exact h'
 · rw [Array.getElem?_eq_none h'] at h1;cases h1
theorem Part.there (h:Part E w B T l k) (hk:k < l.length):w.there B (k * E.size) E.size:=by
 obtain ⟨C,h1,h2,_⟩:=h
 refine cells_there h1 ?_
 rw [h2,← Nat.succ_mul]
 exact Nat.mul_le_mul_right _ hk
theorem Part.step {cs:List Value} (h:Part E w B T l k) (hk:k < l.length) (hr:E.rel (fun b=>B < b) w cs (nth l k)):Part E (w.setCells B (k * E.size) cs) B T l (k+1):=by
 have ht:=h.there hk
 obtain ⟨C,h1,h2,h3⟩:=h
 obtain ⟨C',h4,h5⟩:=setCells_heap cs w (k * E.size) C h1
 have hs:Same (fun b=>B < b) w (w.setCells B (k * E.size) cs):=setCells_same (by omega)
 refine ⟨C',h4,by omega,fun j hj=>?_⟩
 rcases Nat.lt_or_ge j k with hlt | hge
 · obtain ⟨es,hr',hc'⟩:=h3 j hlt
   refine ⟨es,E.keep hs hr',World.rangeAt_setCells_apart hc' _ _ _ (.inr (.inl ?_))⟩
   rw [E.len hr',← Nat.succ_mul]
   exact Nat.mul_le_mul_right _ hlt
 · obtain rfl:j=k:=by omega
   exact ⟨cs,E.keep hs hr,World.rangeAt_setCells_same w B _ cs (by rw [E.len hr];exact ht)⟩
theorem Part.done (h:Part E w B T l l.length) (hm:l.length≤maxLen):Rd E (fun b=>B≤b) w (.slice (.some ⟨B,0,none⟩) l.length l.length) l:=by
 obtain ⟨C,_,_,h3⟩:=h
 refine ⟨_,_,rfl,Nat.le_refl _,hm,fun k x hk=>?_⟩
 obtain ⟨hlt,hx⟩:=List.getElem?_eq_some_iff.1 hk
 obtain ⟨cs,hr,hc⟩:=h3 k hlt
 rw [nth_eq hlt,hx] at hr
 exact ⟨B,0,cs,rfl,Nat.le_refl _,E.sub (fun b hb=>Nat.le_of_lt hb) hr,by rw [Nat.zero_add];exact hc⟩
end
end Go.Proofs.YtoblacfjmcpbmaaGreat
