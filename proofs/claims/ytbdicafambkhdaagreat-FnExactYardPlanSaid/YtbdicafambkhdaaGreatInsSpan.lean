/- Lists whose elements bear numbers in a row; in plain Lean. One element of a row is given other memory of its own; the first elements of a row that lies in memory of its own. No program in sight. -/
import Derived.Test.YtbdicafambkhdaaGreatClones
import Derived.Test.YtbdicafambkhdaaGreatNodes
import Derived.Deep.RegionHeld3
import Derived.Test.YtbdicafambkhdaaGreatOrdU
import Derived.Test.YtbdicafambkhdaaGreatShelf
import Derived.Shelf.Spec.SlicesInsertGrow
namespace Go.Proofs.YtbdicafambkhdaaGreat
open Go.Proofs.Tryz
open Go.RowKit
section
variable {α:Type}
variable {m:Int→α→α} {n:α→Nat}
end
theorem CP {α β:Type} [Inhabited α] {f:α→β} {l:List α} {k:Nat} (hk:k < l.length):(l.take (k+1)).map f=(l.take k).map f ++ [f (nth l k)]:=by
 rw [List.take_succ_eq_append_getElem hk,List.map_append,aO hk];rfl
theorem aV {α:Type} [Inhabited α] {l:List α} {k:Nat} (hk:k < l.length):l.take (k+1)=l.take k ++ [nth l k]:=by
 rw [List.take_succ_eq_append_getElem hk,aO hk]
section
variable {α:Type} [Inhabited α] {E:Elem α} {O:Own E} {T:TypeId} {w:World} {l:List α} {v:Value} {F:List Nat}
theorem aW.take {n:Nat} (h:aW O T w v l F) (hn:n≤l.length):∀ A c,v=.slice A l.length c→∃ F',aW O T w (.slice A n c) (l.take n) F'∧∀ b∈F',b∈F:=by
 rintro A c rfl;rcases h with ⟨rfl,rfl,A',hv⟩ | ⟨B,c',C,Fs,hv,hB,h1,h2,h3,hl,rfl,hnd,hall⟩
 · cases hv;obtain rfl:n=0:=by simpa using hn
   exact ⟨[],by simpa using aW.nil A,fun b hb=>hb⟩
 · cases hv;have hlen:(l.take n).length=n:=by rw [List.length_take];omega
   refine ⟨B :: (Fs.take n).flatten,.inr ⟨B,c,C,Fs.take n,by rw [hlen],hB,by rw [hlen];omega,h2,h3,by rw [hlen,List.length_take];omega,rfl,?_,fun k hk=>?_⟩,fun b hb=>?_⟩
   · have e:Fs.flatten=(Fs.take n).flatten ++ (Fs.drop n).flatten:=by rw [← List.flatten_append,List.take_append_drop]
     rw [e] at hnd;obtain ⟨h1',h2'⟩:=List.nodup_cons.1 hnd;exact List.nodup_cons.2 ⟨fun hm=>h1' (List.mem_append_left _ hm),(List.nodup_append.1 h2').1⟩
   · rw [hlen] at hk;obtain ⟨cs,ho,hc⟩:=hall k (by omega);have e1:nth (l.take n) k=nth l k:=by rw [aO (by omega),aO (by omega)];simp
     have e2:nth (Fs.take n) k=nth Fs k:=by rw [aO (by rw [List.length_take];omega),aO (by omega)];simp
     exact ⟨cs,by rw [e1,e2];exact ho,hc⟩
   · rcases List.mem_cons.1 hb with rfl | hb
     · exact List.mem_cons_self ..
     · obtain ⟨G,hG,hb⟩:=List.mem_flatten.1 hb;exact List.mem_cons_of_mem _ (List.mem_flatten.2 ⟨G,List.mem_of_mem_take hG,hb⟩)
end
section
variable {α:Type} [Inhabited α] {E:Elem α} {O:Own E} {T:TypeId} {w:World} {l ys:List α} {P:Program}
theorem gQ {ops:Array Oper} {o:Oper} {a:Act} {K:Act→World→Prop} {Q:Exit→Act→World→Prop} {X:Prop} (hgd:o.guard=none) (s x:Operand) (t:TypeId)
 (ho:o.op=.call { callee:=.builtin .append,args:=#[s,x],argTypes:=#[t,t] })
 {v:Value} {F G:List Nat} {y:α} {cs:List Value} (z:Value) (size bytes:Nat) (ht:P.underlying t=some (.slice T)) (hi:(P.info? T).map (fun i=>(i.zero,i.size,i.bytes))=some (some z,size,bytes)) (hsz:size=E.size) (hzs:z.cells.size=E.size)
 (hs:a.eval s=v) (hown:aW O T w v l F) (Bs os c:Nat) (hx:a.eval x=.slice (some ⟨Bs,os,none⟩) 1 c) (hy:O.own w cs y G) (hr:w.rangeAt Bs os cs) (hnd:(F ++ G).Nodup)
 (hlen:l.length≤1000000000) (hb:bytes≤1000)
 (h:∀ v' w' F',aW O T w' v' (l ++ [y]) F'→Kept F w w'→(∀ b∈F',b∈F∨b∈G∨w.heap.size≤b)→K (a.put o.dst v') w'):if Region.wanted o (yielded ops a.tmps)=true then Oper.wp P o a w K Q else X:=by
 have hw:Region.wanted o (yielded ops a.tmps)=true:=by simp [Region.wanted,hgd]
 rw [if_pos hw];exact tK (ys:=[y]) (Gs:=[G]) s x t ho z size bytes ht hi hsz hzs hs hown Bs os c hx rfl
  (fun k hk=>by
    obtain rfl:k=0:=by simpa using hk
    exact ⟨cs,hy,by rw [Nat.zero_mul,Nat.add_zero];exact hr⟩) (by simpa using hnd) (fun b hb=>O.lt hy b (by simpa using hb)) (by unfold maxLen;simp only [List.length_cons,List.length_nil];omega)
  (by simp only [List.length_cons,List.length_nil];exact Nat.le_trans (Nat.mul_le_mul (by omega:l.length+(0+1)≤1000000001) hb) (by decide)) fun v' w' F' g1 g2 g3=>h v' w' F' g1 g2 fun b hb=>by simpa using g3 b hb
end
section
variable {α:Type} [Inhabited α] {E:Elem α} {T:TypeId} {w:World} {l ys:List α} {P:Program} {hfl:∀ {S S':Nat→Prop} {w w':World} {cs x},E.rel S w cs x→E.rel S' w' cs x}
theorem qP {ops:Array Oper} {o:Oper} {a:Act} {K:Act→World→Prop} {Q:Exit→Act→World→Prop} {X:Prop} (hgd:o.guard=none) (s x:Operand) (t:TypeId)
 (ho:o.op=.call { callee:=.builtin .append,args:=#[s,x],argTypes:=#[t,t] })
 {v u:Value} {F:List Nat} {S:Nat→Prop} (z:Value) (size bytes:Nat) (ht:P.underlying t=some (.slice T)) (hi:(P.info? T).map (fun i=>(i.zero,i.size,i.bytes))=some (some z,size,bytes)) (hsz:size=E.size) (hzs:z.cells.size=E.size)
 (hs:a.eval s=v) (hown:aW (lF E hfl) T w v l F) (hx:a.eval x=u) (hr:Rd E S w u ys)
 (h63:l.length+ys.length≤maxLen) (hby:(l.length+ys.length) * bytes≤140737488355328)
 (h:∀ v' w' F',aW (lF E hfl) T w' v' (l ++ ys) F'→Kept F w w'→(∀ b∈F',b∈F∨w.heap.size≤b)→K (a.put o.dst v') w'):if Region.wanted o (yielded ops a.tmps)=true then Oper.wp P o a w K Q else X:=by
 have hw:Region.wanted o (yielded ops a.tmps)=true:=by simp [Region.wanted,hgd]
 rw [if_pos hw];exact zU s x t ho z size bytes ht hi hsz hzs hs hown hx hr h63 hby h
end
end Go.Proofs.YtbdicafambkhdaaGreat
/- What the functions on nodes compute,in plain Lean. Small functions on nodes. Copies of nodes,with reservations of their own. Printed by wip/nodec.py. -/
namespace Go.Proofs.YtbdicafambkhdaaGreat
open Go.Proofs.Tryz
open Go.RowKit
def dA (shut:Int) (x:Node):List Span:=if shut≤x.state then [⟨0,1000000⟩] else x.books
def rowsOf (l:List Node) (shut:Int):List (List Span):=if bT l=true then l.map (dA shut) else []
def passed (now:Int) (x:Span):Bool:=decide (now < x.jA)
def aeb (now:Int) (x:Node):Node:={ x with books:=x.books.filter (passed now) }
def Gi (l:List Node) (now:Int):List Node:=if bT l=true then l.map (aeb now) else []
def isNode (l:List Node) (n:Int):Bool:=jG n 0 ((l.length:Int) - 1)
def agQ (l:List Span) (from_:Int):Int:=idxOf (fun x=>decide (x.from_=from_)) l
def afh (l:List Node) (n from_:Int):ac4 :=
 if 400 < l.length then ⟨[],2⟩ else if bT l=false then ⟨[],1⟩ else if isNode l n=false then ⟨[],6⟩ else if agQ (nth l n.toNat).books from_ < 0 then ⟨[],6⟩
 else ⟨l.set n.toNat { nth l n.toNat with books:=(nth l n.toNat).books.filter fun x=>!decide (x.from_=from_) },0⟩
theorem qw {l:List Node} (h:bT l=true):1≤l.length∧l.length≤6:=by
 simp only [bT,Bool.and_eq_true] at h;have:=dR h.1;omega
theorem JQ {l:List Node} (h:bT l=true) {k:Nat} (hk:k < l.length):lU (nth l k)=true:=by
 simp only [bT,Bool.and_eq_true,List.all_eq_true] at h;exact h.2 _ (bG hk)
theorem nS {l:List Node} (h:bT l=true) {k:Nat} (hk:k < l.length):(nth l k).books.length≤4∧dH (nth l k).books=true:=by
 have:=JQ h hk;simp only [lU,Bool.and_eq_true,decide_eq_true_eq] at this;exact this.2
attribute [local irreducible] wpQuiet
end Go.Proofs.YtbdicafambkhdaaGreat
/- slices.DeleteFunc at spans,on a slice that lies in memory of its own. slices.Delete at spans: one element of a slice that lies in memory of its own is struck. Rows of spans in memory,cell by cell;copy of elements of several cells. slices.Insert of spans: the cells that it writes. slices.Insert of one span into a slice that has its memory for itself. -/
namespace Go.Proofs.YtbdicafambkhdaaGreat
open Go.Proofs.Tryz
open Go.RowKit
attribute [local irreducible] wpQuiet
set_option maxHeartbeats 1000000 in
set_option maxRecDepth 50000 in
theorem L8 {S:Nat→Prop} (l:List Span) (p:Span→Bool) (v:Value) (f:Nat) (caps:Array Value) (w:World) (h:Rd dM S w v l) (hcall:∀ (args:Array Value) (W:World),(callFunc f args).run prog W=.ok (.enter f args) W)
 (hf:∀ (cs:List Value) (x:Span) (w1:World),Ext w w1→dM.rel S w1 cs x→Calls prog f (#[.agg cs.toArray] ++ caps) w1 fun e w'=>e=.returned (.bool (p x))∧Ext w1 w') :
 Calls prog 240 #[v,.func (.func f) #[] caps] w fun e w'=>e=.returned (.int .i64 (idxOf p l))∧Ext w w':=by
 obtain ⟨A,c,rfl,h1,h2,hk⟩:=h.open_;unfold maxLen at h2;have HK:=ah hk;have HF:=ah hf;clear hk h hf;go_enter func240,ntmps240;go_wp2_with fail;go_loopw [8] (fun i w'=>∃ k:Nat,k≤l.length∧i=.int .i64 k∧(∀ j,j < k→p (nth l j)=false)∧Ext w w') (fun i _=>l.length - (intOf i).toNat);case atStart=>exact ⟨0,by omega,rfl,fun j hj=>by omega,Ext.refl _⟩
 case round =>
  obtain ⟨k,hk1,rfl,hall,hx⟩:=hrel;have HA:=ah hall;have HX:=ah hx;clear hall;by_cases hlt:k < l.length
  · obtain ⟨b,o,cs,rfl,hb,hr,hc⟩:=HK.out k hlt;have HR:=ah (dM.keep (hx.same S) hr);have HC:=ah (hx.range hc);have HI:Hid ((prog.info? 142).map (·.size)=some cs.length):=ah (by rw [dM.len hr];kernel_rfl);clear hr hc hx;by_cases hp:p (nth l k)=true
    · have HE:Hid (idxOf p l=k):=ah (iP hlt HA.out hp);go_wp2_with (first | (refine wpList_load_mid rfl 142 _ rfl b (o+k * 2) rfl cs _ HC.out underlying142 rfl HI.out ?_) | ((with_reducible refine (HF.out cs (nth l k) _ HX.out HR.out).mono ?_);rintro e w1 ⟨rfl,hx1⟩;have jf:=ah hx1;clear hx1));go_ret;exact ⟨aI HE.out.symm,HX.out.trans jf.out⟩
    · simp only [Bool.not_eq_true] at hp;have HE:=ah (all_succ HA.out hp);go_wp2_with (first | (refine wpList_load_mid rfl 142 _ rfl b (o+k * 2) rfl cs _ HC.out underlying142 rfl HI.out ?_) | ((with_reducible refine (HF.out cs (nth l k) _ HX.out HR.out).mono ?_);rintro e w1 ⟨rfl,hx1⟩;have jf:=ah hx1;clear hx1));go_roundw;case rel=>exact ⟨k+1,by omega,by go_num,HE.out,HX.out.trans jf.out⟩
      case measure=>simp [intOf];omega
  · have HE:Hid (idxOf p l = -1):=ah (iO fun j hj=>HA.out j (by omega));go_wp2_with fail;go_ret;exact ⟨aI HE.out.symm,HX.out⟩
theorem Et {S:Nat→Prop} (l:List Span) (p:Span→Bool) (v:Value) (f:Nat) (caps:Array Value) (w:World) (h:Rd dM S w v l) (hcall:∀ (args:Array Value) (W:World),(callFunc f args).run prog W=.ok (.enter f args) W)
 (hf:∀ (cs:List Value) (x:Span) (w1:World),Ext w w1→dM.rel S w1 cs x→Calls prog f (#[.agg cs.toArray] ++ caps) w1 fun e w'=>e=.returned (.bool (p x))∧Ext w1 w') :
 Calls prog 276 #[v,.func (.func f) #[] caps] w fun e w'=>e=.returned (.bool (l.any p))∧Ext w w':=by
 have HE:=ah (jr (p:=p) (l:=l));have H:=ah (L8 l p v f caps w h hcall hf);clear h hcall hf;go_enter func276,ntmps276;go_wp2_with (refine H.out.mono ?_;rintro e w1 ⟨rfl,hx1⟩;have jf:=ah hx1;clear hx1);go_ret;exact ⟨au HE.out,jf.out⟩
theorem AB {S:Nat→Prop} (l:List Span) (p:Span→Bool) (v:Value) (f:Nat) (c1:Value) (w:World) (h:Rd dM S w v l) (hcall:∀ (args:Array Value) (W:World),(callFunc f args).run prog W=.ok (.enter f args) W)
 (hf:∀ (cs:List Value) (x:Span) (w1:World),Ext w w1→dM.rel S w1 cs x→Calls prog f #[.agg cs.toArray,c1] w1 fun e w'=>e=.returned (.bool (p x))∧Ext w1 w') :
 Calls prog 276 #[v,.func (.func f) #[] #[c1]] w fun e w'=>e=.returned (.bool (l.any p))∧Ext w w' :=
 Et l p v f #[c1] w h hcall fun cs x w1 hx hr=>by rw [show (#[.agg cs.toArray] ++ #[c1]:Array Value) = #[.agg cs.toArray,c1] from rfl];exact hf cs x w1 hx hr
theorem ru {P:Program} (w:World) (t e ty:TypeId) (z:Value) (n:Nat) (ht:P.underlying t=some (.slice e)) (hv:∀ w,(zeroValue e).run P w=.ok z w) (h1:∀ v∈(Builtin.zeroCells z.cells n).toList,v.oneCell'=true) (b o c:Nat) (hn:0 < n)
 (hth:w.there b o (Builtin.zeroCells z.cells n).toList.length) :
 (Builtin.clear_ #[t] ty #[.slice (some ⟨b,o,none⟩) n c]).run P w=.ok (.tuple #[]) (w.setCells b o (Builtin.zeroCells z.cells n).toList):=by
 have hst:=run_storeCells_cells (P:=P) b o (Builtin.zeroCells z.cells n).toList 0 w (fun j hj=>by rw [Nat.add_zero];exact (hth j hj).1) (fun j hj=>by rw [Nat.add_zero];exact (hth j hj).2) h1;simp only [Nat.add_zero] at hst;obtain ⟨m,rfl⟩:∃ m,n=m+1:=⟨n - 1,by omega⟩
 simp [Builtin.clear_,run_underlying ht,hv,hst]
theorem aW.cut {α:Type} [Inhabited α] {E:Elem α} {hfl:∀ {S S':Nat→Prop} {w w':World} {cs x},E.rel S w cs x→E.rel S' w' cs x} {T:TypeId} {w w':World} {l:List α} {B c n m:Nat} {F:List Nat}
 (h:aW (lF E hfl) T w (.slice (some ⟨B,0,none⟩) l.length c) l F) (hl:0 < l.length) (hn:n≤l.length) (hr:dD T B (n * E.size) m w w'):∃ F',aW (lF E hfl) T w' (.slice (some ⟨B,0,none⟩) n c) (l.take n) F'∧∀ b∈F',b∈F:=by
 rcases h with ⟨rfl,_⟩ | ⟨B',c',C,Fs,hv,hB,h1,h2,h3,hlF,rfl,hnd,hall⟩
 · simp at hl
 · cases hv;obtain ⟨C0,C',g1,g2,g3,g4⟩:=hr;rw [hB] at g1;cases g1;have hlen:(l.take n).length=n:=by rw [List.length_take];omega
   refine ⟨B :: (Fs.take n).flatten,.inr ⟨B,c,C',Fs.take n,by rw [hlen],g2,by rw [hlen];omega,h2,by rw [g3,h3],by rw [hlen,List.length_take];omega,rfl,?_,fun k hk=>?_⟩,fun b hb=>?_⟩
   · have e:Fs.flatten=(Fs.take n).flatten ++ (Fs.drop n).flatten:=by rw [← List.flatten_append,List.take_append_drop]
     rw [e] at hnd;obtain ⟨h1',h2'⟩:=List.nodup_cons.1 hnd;exact List.nodup_cons.2 ⟨fun hm=>h1' (List.mem_append_left _ hm),(List.nodup_append.1 h2').1⟩
   · rw [hlen] at hk;obtain ⟨cs,ho,hc⟩:=hall k (by omega);have e1:nth (l.take n) k=nth l k:=by rw [aO (by omega),aO (by omega)];simp
     have e2:nth (Fs.take n) k=nth Fs k:=by rw [aO (by rw [List.length_take];omega),aO (by omega)];simp
     refine ⟨cs,by rw [e1,e2];exact ⟨hfl ho.1,ho.2⟩,fun i u hi=>?_⟩;have hil:i < E.size:=by have:=(List.getElem?_eq_some_iff.1 hi).1;rwa [E.len ho.1] at this
     have hcell:=hc i u hi;rw [cell_of_row w B _ C T (0,0) hB] at hcell;rw [cell_of_row w' B _ C' T (0,0) g2,g4 _ (.inl (Nat.lt_of_lt_of_le (Nat.add_lt_add_left hil _) (by rw [← Nat.succ_mul];exact Nat.mul_le_mul_right _ hk)))];exact hcell
   · rcases List.mem_cons.1 hb with rfl | hb
     · exact List.mem_cons_self ..
     · obtain ⟨G,hG,hb⟩:=List.mem_flatten.1 hb;exact List.mem_cons_of_mem _ (List.mem_flatten.2 ⟨G,List.mem_of_mem_take hG,hb⟩)
theorem CQ {α:Type} [Inhabited α] {m:List α} {i:Nat} {x:α} (h:i < m.length):(m.set i x).take (i+1)=m.take i ++ [x]:=by
 rw [List.take_succ_eq_append_getElem (by simpa using h),List.take_set_of_le (Nat.le_refl _)];simp
theorem JB {α:Type} [Inhabited α] {f:α→Bool} {l:List α} {k:Nat} (hk:k < l.length) (h:f (nth l k)=true):(l.take (k+1)).filter f=(l.take k).filter f ++ [nth l k]:=by
 rw [aV hk,List.filter_append];simp [h]
theorem yT {α:Type} [Inhabited α] {f:α→Bool} {l:List α} {k:Nat} (hk:k < l.length) (h:f (nth l k)=false):(l.take (k+1)).filter f=(l.take k).filter f:=by
 rw [aV hk,List.filter_append];simp [h]
theorem yS {α:Type} [Inhabited α] {f:α→Bool} {l:List α} (h:∀ j,j < l.length→f (nth l j)=true):l.filter f=l:=List.filter_eq_self.2 fun x hx=>by
 obtain ⟨i,hi,rfl⟩:=List.getElem_of_mem hx;have:=h i hi
 rwa [aO hi] at this
theorem aaM (n:Nat):(Builtin.zeroCells (Value.agg Zr.l).cells n).toList.length=n * 2∧∀ v∈(Builtin.zeroCells (Value.agg Zr.l).cells n).toList,v.oneCell'=true:=by
 refine ⟨by rw [Array.length_toList,size_zeroCells];rfl,fun v hv=>?_⟩;obtain ⟨i,hi,rfl⟩:=List.getElem_of_mem hv;simp only [Builtin.zeroCells,Array.getElem_toList,Array.getElem_map,Array.getElem_range];have h2:i % 2 < 2:=Nat.mod_lt _ (by decide);rcases (show i % 2=0∨i % 2=1 by omega) with h | h <;> simp [Value.cells,h,Value.oneCell']
section
variable {α:Type} [Inhabited α] {E:Elem α} {T:TypeId} {w:World} {l ys:List α} {P:Program} {hfl:∀ {S S':Nat→Prop} {w w':World} {cs x},E.rel S w cs x→E.rel S' w' cs x}
theorem zH (t ty:TypeId) (i:TypeInfo) (z:Value) (ht:P.underlying t=some (.slice T)) (hi:P.info? T=some i) (hz:i.zero=some z) (hsz:i.size=E.size) (hzs:z.cells.size=E.size) {B cap:Nat} {F:List Nat} {S:Nat→Prop}
 (hown:aW (lF E hfl) T w (.slice (some ⟨B,0,none⟩) l.length cap) l F) (hcap:0 < cap) (Bs os c:Nat) (hy:∀ k,k < ys.length→∃ cs,E.rel S w cs (nth ys k)∧w.rangeAt Bs (os+k * E.size) cs) (hroom:l.length+ys.length≤cap) (hs:cap≤maxLen) (hby:(l.length+ys.length) * i.bytes≤140737488355328) :
 ∃ w' F',(Builtin.append_ #[t,t] ty #[.slice (some ⟨B,0,none⟩) l.length cap,.slice (some ⟨Bs,os,none⟩) ys.length c]).run P w=.ok (.slice (some ⟨B,0,none⟩) (l.length+ys.length) cap) w'∧aW (lF E hfl) T w' (.slice (some ⟨B,0,none⟩) (l.length+ys.length) cap) (l ++ ys) F'∧Kept F w w'∧(∀ b∈F',b∈F∨w.heap.size≤b):=by
 have hy':∀ k,k < ys.length→∃ cs,(lF E hfl).own w cs (nth ys k) (nth (List.replicate ys.length []) k)∧w.rangeAt Bs (os+k * E.size) cs:=fun k hk=>by
  obtain ⟨cs,h1,h2⟩:=hy k hk;exact ⟨cs,⟨hfl h1,Gv (α:=α) hk⟩,h2⟩
 obtain ⟨v',w',F',hr,g2,g3,g4⟩:=CG (P:=P) (Gs:=List.replicate ys.length []) t ty i z ht hi hz hsz hzs hown Bs os c (by simp) hy' (by rw [lS,List.append_nil];exact hown.nodup) (fun b hb=>by rw [lS] at hb;cases hb) (Nat.le_trans hroom hs) hby;rcases hown with ⟨_,_,A,hv⟩ | ⟨B',cap',C,Fs,hv,hB,h1,h2,h3,hl,_,_,hk⟩
 · injection hv with _ _ hh;omega
 · injection hv with e1 e2 e3
   cases e1;subst e3;obtain ⟨hnews,hone⟩:=DI (uj hy');have hnl:(rowOf w Bs os (ys.length * E.size)).length=ys.length * i.size:=by rw [fU,hsz]
   have hfit:l.length * i.size+(rowOf w Bs os (ys.length * E.size)).length≤C.size:=by rw [hnl,h3,← Nat.add_mul,hsz];exact Nat.mul_le_mul_right _ hroom
   have hr2:=run_append_room (P:=P) w t ty T i ht hi B l.length cap C hB ⟨Bs,os,none⟩ ys.length c _ hnl (fun j u hj=>by rw [Addr.add_mid];exact hnews j u hj) hone hroom hfit;rw [hr] at hr2;injection hr2 with e1 e2
   subst e1;exact ⟨w',F',hr,g2,g3,fun b hb=>by
    have:=g4 b hb;rw [lS] at this;simpa using this⟩
theorem qE {ops:Array Oper} {o:Oper} {a:Act} {K:Act→World→Prop} {Q:Exit→Act→World→Prop} {X:Prop} (hgd:o.guard=none) (s x:Operand) (t:TypeId)
 (ho:o.op=.call { callee:=.builtin .append,args:=#[s,x],argTypes:=#[t,t] })
 (z:Value) (size bytes:Nat) (ht:P.underlying t=some (.slice T)) (hi:(P.info? T).map (fun i=>(i.zero,i.size,i.bytes))=some (some z,size,bytes)) (hsz:size=E.size) (hzs:z.cells.size=E.size) {B cap n m:Nat} {F:List Nat} {S:Nat→Prop}
 (hn:l.length=n) (hm:ys.length=m) (hs:a.eval s=.slice (some ⟨B,0,none⟩) n cap) (hown:aW (lF E hfl) T w (.slice (some ⟨B,0,none⟩) n cap) l F) (hcap:0 < cap) (Bs os c:Nat) (hx:a.eval x=.slice (some ⟨Bs,os,none⟩) m c)
 (hy:∀ k,k < m→∃ cs,E.rel S w cs (nth ys k)∧w.rangeAt Bs (os+k * E.size) cs) (hroom:n+m≤cap) (hs':cap≤maxLen) (hby:(n+m) * bytes≤140737488355328)
 (h:∀ w' F',aW (lF E hfl) T w' (.slice (some ⟨B,0,none⟩) (n+m) cap) (l ++ ys) F'→Kept F w w'→(∀ b∈F',b∈F∨w.heap.size≤b)→K (a.put o.dst (.slice (some ⟨B,0,none⟩) (n+m) cap)) w'):if Region.wanted o (yielded ops a.tmps)=true then Oper.wp P o a w K Q else X:=by
 have hw:Region.wanted o (yielded ops a.tmps)=true:=by simp [Region.wanted,hgd]
 rw [if_pos hw];subst hn hm;obtain ⟨i,h1,h2,h3,h4⟩:=info_parts hi;obtain ⟨w',F',hr,g2,g3,g4⟩:=zH (P:=P) t o.type i z ht h1 h2 (h3.trans hsz) hzs hown hcap Bs os c hy hroom hs' (by rw [h4];exact hby);unfold Oper.wp execOp;simp only [ho,resolve,invoke,builtin,Sem.run_bind,Sem.run_pure,Result.andThen_ok,List.map_toArray,List.map_cons,List.map_nil,hs,hx,hr];exact h w' F' g2 g3 g4
end
theorem aW.alk {α:Type} [Inhabited α] {E:Elem α} {hfl:∀ {S S':Nat→Prop} {w w':World} {cs x},E.rel S w cs x→E.rel S' w' cs x} {T:TypeId} {w w':World} {l:List α} {B c m n:Nat} {F:List Nat}
 (h:aW (lF E hfl) T w (.slice (some ⟨B,0,none⟩) n c) l F) (hl:l.length=n) (hc:0 < c) (hr:dD T B (n * E.size) m w w'):aW (lF E hfl) T w' (.slice (some ⟨B,0,none⟩) n c) l F:=by
 subst hl;rcases h with ⟨_,_,A,hv⟩ | ⟨B',c',C,Fs,hv,hB,h1,h2,h3,hlF,rfl,hnd,hall⟩
 · injection hv with _ _ hh;omega
 · cases hv;obtain ⟨C0,C',g1,g2,g3,g4⟩:=hr;rw [hB] at g1;cases g1;refine .inr ⟨B,c,C',Fs,rfl,g2,h1,h2,by rw [g3,h3],hlF,rfl,hnd,fun k hk=>?_⟩;obtain ⟨cs,ho,hc'⟩:=hall k hk;refine ⟨cs,⟨hfl ho.1,ho.2⟩,fun i u hi=>?_⟩;have hil:i < E.size:=by have:=(List.getElem?_eq_some_iff.1 hi).1;rwa [E.len ho.1] at this
   have hcell:=hc' i u hi;rw [cell_of_row w B _ C T (0,0) hB] at hcell;rw [cell_of_row w' B _ C' T (0,0) g2,g4 _ (.inl (Nat.lt_of_lt_of_le (Nat.add_lt_add_left hil _) (by rw [← Nat.succ_mul];exact Nat.mul_le_mul_right _ hk)))];exact hcell
theorem aW.ny {α:Type} [Inhabited α] {E:Elem α} {hfl:∀ {S S':Nat→Prop} {w w':World} {cs x},E.rel S w cs x→E.rel S' w' cs x} {T:TypeId} {w:World} {l:List α} {B c n:Nat} {F:List Nat}
 (h:aW (lF E hfl) T w (.slice (some ⟨B,0,none⟩) n c) l F) (hc:0 < c):F = [B]:=by
 rcases h with ⟨_,_,A,hv⟩ | ⟨B',c',C,Fs,hv,hB,h1,h2,h3,hlF,rfl,hnd,hall⟩
 · injection hv with _ _ hh;omega
 · cases hv;have:Fs.flatten = []:=List.flatten_eq_nil_iff.2 fun G hG=>by
    obtain ⟨i,hi,rfl⟩:=List.getElem_of_mem hG;obtain ⟨cs,ho,_⟩:=hall i (by omega);rw [← aO hi];exact ho.2
   rw [this]
end Go.Proofs.YtbdicafambkhdaaGreat
namespace Go.Proofs.YtbdicafambkhdaaGreat
open Go.Proofs.Tryz
open Go.RowKit
variable {T:TypeId} {w w':World} {v:Value} {l:List Span} {F:List Nat}
end Go.Proofs.YtbdicafambkhdaaGreat
namespace Go.Proofs.YtbdicafambkhdaaGreat
open Go.Proofs.Tryz
open Go.RowKit Go.Lib
attribute [local irreducible] wpQuiet
end Go.Proofs.YtbdicafambkhdaaGreat
