/- Memory that a value has for itself: blocks that nothing else leads to; append to a slice that lies so. No program in sight. -/
import Derived.Test.YtoblacfjmcpbmaaGreatGElems
import Derived.Laws.AppendOwn
import Derived.OwnWalk
namespace Go.Proofs.YtoblacfjmcpbmaaGreat
open Go.RowKit
structure Kept (F:List Nat) (w w':World):Prop where
 os:w'.os=w.os
 tape:w'.tape=w.tape
 output:w'.output=w.output
 size:w.heap.size≤w'.heap.size
 block:∀ b,b < w.heap.size→b∉F→w'.heap[b]? = w.heap[b]?
theorem Kept.refl (F:List Nat) (w:World):Kept F w w:=⟨rfl,rfl,rfl,Nat.le_refl _,fun _ _ _=>rfl⟩
theorem Kept.trans {F:List Nat} {a b c:World} (h:Kept F a b) (k:Kept F b c):Kept F a c :=
 ⟨k.os.trans h.os,k.tape.trans h.tape,k.output.trans h.output,Nat.le_trans h.size k.size,fun i hi hn=>(k.block i (Nat.lt_of_lt_of_le hi h.size) hn).trans (h.block i hi hn)⟩
theorem Kept.of_ext {F:List Nat} {w w':World} (h:Ext w w'):Kept F w w':=⟨h.os,h.tape,h.output,h.size,fun b hb _=>Below.block h b hb⟩
theorem Kept.sub {F G:List Nat} {w w':World} (h:Kept F w w') (hs:∀ b,b < w.heap.size→b∈F→b∈G):Kept G w w':=⟨h.os,h.tape,h.output,h.size,fun b hb hn=>h.block b hb fun hf=>hn (hs b hb hf)⟩
theorem Kept.ext {F:List Nat} {w0 w w':World} (hx:Ext w0 w) (h:Kept F w w') (hF:∀ b∈F,w0.heap.size≤b):Ext w0 w' :=
 Below.trans hx ⟨h.os,h.tape,h.output,h.size,fun b hb=>h.block b (Nat.lt_of_lt_of_le hb hx.size) fun hf=>by have:=hF b hf;omega⟩
theorem Kept.cell {F:List Nat} {w w':World} (h:Kept F w w') {b o:Nat} {u:Value} (hb:b∉F) (hc:w.cell? ⟨b,o,none⟩=some u):w'.cell? ⟨b,o,none⟩=some u:=by
 have:=World.block_lt_of_cell? w _ hc
 rw [← hc]
 exact World.cell?_of_block (h.block b this hb)
structure Own {α:Type} (E:Elem α) where
 own:World→List Value→α→List Nat→Prop
 rel:∀ {w cs x F},own w cs x F→E.rel (fun b=>b∈F) w cs x
 keep:∀ {w w' cs x F},(∀ b∈F,w'.heap[b]? = w.heap[b]?)→own w cs x F→own w' cs x F
 lt:∀ {w cs x F},own w cs x F→∀ b∈F,b < w.heap.size
 nodup:∀ {w cs x F},own w cs x F→F.Nodup
theorem nth_append_left {α:Type} [Inhabited α] {l m:List α} {k:Nat} (h:k < l.length):nth (l ++ m) k=nth l k:=by
 rw [nth_eq h,nth_eq (by rw [List.length_append];omega),List.getElem_append_left]
theorem nth_append_right {α:Type} [Inhabited α] {l m:List α} {k:Nat} (h:k < m.length):nth (l ++ m) (l.length+k)=nth m k:=by
 rw [nth_eq h,nth_eq (by rw [List.length_append];omega),List.getElem_append_right (by omega)]
 simp
theorem nth_mem_flatten {l:List (List Nat)} {k b:Nat} (hk:k < l.length) (hb:b∈nth l k):b∈l.flatten:=List.mem_flatten.2 ⟨_,nth_mem hk,hb⟩
def OwS {α:Type} [Inhabited α] {E:Elem α} (O:Own E) (T:TypeId) (w:World) (v:Value) (l:List α) (F:List Nat):Prop :=
 (l = []∧F = []∧∃ A,v=.slice A 0 0) ∨
 ∃ B c C Fs,v=.slice (some ⟨B,0,none⟩) l.length c∧w.heap[B]? = some (.cells C T (0,0))∧l.length≤c∧c≤maxLen∧C.size=c * E.size∧List.length Fs=l.length∧F=B :: Fs.flatten∧F.Nodup ∧
   ∀ k,k < l.length→∃ cs,O.own w cs (nth l k) (nth Fs k)∧w.rangeAt B (k * E.size) cs
section
variable {α:Type} [Inhabited α] {E:Elem α} {O:Own E} {T:TypeId} {w w':World} {v:Value} {l:List α} {F:List Nat}
theorem OwS.nil (A:Option Addr):OwS O T w (.slice A 0 0) [] []:=.inl ⟨rfl,rfl,A,rfl⟩
theorem OwS.nodup (h:OwS O T w v l F):F.Nodup:=by
 rcases h with ⟨_,rfl,_⟩ | ⟨_,_,_,_,_,_,_,_,_,_,_,hn,_⟩
 · exact List.nodup_nil
 · exact hn
theorem blk_lt {B:Nat} {o:Obj} (h:w.heap[B]? = some o):B < w.heap.size:=(Array.getElem?_eq_some_iff.1 h).1
theorem OwS.lt (h:OwS O T w v l F):∀ b∈F,b < w.heap.size:=by
 rcases h with ⟨_,rfl,_⟩ | ⟨B,c,C,Fs,_,hB,_,_,_,hl,rfl,_,hk⟩
 · intro b hb;cases hb
 · intro b hb
   rcases List.mem_cons.1 hb with rfl | hb
   · exact blk_lt hB
   · obtain ⟨G,hG,hb⟩:=List.mem_flatten.1 hb
     obtain ⟨i,hi,rfl⟩:=List.getElem_of_mem hG
     obtain ⟨cs,ho,_⟩:=hk i (by omega)
     exact O.lt ho b (by rw [nth_eq hi];exact hb)
theorem OwS.keep (h:OwS O T w v l F) (hb:∀ b∈F,w'.heap[b]? = w.heap[b]?):OwS O T w' v l F:=by
 rcases h with h | ⟨B,c,C,Fs,hv,hB,h1,h2,h3,hl,rfl,hn,hk⟩
 · exact .inl h
 · refine .inr ⟨B,c,C,Fs,hv,(hb B (List.mem_cons_self ..)).trans hB,h1,h2,h3,hl,rfl,hn,fun k hlt=>?_⟩
   obtain ⟨cs,ho,hc⟩:=hk k hlt
   refine ⟨cs,O.keep (fun b hm=>hb b (List.mem_cons_of_mem _ (nth_mem_flatten (by omega) hm))) ho,fun j u hj=>?_⟩
   rw [← hc j u hj]
   exact World.cell?_of_block (hb B (List.mem_cons_self ..))
theorem OwS.ext (h:OwS O T w v l F) (hx:Ext w w'):OwS O T w' v l F:=h.keep fun b hb=>Below.block hx b (h.lt b hb)
theorem OwS.kept {G:List Nat} (h:OwS O T w v l F) (hx:Kept G w w') (hd:∀ b∈F,b∉G):OwS O T w' v l F:=h.keep fun b hb=>hx.block b (h.lt b hb) (hd b hb)
theorem OwS.rd (h:OwS O T w v l F):Rd E (fun b=>b∈F) w v l:=by
 rcases h with ⟨rfl,rfl,A,rfl⟩ | ⟨B,c,C,Fs,rfl,hB,h1,h2,h3,hl,rfl,hn,hk⟩
 · exact Rd.nil (Nat.zero_le _)
 · refine ⟨_,_,rfl,h1,h2,fun k x hx=>?_⟩
   obtain ⟨hlt,hx'⟩:=List.getElem?_eq_some_iff.1 hx
   obtain ⟨cs,ho,hc⟩:=hk k hlt
   rw [nth_eq hlt,hx'] at ho
   exact ⟨B,0,cs,rfl,List.mem_cons_self ..,E.sub (fun b hb=>List.mem_cons_of_mem _ (nth_mem_flatten (by omega) hb)) (O.rel ho),by rw [Nat.zero_add];exact hc⟩
theorem OwS.form (h:OwS O T w v l F):∃ A c,v=.slice A l.length c∧l.length≤c∧c≤maxLen:=h.rd.form
end
def rowOf (w:World) (B o n:Nat):List Value:=(List.range n).map fun j=>(w.cell? ⟨B,o+j,none⟩).getD undef
theorem rowOf_length (w:World) (B o n:Nat):(rowOf w B o n).length=n:=by simp [rowOf]
theorem rowOf_get {w:World} {B o n j:Nat} (h:j < n):(rowOf w B o n)[j]? = some ((w.cell? ⟨B,o+j,none⟩).getD undef):=by
 simp [rowOf,List.getElem?_range h]
theorem cells_there_of {α:Type} [Inhabited α] {E:Elem α} {O:Own E} {w:World} {B o:Nat} {ys:List α} {Gs:List (List Nat)} (h:∀ k,k < ys.length→∃ cs,O.own w cs (nth ys k) (nth Gs k)∧w.rangeAt B (o+k * E.size) cs) :
 ∀ j,j < ys.length * E.size→∃ u,w.cell? ⟨B,o+j,none⟩=some u∧u.oneCell'=true:=by
 intro j hj
 have hs:0 < E.size:=by rcases Nat.eq_zero_or_pos E.size with h0 | h0;(rw [h0,Nat.mul_zero] at hj;omega);exact h0
 have hk:j / E.size < ys.length:=(Nat.div_lt_iff_lt_mul hs).2 hj
 obtain ⟨cs,ho,hc⟩:=h _ hk
 have hl:=E.len (O.rel ho)
 have hr:j % E.size < cs.length:=by rw [hl];exact Nat.mod_lt _ hs
 have e:o+j / E.size * E.size+j % E.size=o+j:=by have:=Nat.div_add_mod j E.size;rw [Nat.mul_comm] at this;omega
 refine ⟨cs[j % E.size],?_,E.one (O.rel ho) _ (List.getElem_mem hr)⟩
 rw [← e]
 exact hc _ _ (List.getElem?_eq_getElem hr)
theorem rowOf_cell {w:World} {B o n:Nat} (h:∀ j,j < n→∃ u,w.cell? ⟨B,o+j,none⟩=some u∧u.oneCell'=true):(∀ j u,(rowOf w B o n)[j]? = some u→w.cell? ⟨B,o+j,none⟩=some u)∧∀ u∈rowOf w B o n,u.oneCell'=true:=by
 constructor
 · intro j u hj
   have hlt:j < n:=by have:=(List.getElem?_eq_some_iff.1 hj).1;rwa [rowOf_length] at this
   rw [rowOf_get hlt] at hj
   obtain ⟨x,hx,_⟩:=h j hlt
   rw [hx] at hj ⊢
   exact hj
 · intro u hu
   simp only [rowOf,List.mem_map,List.mem_range] at hu
   obtain ⟨j,hj,rfl⟩:=hu
   obtain ⟨x,hx,h1⟩:=h j hj
   rw [hx];exact h1
section
variable {α:Type} [Inhabited α] {E:Elem α} {O:Own E} {T:TypeId} {w w':World} {l ys:List α} {P:Program}
theorem OwS.both {B B' c':Nat} {D:Array Value} {Fs Gs:List (List Nat)} {Bs os:Nat} (hB:w'.heap[B']? = some (.cells D T (0,0))) (h1:l.length+ys.length≤c') (h2:c'≤maxLen) (h3:D.size=c' * E.size)
 (hl:Fs.length=l.length) (hm:Gs.length=ys.length) (hn:(B' :: (Fs.flatten ++ Gs.flatten)).Nodup) (hkeep:∀ b,b∈Fs.flatten∨b∈Gs.flatten→w'.heap[b]? = w.heap[b]?)
 (hk:∀ k,k < l.length→∃ cs,O.own w cs (nth l k) (nth Fs k)∧w.rangeAt B (k * E.size) cs) (hy:∀ k,k < ys.length→∃ cs,O.own w cs (nth ys k) (nth Gs k)∧w.rangeAt Bs (os+k * E.size) cs)
 (d1:∀ j,j < l.length * E.size→D[j]? = w.cell? ⟨B,j,none⟩) (d2:∀ j,j < ys.length * E.size→D[l.length * E.size+j]? = w.cell? ⟨Bs,os+j,none⟩) :
 OwS O T w' (.slice (some ⟨B',0,none⟩) (l.length+ys.length) c') (l ++ ys) (B' :: (Fs.flatten ++ Gs.flatten)):=by
 refine .inr ⟨B',c',D,Fs ++ Gs,by rw [List.length_append],hB,by rw [List.length_append];exact h1,h2,h3,by simp [hl,hm],by simp,hn,fun k hlt=>?_⟩
 rw [List.length_append] at hlt
 by_cases hkl:k < l.length
 · obtain ⟨cs,ho,hc⟩:=hk k hkl
   rw [nth_append_left hkl,nth_append_left (by omega)]
   refine ⟨cs,O.keep (fun b hb=>hkeep b (.inl (nth_mem_flatten (by omega) hb))) ho,fun j u hj=>?_⟩
   have hjl:j < E.size:=by have:=(List.getElem?_eq_some_iff.1 hj).1;rwa [E.len (O.rel ho)] at this
   have hin:k * E.size+j < l.length * E.size:=Nat.lt_of_lt_of_le (Nat.add_lt_add_left hjl _) (by rw [← Nat.succ_mul];exact Nat.mul_le_mul_right _ hkl)
   rw [cell_of_row w' B' _ D T (0,0) hB,d1 _ hin]
   exact hc j u hj
 · obtain ⟨i,rfl⟩:∃ i,k=l.length+i:=⟨k - l.length,by omega⟩
   obtain ⟨cs,ho,hc⟩:=hy i (by omega)
   rw [nth_append_right (by omega),← hl,nth_append_right (by omega)]
   refine ⟨cs,O.keep (fun b hb=>hkeep b (.inr (nth_mem_flatten (by omega) hb))) ho,fun j u hj=>?_⟩
   have hjl:j < E.size:=by have:=(List.getElem?_eq_some_iff.1 hj).1;rwa [E.len (O.rel ho)] at this
   have hin:i * E.size+j < ys.length * E.size:=Nat.lt_of_lt_of_le (Nat.add_lt_add_left hjl _) (by rw [← Nat.succ_mul];exact Nat.mul_le_mul_right _ (by omega))
   rw [cell_of_row w' B' _ D T (0,0) hB,hl,Nat.add_mul,Nat.add_assoc,d2 _ hin,← Nat.add_assoc]
   exact hc j u hj
theorem run_append_ow {v:Value} {F:List Nat} {Gs:List (List Nat)} (t ty:TypeId) (i:TypeInfo) (z:Value) (ht:P.underlying t=some (.slice T)) (hi:P.info? T=some i) (hz:i.zero=some z) (hsz:i.size=E.size) (hzs:z.cells.size=E.size)
 (hown:OwS O T w v l F) (Bs os c:Nat) (hG:Gs.length=ys.length) (hy:∀ k,k < ys.length→∃ cs,O.own w cs (nth ys k) (nth Gs k)∧w.rangeAt Bs (os+k * E.size) cs) (hnd:(F ++ Gs.flatten).Nodup) (hF:∀ b∈Gs.flatten,b < w.heap.size)
 (h63:l.length+ys.length≤maxLen) (hby:(l.length+ys.length) * i.bytes≤140737488355328) :
 ∃ v' w' F',(Builtin.append_ #[t,t] ty #[v,.slice (some ⟨Bs,os,none⟩) ys.length c]).run P w=.ok v' w'∧OwS O T w' v' (l ++ ys) F'∧Kept F w w'∧(∀ b∈F',b∈F∨b∈Gs.flatten∨w.heap.size≤b):=by
 have hsmall:l.length+ys.length≤9223372036854775807:=by simp only [maxLen] at h63;omega
 have hcs:=cells_there_of hy
 obtain ⟨hnews,hone⟩:=rowOf_cell hcs
 have hnl:(rowOf w Bs os (ys.length * E.size)).length=ys.length * i.size:=by rw [rowOf_length,hsz]
 have hnews':∀ j u,(rowOf w Bs os (ys.length * E.size))[j]? = some u→w.cell? ((⟨Bs,os,none⟩:Addr).add j)=some u:=fun j u hj=>by rw [Addr.add_mid];exact hnews j u hj
 have newblk:∀ (D:Array Value),(w.drew.alloc (.cells D T)).heap[w.heap.size]? = some (.cells D T (0,0)):=fun D=>heap_alloc_new w.drew _
 have oldblk:∀ (D:Array Value) b,b < w.heap.size→(w.drew.alloc (.cells D T)).heap[b]? = w.heap[b]?:=fun D b hb=>Below.heap_alloc w.drew _ b hb
 have grownK:∀ (D:Array Value),Kept F w (w.drew.alloc (.cells D T)):=fun D=>⟨rfl,rfl,rfl,by simp,fun b hb _=>oldblk D b hb⟩
 rcases hown with ⟨rfl,rfl,A,rfl⟩ | ⟨B,cap,C,Fs,rfl,hB,h1,h2,h3,hl,rfl,hn,hk⟩
 · -- nothing there yet
   by_cases h0:ys.length=0
   · obtain rfl:ys = []:=List.eq_nil_of_length_eq_zero h0
     obtain rfl:Gs = []:=List.eq_nil_of_length_eq_zero hG
     refine ⟨.slice A 0 0,w,[],?_,OwS.nil A,Kept.refl _ _,fun b hb=>by cases hb⟩
     cases A with
     | none=>simp [Builtin.append_,run_underlying ht,sizeOf,typeInfo,hi,Builtin.lenOf,Builtin.firstCells,loadCells,loadCellsFrom]
     | some a=>simp [Builtin.append_,run_underlying ht,sizeOf,typeInfo,hi,Builtin.lenOf,Builtin.firstCells,loadCells,loadCellsFrom,storeCells]
   · have hD:∀ (n:Nat),ys.length≤n→((rowOf w Bs os (ys.length * E.size)).toArray ++ Builtin.zeroCells z.cells (n - ys.length)).size=n * E.size:=fun n hn=>by
      rw [Array.size_append,List.size_toArray,rowOf_length,size_zeroCells,hzs,← Nat.add_mul];congr 1;omega
     have fin:∀ n,ys.length≤n→n≤maxLen→OwS O T (w.drew.alloc (.cells ((rowOf w Bs os (ys.length * E.size)).toArray ++ Builtin.zeroCells z.cells (n - ys.length)) T)) (.slice (some ⟨w.heap.size,0,none⟩) ys.length n) ys (w.heap.size :: Gs.flatten):=fun n hn hm=>by
      have:=OwS.both (O:=O) (T:=T) (l:=([]:List α)) (ys:=ys) (w:=w) (B:=0) (B':=w.heap.size) (Fs:=[]) (Gs:=Gs) (Bs:=Bs) (os:=os) (newblk _) (by simpa using hn) hm (hD n hn) rfl hG
       (by simp only [List.flatten_nil,List.nil_append];exact List.nodup_cons.2 ⟨fun hb=>Nat.lt_irrefl _ (hF _ hb),by simpa using hnd⟩)
       (fun b hb=>oldblk _ b (hF b (by simpa using hb))) (fun k hk=>by simp at hk) hy (fun j hj=>by simp at hj) (fun j hj=>by
         obtain ⟨u,hu,_⟩:=hcs j hj
         rw [hu]
         simp only [List.length_nil,Nat.zero_mul,Nat.zero_add]
         rw [Array.getElem?_append_left (by rw [List.size_toArray,rowOf_length];exact hj),List.getElem?_toArray,rowOf_get hj,hu]
         rfl)
      simpa using this
     cases A with
     | none =>
       have hr:=run_append_nil (P:=P) w t ty T i z ht hi hz ⟨Bs,os,none⟩ ys.length c _ hnl hnews' (by omega) (by simp only [List.length_nil] at hsmall;omega) (by simp only [List.length_nil,Nat.zero_add] at hby;omega)
       refine ⟨_,_,_,hr,by simpa using fin _ (grownCap_ge _ _ _ _) (grownCap_le_maxLen _ _ _ _ (by simpa using h63)),grownK _,fun b hb=>?_⟩
       rcases List.mem_cons.1 hb with rfl | hb
       · exact .inr (.inr (Nat.le_refl _))
       · exact .inr (.inl hb)
     | some a =>
       have hr:=run_append_grow (P:=P) w t ty T i z ht hi hz a 0 0 [] (by simp) (fun j u hj=>by simp at hj) ⟨Bs,os,none⟩ ys.length c _ hnl hnews' (by omega) (by simp only [List.length_nil] at hsmall;omega) (growslice_fits (by omega) (by simpa using hby))
       simp only [Nat.zero_add] at hr
       refine ⟨_,_,_,hr,by simpa using fin _ (grownCap_ge _ _ _ _) (grownCap_le_maxLen _ _ _ _ (by simpa using h63)),grownK _,fun b hb=>?_⟩
       rcases List.mem_cons.1 hb with rfl | hb
       · exact .inr (.inr (Nat.le_refl _))
       · exact .inr (.inl hb)
 · have hfl:∀ b∈Fs.flatten,b < w.heap.size:=fun b hb=>(OwS.lt (O:=O) (T:=T) (l:=l) (.inr ⟨B,cap,C,Fs,rfl,hB,h1,h2,h3,hl,rfl,hn,hk⟩)) b (List.mem_cons_of_mem _ hb)
   have hnB:B∉Fs.flatten:=(List.nodup_cons.1 hn).1
   rw [List.cons_append] at hnd
   have hnB2:B∉Fs.flatten ++ Gs.flatten:=(List.nodup_cons.1 hnd).1
   have hold:=cells_there_of (o:=0) (fun k hlt=>by obtain ⟨cs,a,b⟩:=hk k hlt;exact ⟨cs,a,by rw [Nat.zero_add];exact b⟩)
   have hcell:∀ j,w.cell? ⟨B,j,none⟩=C[j]?:=fun j=>cell_of_row w B j C T (0,0) hB
   by_cases hroom:l.length+ys.length≤cap
   · have hfit:l.length * i.size+(rowOf w Bs os (ys.length * E.size)).length≤C.size:=by rw [hnl,h3,← Nat.add_mul,hsz];exact Nat.mul_le_mul_right _ hroom
     have hr:=run_append_room (P:=P) w t ty T i ht hi B l.length cap C hB ⟨Bs,os,none⟩ ys.length c _ hnl hnews' hone hroom hfit
     rw [hsz] at hr hfit
     have hle:l.length * E.size≤C.size:=by omega
     refine ⟨_,_,_,hr,OwS.both (w:=w) (B:=B) (Bs:=Bs) (os:=os) (setRow_heap w B C _ T _ hB) hroom h2 ?_ hl hG hnd ?_ hk hy ?_ ?_,⟨rfl,rfl,rfl,by simp [World.setRow],fun b _ hb=>setRow_other w B b _ (fun e=>hb (by rw [e];exact List.mem_cons_self ..))⟩,fun b hb=>?_⟩
     · simp only [List.size_toArray,List.length_append,List.length_take,List.length_drop,Array.length_toList,rowOf_length] at *
       omega
     · intro b hb
       refine setRow_other w B b _ (fun e=>hnB2 ?_)
       subst e
       exact List.mem_append.2 hb
     · intro j hj
       rw [hcell,List.getElem?_toArray,List.append_assoc,List.getElem?_append_left (by simp;omega),List.getElem?_take,if_pos hj]
       simp
     · intro j hj
       obtain ⟨u,hu,_⟩:=hcs j hj
       rw [List.getElem?_toArray,List.append_assoc,List.getElem?_append_right (by simp;omega),List.length_take,show min (l.length * E.size) C.toList.length=l.length * E.size from Nat.min_eq_left (by simpa using hle),Nat.add_sub_cancel_left,List.getElem?_append_left (by rw [rowOf_length];exact hj),rowOf_get hj,hu]
       rfl
     · rcases List.mem_cons.1 hb with rfl | hb
       · exact .inl (List.mem_cons_self ..)
       · rcases List.mem_append.1 hb with hb | hb
         · exact .inl (List.mem_cons_of_mem _ hb)
         · exact .inr (.inl hb)
   · obtain ⟨holds,_⟩:=rowOf_cell hold
     have hr:=run_append_grow (P:=P) w t ty T i z ht hi hz ⟨B,0,none⟩ l.length cap (rowOf w B 0 (l.length * E.size)) (by rw [rowOf_length,hsz]) (fun j u hj=>by rw [Addr.add_mid];exact holds j u hj) ⟨Bs,os,none⟩ ys.length c _ hnl hnews' (by omega) (by omega) (growslice_fits (by omega) hby)
     refine ⟨_,_,_,hr,OwS.both (w:=w) (B:=B) (Bs:=Bs) (os:=os) (newblk _) (grownCap_ge _ _ _ _) (grownCap_le_maxLen _ _ _ _ h63) ?_ hl hG ?_ ?_ hk hy ?_ ?_,grownK _,fun b hb=>?_⟩
     · have:=grownCap_ge w (l.length+ys.length) cap T
       rw [Array.size_append,Array.size_append,List.size_toArray,List.size_toArray,rowOf_length,rowOf_length,size_zeroCells,hzs,← Nat.add_mul,← Nat.add_mul]
       congr 1;omega
     · refine List.nodup_cons.2 ⟨fun hb=>?_,(List.nodup_cons.1 hnd).2⟩
       rcases List.mem_append.1 hb with hb | hb
       · exact Nat.lt_irrefl _ (hfl _ hb)
       · exact Nat.lt_irrefl _ (hF _ hb)
     · intro b hb
       rcases hb with hb | hb
       · exact oldblk _ b (hfl b hb)
       · exact oldblk _ b (hF b hb)
     · intro j hj
       obtain ⟨u,hu,_⟩:=hold j hj
       rw [Nat.zero_add] at hu
       rw [Array.append_assoc,Array.getElem?_append_left (by rw [List.size_toArray,rowOf_length];exact hj),List.getElem?_toArray,rowOf_get hj,Nat.zero_add,hu]
       rfl
     · intro j hj
       obtain ⟨u,hu,_⟩:=hcs j hj
       rw [Array.append_assoc,Array.getElem?_append_right (by rw [List.size_toArray,rowOf_length];omega),List.size_toArray,rowOf_length,Nat.add_sub_cancel_left,Array.getElem?_append_left (by rw [List.size_toArray,rowOf_length];exact hj),List.getElem?_toArray,rowOf_get hj,hu]
       rfl
     · rcases List.mem_cons.1 hb with rfl | hb
       · exact .inr (.inr (Nat.le_refl _))
       · rcases List.mem_append.1 hb with hb | hb
         · exact .inl (List.mem_cons_of_mem _ hb)
         · exact .inr (.inl hb)
end
section
variable {α:Type} [Inhabited α] {E:Elem α} {O:Own E} {T:TypeId} {w:World} {l ys:List α} {P:Program}
theorem wp_append_ow {o:Oper} {a:Act} {K:Act→World→Prop} {Q:Exit→Act→World→Prop} (s x:Operand) (t:TypeId)
 (ho:o.op=.call { callee:=.builtin .append,args:=#[s,x],argTypes:=#[t,t] })
 {v:Value} {F:List Nat} {Gs:List (List Nat)} (z:Value) (size bytes:Nat) (ht:P.underlying t=some (.slice T)) (hi:(P.info? T).map (fun i=>(i.zero,i.size,i.bytes))=some (some z,size,bytes)) (hsz:size=E.size) (hzs:z.cells.size=E.size)
 (hs:a.eval s=v) (hown:OwS O T w v l F) (Bs os c:Nat) (hx:a.eval x=.slice (some ⟨Bs,os,none⟩) ys.length c) (hG:Gs.length=ys.length) (hy:∀ k,k < ys.length→∃ cs,O.own w cs (nth ys k) (nth Gs k)∧w.rangeAt Bs (os+k * E.size) cs) (hnd:(F ++ Gs.flatten).Nodup) (hF:∀ b∈Gs.flatten,b < w.heap.size)
 (h63:l.length+ys.length≤maxLen) (hby:(l.length+ys.length) * bytes≤140737488355328)
 (h:∀ v' w' F',OwS O T w' v' (l ++ ys) F'→Kept F w w'→(∀ b∈F',b∈F∨b∈Gs.flatten∨w.heap.size≤b)→K (a.put o.dst v') w'):o.wp P a w K Q:=by
 obtain ⟨i,h1,h2,h3,h4⟩:=info_parts hi
 obtain ⟨v',w',F',hr,g2,g3,g4⟩:=run_append_ow (P:=P) t o.type i z ht h1 h2 (h3.trans hsz) hzs hown Bs os c hG hy hnd hF h63 (by rw [h4];exact hby)
 unfold Oper.wp execOp
 simp only [ho,resolve,invoke,builtin,Sem.run_bind,Sem.run_pure,Result.andThen_ok,List.map_toArray,List.map_cons,List.map_nil,hs,hx,hr]
 exact h v' w' F' g2 g3 g4
theorem wpList_append_one {ops:Array Oper} {rest:List Oper} {o:Oper} {a:Act} {Q:Exit→Act→World→Prop} (hgd:o.guard=none) (s x:Operand) (t:TypeId)
 (ho:o.op=.call { callee:=.builtin .append,args:=#[s,x],argTypes:=#[t,t] })
 {v:Value} {F G:List Nat} {y:α} {cs:List Value} (z:Value) (size bytes:Nat) (ht:P.underlying t=some (.slice T)) (hi:(P.info? T).map (fun i=>(i.zero,i.size,i.bytes))=some (some z,size,bytes)) (hsz:size=E.size) (hzs:z.cells.size=E.size)
 (hs:a.eval s=v) (hown:OwS O T w v l F) (Bs os c:Nat) (hx:a.eval x=.slice (some ⟨Bs,os,none⟩) 1 c) (hy:O.own w cs y G) (hr:w.rangeAt Bs os cs) (hnd:(F ++ G).Nodup)
 (hlen:l.length≤1000000000) (hb:bytes≤1000)
 (h:∀ v' w' F',OwS O T w' v' (l ++ [y]) F'→Kept F w w'→(∀ b∈F',b∈F∨b∈G∨w.heap.size≤b)→wpList P ops Q rest (a.put o.dst v') w'):wpList P ops Q (o :: rest) a w :=
 wpList_plain hgd fun _ hK=>wp_append_ow (ys:=[y]) (Gs:=[G]) s x t ho z size bytes ht hi hsz hzs hs hown Bs os c hx rfl
  (fun k hk=>by
    obtain rfl:k=0:=by simpa using hk
    exact ⟨cs,hy,by rw [Nat.zero_mul,Nat.add_zero];exact hr⟩) (by simpa using hnd) (fun b hb=>O.lt hy b (by simpa using hb)) (by unfold maxLen;simp only [List.length_cons,List.length_nil];omega)
  (by simp only [List.length_cons,List.length_nil];exact Nat.le_trans (Nat.mul_le_mul (by omega:l.length+(0+1)≤1000000001) hb) (by decide)) fun v' w' F' g1 g2 g3=>hK _ _ (h v' w' F' g1 g2 fun b hb=>by simpa using g3 b hb)
end
def OFlat {α:Type} (E:Elem α) (h:∀ {S S':Nat→Prop} {w w':World} {cs x},E.rel S w cs x→E.rel S' w' cs x):Own E where
 own:=fun w cs x F=>E.rel (fun _=>False) w cs x∧F = []
 rel:=fun h1=>h h1.1
 keep:=fun _ h1=>⟨h h1.1,h1.2⟩
 lt:=fun h1 b hb=>by rw [h1.2] at hb;cases hb
 nodup:=fun h1=>by rw [h1.2];exact List.nodup_nil
def ORow {α:Type} [Inhabited α] {E:Elem α} (O:Own E) (T:TypeId):Own (ERow E) where
 own:=fun w cs l F=>∃ v,cs = [v]∧OwS O T w v l F
 rel:=by rintro _ _ _ _ ⟨v,rfl,h⟩;exact ⟨v,rfl,h.rd⟩
 keep:=by rintro _ _ _ _ _ hb ⟨v,rfl,h⟩;exact ⟨v,rfl,h.keep hb⟩
 lt:=by rintro _ _ _ _ ⟨v,rfl,h⟩;exact h.lt
 nodup:=by rintro _ _ _ _ ⟨v,rfl,h⟩;exact h.nodup
theorem flat_list {α:Type} [Inhabited α] {n k:Nat} (h:k < n):nth (List.replicate n ([]:List Nat)) k = []:=by
 rw [nth_eq (by simpa using h)];simp
theorem flat_flatten (n:Nat):(List.replicate n ([]:List Nat)).flatten = []:=by
 induction n with
 | zero=>rfl
 | succ n ih=>rw [List.replicate_succ,List.flatten_cons,ih];rfl
section
variable {α:Type} [Inhabited α] {E:Elem α} {T:TypeId} {w:World} {l ys:List α} {P:Program} {hfl:∀ {S S':Nat→Prop} {w w':World} {cs x},E.rel S w cs x→E.rel S' w' cs x}
theorem wp_append_flat {o:Oper} {a:Act} {K:Act→World→Prop} {Q:Exit→Act→World→Prop} (s x:Operand) (t:TypeId)
 (ho:o.op=.call { callee:=.builtin .append,args:=#[s,x],argTypes:=#[t,t] })
 {v u:Value} {F:List Nat} {S:Nat→Prop} (z:Value) (size bytes:Nat) (ht:P.underlying t=some (.slice T)) (hi:(P.info? T).map (fun i=>(i.zero,i.size,i.bytes))=some (some z,size,bytes)) (hsz:size=E.size) (hzs:z.cells.size=E.size)
 (hs:a.eval s=v) (hown:OwS (OFlat E hfl) T w v l F) (hx:a.eval x=u) (hr:Rd E S w u ys)
 (h63:l.length+ys.length≤maxLen) (hby:(l.length+ys.length) * bytes≤140737488355328)
 (h:∀ v' w' F',OwS (OFlat E hfl) T w' v' (l ++ ys) F'→Kept F w w'→(∀ b∈F',b∈F∨w.heap.size≤b)→K (a.put o.dst v') w'):o.wp P a w K Q:=by
 obtain ⟨A,c,rfl,h1,h2,hk⟩:=hr.open_
 cases A with
 | none =>
   have h0:ys.length=0:=by
    rcases Nat.eq_zero_or_pos ys.length with h0 | h0
    · exact h0
    · obtain ⟨_,_,_,h',_⟩:=hk 0 h0
      cases h'
   obtain rfl:ys = []:=List.eq_nil_of_length_eq_zero h0
   obtain ⟨i,i1,i2,i3,i4⟩:=info_parts hi
   obtain ⟨B,cv,rfl,g1,g2⟩:=hown.form
   have hrun:(Builtin.append_ #[t,t] o.type #[.slice B l.length cv,.slice none 0 c]).run P w=.ok (.slice B l.length cv) w:=by
    cases B with
    | none =>
      have hl0:l.length=0:=by
       rcases hown with ⟨rfl,_⟩ | ⟨_,_,_,_,hv,_⟩
       · rfl
       · cases hv
      simp [Builtin.append_,run_underlying ht,sizeOf,typeInfo,i1,Builtin.lenOf,Builtin.firstCells,hl0]
    | some b=>simp [Builtin.append_,run_underlying ht,sizeOf,typeInfo,i1,Builtin.lenOf,Builtin.firstCells,loadCells,storeCells,g1]
   unfold Oper.wp execOp
   simp only [ho,resolve,invoke,builtin,Sem.run_bind,Sem.run_pure,Result.andThen_ok,List.map_toArray,List.map_cons,List.map_nil,hs,hx,List.length_nil,hrun]
   exact h _ _ F (by rw [List.append_nil];exact hown) (Kept.refl _ _) fun b hb=>.inl hb
 | some ad =>
   by_cases h0:ys.length=0
   · obtain rfl:ys = []:=List.eq_nil_of_length_eq_zero h0
     obtain ⟨i,i1,i2,i3,i4⟩:=info_parts hi
     obtain ⟨B,cv,rfl,g1,g2⟩:=hown.form
     have hrun:(Builtin.append_ #[t,t] o.type #[.slice B l.length cv,.slice (some ad) 0 c]).run P w=.ok (.slice B l.length cv) w:=by
      cases B with
      | none =>
        have hl0:l.length=0:=by
         rcases hown with ⟨rfl,_⟩ | ⟨_,_,_,_,hv,_⟩
         · rfl
         · cases hv
        simp [Builtin.append_,run_underlying ht,sizeOf,typeInfo,i1,Builtin.lenOf,Builtin.firstCells,loadCells,loadCellsFrom,hl0]
      | some b=>simp [Builtin.append_,run_underlying ht,sizeOf,typeInfo,i1,Builtin.lenOf,Builtin.firstCells,loadCells,loadCellsFrom,storeCells,g1]
     unfold Oper.wp execOp
     simp only [ho,resolve,invoke,builtin,Sem.run_bind,Sem.run_pure,Result.andThen_ok,List.map_toArray,List.map_cons,List.map_nil,hs,hx,List.length_nil,hrun]
     exact h _ _ F (by rw [List.append_nil];exact hown) (Kept.refl _ _) fun b hb=>.inl hb
   · obtain ⟨b,q,cs,hA,_,_,_⟩:=hk 0 (by omega)
     cases hA
     refine wp_append_ow (Gs:=List.replicate ys.length []) s x t ho z size bytes ht hi hsz hzs hs hown b q c hx (by simp) (fun k hlt=>?_) (by rw [flat_flatten,List.append_nil];exact hown.nodup) (fun b hb=>by rw [flat_flatten] at hb;cases hb) h63 hby (fun v' w' F' g1 g2 g3=>h v' w' F' g1 g2 fun b hb=>by
      have:=g3 b hb
      rw [flat_flatten] at this
      simpa using this)
     obtain ⟨b',q',cs',hA',_,hr',hc'⟩:=hk k hlt
     cases hA'
     exact ⟨cs',⟨hfl hr',flat_list (α:=α) hlt⟩,hc'⟩
theorem wpList_append_flat {ops:Array Oper} {rest:List Oper} {o:Oper} {a:Act} {Q:Exit→Act→World→Prop} (hgd:o.guard=none) (s x:Operand) (t:TypeId)
 (ho:o.op=.call { callee:=.builtin .append,args:=#[s,x],argTypes:=#[t,t] })
 {v u:Value} {F:List Nat} {S:Nat→Prop} (z:Value) (size bytes:Nat) (ht:P.underlying t=some (.slice T)) (hi:(P.info? T).map (fun i=>(i.zero,i.size,i.bytes))=some (some z,size,bytes)) (hsz:size=E.size) (hzs:z.cells.size=E.size)
 (hs:a.eval s=v) (hown:OwS (OFlat E hfl) T w v l F) (hx:a.eval x=u) (hr:Rd E S w u ys)
 (h63:l.length+ys.length≤maxLen) (hby:(l.length+ys.length) * bytes≤140737488355328)
 (h:∀ v' w' F',OwS (OFlat E hfl) T w' v' (l ++ ys) F'→Kept F w w'→(∀ b∈F',b∈F∨w.heap.size≤b)→wpList P ops Q rest (a.put o.dst v') w'):wpList P ops Q (o :: rest) a w :=
 wpList_plain hgd fun _ hK=>wp_append_flat s x t ho z size bytes ht hi hsz hzs hs hown hx hr h63 hby fun v' w' F' g1 g2 g3=>hK _ _ (h v' w' F' g1 g2 g3)
end
def RowBut (T:TypeId) (B o n:Nat) (w w':World):Prop :=
 ∃ C C':Array Value,w.heap[B]? = some (.cells C T (0,0))∧w'.heap[B]? = some (.cells C' T (0,0))∧C'.size=C.size∧∀ j,(j < o∨o+n≤j)→C'[j]? = C[j]?
section
variable {T:TypeId} {B o n:Nat} {w w':World}
theorem RowBut.refl {C:Array Value} (h:w.heap[B]? = some (.cells C T (0,0))):RowBut T B o n w w:=⟨C,C,h,h,rfl,fun _ _=>rfl⟩
theorem RowBut.frozen (h:RowBut T B o n w w') (i:Nat):w'.frozen? ⟨B,i,none⟩=false:=by
 obtain ⟨_,C',_,g2,_⟩:=h
 exact cells_frozen g2 i
theorem RowBut.setCell (h:RowBut T B o n w w') {i:Nat} (h1:o≤i) (h2:i < o+n) (v:Value):RowBut T B o n w (w'.setCell ⟨B,i,none⟩ v):=by
 obtain ⟨C,C',g1,g2,g3,g4⟩:=h
 refine ⟨C,C'.setIfInBounds i v,g1,by simp [World.setCell,Array.getElem?_modify,g2],by simpa using g3,fun j hj=>?_⟩
 rw [Array.getElem?_setIfInBounds_ne (by omega)]
 exact g4 j hj
theorem RowBut.kept {F:List Nat} {w2:World} (h:RowBut T B o n w w') (hk:Kept F w' w2) (hB:B∉F):RowBut T B o n w w2:=by
 obtain ⟨C,C',g1,g2,g3,g4⟩:=h
 exact ⟨C,C',g1,(hk.block B (blk_lt g2) hB).trans g2,g3,g4⟩
theorem Kept.setCell {F:List Nat} (h:Kept F w w') {p:Addr} (hp:p.block∈F) (v:Value):Kept F w (w'.setCell p v) :=
 h.trans ⟨rfl,rfl,rfl,by simp [World.setCell],fun b _ hn=>Below.heap_setCell w' p v b fun e=>hn (by rw [e];exact hp)⟩
theorem Kept.setCells {F:List Nat} {B:Nat} (hp:B∈F):∀ (vs:List Value) (w':World) (o:Nat),Kept F w w'→Kept F w (w'.setCells B o vs)
 | [],_,_,h=>h
 | v :: r,_,o,h=>Kept.setCells hp r _ (o+1) (h.setCell (p:=⟨B,o,none⟩) hp v)
theorem RowBut.setCells:∀ (vs:List Value) (w':World) (i:Nat),RowBut T B o n w w'→o≤i→i+vs.length≤o+n→RowBut T B o n w (w'.setCells B i vs)
 | [],_,_,h,_,_=>h
 | v :: r,_,i,h,h1,h2=>RowBut.setCells r _ (i+1) (h.setCell h1 (by simp only [List.length_cons] at h2;omega) v) (by omega) (by simp only [List.length_cons] at h2;omega)
end
theorem nth_set_eq {α:Type} [Inhabited α] {l:List α} {k:Nat} {x:α} (h:k < l.length):nth (l.set k x) k=x:=by
 rw [nth_eq (by simpa using h)];simp
theorem nth_set_ne {α:Type} [Inhabited α] {l:List α} {k j:Nat} {x:α} (h:j≠k) (hj:j < l.length):nth (l.set k x) j=nth l j:=by
 rw [nth_eq (by simpa using hj),nth_eq hj,List.getElem_set_ne (Ne.symm h)]
theorem nodup_flatten_disj {l:List (List Nat)} (h:l.flatten.Nodup) {i j b:Nat} (hi:i < l.length) (hj:j < l.length) (hb:b∈nth l i) (hc:b∈nth l j):i=j:=by
 induction l generalizing i j with
 | nil=>simp at hi
 | cons x l ih =>
   rw [List.flatten_cons,List.nodup_append] at h
   cases i with
   | zero =>
     cases j with
     | zero=>rfl
     | succ j=>exact absurd rfl (h.2.2 b (by simpa [nth] using hb) b (nth_mem_flatten (by simpa using hj) (by simpa [nth] using hc)))
   | succ i =>
     cases j with
     | zero=>exact absurd rfl (h.2.2 b (by simpa [nth] using hc) b (nth_mem_flatten (by simpa using hi) (by simpa [nth] using hb)))
     | succ j=>exact congrArg Nat.succ (ih h.2.1 (by simpa using hi) (by simpa using hj) (by simpa [nth] using hb) (by simpa [nth] using hc))
section
variable {α:Type} [Inhabited α] {E:Elem α} {O:Own E} {T:TypeId} {w:World} {l:List α} {v:Value} {F:List Nat}
theorem OwS.at (h:OwS O T w v l F) {k:Nat} (hk:k < l.length):∃ B c G cs,v=.slice (some ⟨B,0,none⟩) l.length c∧B∈F∧B∉G∧(∀ b∈G,b∈F)∧O.own w cs (nth l k) G∧w.rangeAt B (k * E.size) cs∧(∀ i,w.frozen? ⟨B,i,none⟩=false)∧w.there B (k * E.size) E.size∧RowBut T B (k * E.size) E.size w w ∧
 ∀ w' x' cs',Kept (B :: G) w w'→RowBut T B (k * E.size) E.size w w'→O.own w' cs' x' G→w'.rangeAt B (k * E.size) cs'→OwS O T w' v (l.set k x') F:=by
 rcases h with ⟨rfl,_⟩ | ⟨B,c,C,Fs,rfl,hB,h1,h2,h3,hl,rfl,hn,hall⟩
 · simp at hk
 · obtain ⟨cs,ho,hc⟩:=hall k hk
   have hBn:=(List.nodup_cons.1 hn).1
   have hin:k * E.size+E.size≤C.size:=by rw [h3,← Nat.succ_mul];exact Nat.mul_le_mul_right _ (by omega)
   refine ⟨B,c,nth Fs k,cs,rfl,List.mem_cons_self ..,fun hb=>hBn (nth_mem_flatten (by omega) hb),fun b hb=>List.mem_cons_of_mem _ (nth_mem_flatten (by omega) hb),ho,hc,cells_frozen hB,cells_there hB hin,RowBut.refl hB,fun w' x' cs' hkp hrow ho' hc'=>?_⟩
   obtain ⟨C0,C',g1,g2,g3,g4⟩:=hrow
   rw [hB] at g1
   cases g1
   refine .inr ⟨B,c,C',Fs,by rw [List.length_set],g2,by rw [List.length_set];exact h1,h2,by rw [g3,h3],by rw [List.length_set];exact hl,rfl,hn,fun j hj=>?_⟩
   rw [List.length_set] at hj
   by_cases e:j=k
   · subst e
     exact ⟨cs',by rw [nth_set_eq hk];exact ho',hc'⟩
   · obtain ⟨ds,hd,hdc⟩:=hall j hj
     rw [nth_set_ne e hj]
     refine ⟨ds,O.keep (fun b hb=>hkp.block b (O.lt hd b hb) fun hm=>?_) hd,fun i u hi=>?_⟩
     · rcases List.mem_cons.1 hm with rfl | hm
       · exact hBn (nth_mem_flatten (by omega) hb)
       · exact e (nodup_flatten_disj (List.nodup_cons.1 hn).2 (by omega) (by omega) hb hm)
     · have hil:i < E.size:=by have:=(List.getElem?_eq_some_iff.1 hi).1;rwa [E.len (O.rel hd)] at this
       have hcell:=hdc i u hi
       rw [cell_of_row w B _ C T (0,0) hB] at hcell
       rw [cell_of_row w' B _ C' T (0,0) g2,g4 _ ?_]
       · exact hcell
       · rcases Nat.lt_or_ge j k with hjk | hjk
         · left
           exact Nat.lt_of_lt_of_le (Nat.add_lt_add_left hil _) (by rw [← Nat.succ_mul];exact Nat.mul_le_mul_right _ hjk)
         · right
           have:k * E.size+E.size≤j * E.size:=by rw [← Nat.succ_mul];exact Nat.mul_le_mul_right _ (by omega)
           omega
end
def RetO {α:Type} [Inhabited α] {E:Elem α} (O:Own E) (T:TypeId) (l:List α) (w:World) (e:Ending) (w':World):Prop:=∃ v F,e=.returned v∧OwS O T w' v l F∧(∀ b∈F,w.heap.size≤b)∧Ext w w'
def RetOS {α:Type} {E:Elem α} (O:Own E) (x:α) (w:World) (e:Ending) (w':World):Prop:=∃ (cs:List Value) (F:List Nat),e=.returned (.agg cs.toArray)∧O.own w' cs x F∧(∀ b∈F,w.heap.size≤b)∧Ext w w'
def PartO {α:Type} [Inhabited α] {E:Elem α} (O:Own E) (w:World) (B:Nat) (T:TypeId) (l:List α) (k:Nat):Prop :=
 ∃ (C:Array Value) (Fs:List (List Nat)),w.heap[B]? = some (.cells C T (0,0))∧C.size=l.length * E.size∧Fs.length=k∧(B :: Fs.flatten).Nodup∧(∀ b∈Fs.flatten,B < b)∧∀ j,j < k→∃ cs,O.own w cs (nth l j) (nth Fs j)∧w.rangeAt B (j * E.size) cs
section
variable {α:Type} [Inhabited α] {E:Elem α} {O:Own E} {w w1:World} {B:Nat} {T:TypeId} {l:List α} {k:Nat}
theorem PartO.new (w:World) (C:Array Value) (hC:C.size=l.length * E.size):PartO O (w.alloc (.cells C T)) w.heap.size T l 0:=⟨C,[],heap_alloc_new w _,hC,rfl,by simp,fun b hb=>by simp at hb,fun j hj=>by omega⟩
theorem PartO.lt (h:PartO O w B T l k):B < w.heap.size:=by
 obtain ⟨C,Fs,h1,_⟩:=h
 exact blk_lt h1
theorem PartO.flat (h:PartO O w B T l k):∃ Fs:List (List Nat),Fs.length=k∧(∀ b∈Fs.flatten,b < w.heap.size):=by
 obtain ⟨C,Fs,h1,h2,h3,h4,h5,h6⟩:=h
 refine ⟨Fs,h3,fun b hb=>?_⟩
 obtain ⟨G,hG,hb⟩:=List.mem_flatten.1 hb
 obtain ⟨i,hi,rfl⟩:=List.getElem_of_mem hG
 obtain ⟨cs,ho,_⟩:=h6 i (by omega)
 exact O.lt ho b (by rw [nth_eq hi];exact hb)
theorem PartO.ext (h:PartO O w B T l k) (hx:Ext w w1):PartO O w1 B T l k:=by
 obtain ⟨C,Fs,h1,h2,h3,h4,h5,h6⟩:=h
 refine ⟨C,Fs,(Below.block hx B (blk_lt h1)).trans h1,h2,h3,h4,h5,fun j hj=>?_⟩
 obtain ⟨cs,ho,hc⟩:=h6 j hj
 exact ⟨cs,O.keep (fun b hb=>Below.block hx b (O.lt ho b hb)) ho,hx.range hc⟩
theorem PartO.there (h:PartO O w B T l k) (hk:k < l.length):w.there B (k * E.size) E.size:=by
 obtain ⟨C,Fs,h1,h2,_⟩:=h
 refine cells_there h1 ?_
 rw [h2,← Nat.succ_mul]
 exact Nat.mul_le_mul_right _ hk
theorem PartO.step {cs:List Value} {G:List Nat} (h:PartO O w B T l k) (hx:Ext w w1) (hk:k < l.length) (ho:O.own w1 cs (nth l k) G) (hG:∀ b∈G,w.heap.size≤b):PartO O (w1.setCells B (k * E.size) cs) B T l (k+1):=by
 have ht:=(h.ext hx).there hk
 have hB:=h.lt
 obtain ⟨C,Fs,h1,h2,h3,h4,h5,h6⟩:=h
 have hfl:∀ b∈Fs.flatten,b < w.heap.size:=fun b hb=>by
  obtain ⟨G',hG',hb⟩:=List.mem_flatten.1 hb
  obtain ⟨i,hi,rfl⟩:=List.getElem_of_mem hG'
  obtain ⟨cs',ho',_⟩:=h6 i (by omega)
  exact O.lt ho' b (by rw [nth_eq hi];exact hb)
 obtain ⟨C',h7,h8⟩:=setCells_heap cs w1 (k * E.size) C ((Below.block hx B (blk_lt h1)).trans h1)
 have hK:Kept [B] w1 (w1.setCells B (k * E.size) cs):=Kept.setCells (List.mem_singleton.2 rfl) _ _ _ (Kept.refl _ _)
 refine ⟨C',Fs ++ [G],h7,by omega,by simp [h3],?_,?_,fun j hj=>?_⟩
 · rw [List.flatten_append,List.flatten_singleton]
   have hn:=List.nodup_cons.1 h4
   refine List.nodup_cons.2 ⟨fun hm=>?_,List.nodup_append.2 ⟨hn.2,O.nodup ho,fun a ha b hb e=>?_⟩⟩
   · rcases List.mem_append.1 hm with hm | hm
     · exact hn.1 hm
     · have:=hG _ hm;omega
   · have h9:=hfl a ha
     have h10:=hG b hb
     omega
 · intro b hb
   rw [List.flatten_append,List.flatten_singleton] at hb
   rcases List.mem_append.1 hb with hb | hb
   · exact h5 b hb
   · have:=hG b hb;omega
 · rcases Nat.lt_or_ge j k with hlt | hge
   · obtain ⟨es,ho',hc'⟩:=h6 j hlt
     rw [nth_append_left (by omega)]
     refine ⟨es,O.keep (fun b hb=>?_) (O.keep (fun b hb=>Below.block hx b (O.lt ho' b hb)) ho'),World.rangeAt_setCells_apart (hx.range hc') _ _ _ (.inr (.inl ?_))⟩
     · refine hK.block b (Nat.lt_of_lt_of_le (O.lt ho' b hb) hx.size) fun hm=>?_
       have:=h5 b (nth_mem_flatten (by omega) hb)
       have e:=List.mem_singleton.1 hm
       omega
     · rw [E.len (O.rel ho'),← Nat.succ_mul]
       exact Nat.mul_le_mul_right _ hlt
   · obtain rfl:j=k:=by omega
     have hn:nth (Fs ++ [G]) j=G:=by
      have:=nth_append_right (l:=Fs) (m:=[G]) (k:=0) (by simp)
      rw [h3] at this
      exact this
     rw [hn]
     refine ⟨cs,O.keep (fun b hb=>hK.block b (O.lt ho b hb) fun hm=>?_) ho,World.rangeAt_setCells_same w1 B _ cs (by rw [E.len (O.rel ho)];exact ht)⟩
     have:=hG b hb
     have e:=List.mem_singleton.1 hm
     omega
theorem PartO.done (h:PartO O w B T l l.length) (hm:l.length≤maxLen):∃ F,OwS O T w (.slice (some ⟨B,0,none⟩) l.length l.length) l F∧∀ b∈F,B≤b:=by
 obtain ⟨C,Fs,h1,h2,h3,h4,h5,h6⟩:=h
 refine ⟨B :: Fs.flatten,.inr ⟨B,l.length,C,Fs,rfl,h1,Nat.le_refl _,hm,h2,h3,rfl,h4,h6⟩,fun b hb=>?_⟩
 rcases List.mem_cons.1 hb with rfl | hb
 · exact Nat.le_refl _
 · exact Nat.le_of_lt (h5 b hb)
theorem nodup_two {F G:List Nat} (hF:F.Nodup) (hG:G.Nodup) (hd:∀ b∈F,b∉G):(F ++ G).Nodup:=List.nodup_append.2 ⟨hF,hG,fun a ha _ hb e=>hd a ha (e ▸ hb)⟩
end
end Go.Proofs.YtoblacfjmcpbmaaGreat
