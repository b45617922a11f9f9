/- Lists whose elements bear numbers in a row; in plain Lean. One element of a row is given other memory of its own; the first elements of a row that lies in memory of its own. No program in sight. -/
import Derived.Test.YtlonjlaecaemgaaOwn
namespace Go.Proofs.Ytlonjlaecaemgaa
open Go.RowKit
section
variable {α:Type}
variable {m:Int→α→α} {n:α→Nat}
end
end Go.Proofs.Ytlonjlaecaemgaa
namespace Go.Proofs.Ytlonjlaecaemgaa
open Go.RowKit
theorem take_succ_nth {α:Type} [Inhabited α] {l:List α} {k:Nat} (hk:k < l.length):l.take (k+1)=l.take k ++ [nth l k]:=by
 rw [List.take_succ_eq_append_getElem hk,nth_eq hk]
theorem nodup_flatten_set {n:Nat} {G:List Nat} (hG:G.Nodup):∀ {l:List (List Nat)} {k:Nat},k < l.length→l.flatten.Nodup→(∀ b∈l.flatten,b < n)→(∀ b∈G,b∈nth l k∨n≤b)→(l.set k G).flatten.Nodup∧(∀ b∈(l.set k G).flatten,b∈l.flatten∨n≤b)
 | x :: l,0,_,hn,hl,hg=>by
   rw [List.set_cons_zero,List.flatten_cons]
   rw [List.flatten_cons,List.nodup_append] at hn
   have hg':∀ b∈G,b∈x∨n≤b:=fun b hb=>by simpa [nth] using hg b hb
   refine ⟨List.nodup_append.2 ⟨hG,hn.2.1,fun a ha b hb e=>?_⟩,fun b hb=>?_⟩
   · subst e
     rcases hg' a ha with h | h
     · exact hn.2.2 a h a hb rfl
     · have:=hl a (by rw [List.flatten_cons];exact List.mem_append_right _ hb);omega
   · rw [List.flatten_cons]
     rcases List.mem_append.1 hb with hb | hb
     · rcases hg' b hb with h | h
       · exact .inl (List.mem_append_left _ h)
       · exact .inr h
     · exact .inl (List.mem_append_right _ hb)
 | x :: l,k+1,hk,hn,hl,hg=>by
   rw [List.set_cons_succ,List.flatten_cons]
   rw [List.flatten_cons,List.nodup_append] at hn
   have hk':k < l.length:=by simpa using hk
   obtain ⟨h1,h2⟩:=nodup_flatten_set hG (l:=l) (k:=k) hk' hn.2.1 (fun b hb=>hl b (by rw [List.flatten_cons];exact List.mem_append_right _ hb)) (fun b hb=>by simpa [nth] using hg b hb)
   refine ⟨List.nodup_append.2 ⟨hn.1,h1,fun a ha b hb e=>?_⟩,fun b hb=>?_⟩
   · subst e
     rcases h2 a hb with h | h
     · exact hn.2.2 a ha a h rfl
     · have:=hl a (by rw [List.flatten_cons];exact List.mem_append_left _ ha);omega
   · rw [List.flatten_cons]
     rcases List.mem_append.1 hb with hb | hb
     · exact .inl (List.mem_append_left _ hb)
     · rcases h2 b hb with h | h
       · exact .inl (List.mem_append_right _ h)
       · exact .inr h
section
variable {α:Type} [Inhabited α] {E:Elem α} {O:Own E} {T:TypeId} {w:World} {l:List α} {v:Value} {F:List Nat}
theorem OwS.at2 (h:OwS O T w v l F) {k:Nat} (hk:k < l.length):∃ B c G cs,v=.slice (some ⟨B,0,none⟩) l.length c∧l.length≤c∧c≤maxLen∧B∈F∧B∉G∧(∀ b∈G,b∈F)∧O.own w cs (nth l k) G∧w.rangeAt B (k * E.size) cs∧(∀ i,w.frozen? ⟨B,i,none⟩=false)∧w.there B (k * E.size) E.size∧RowBut T B (k * E.size) E.size w w ∧
 ∀ w' x' cs' G',Kept (B :: G) w w'→RowBut T B (k * E.size) E.size w w'→O.own w' cs' x' G'→(∀ b∈G',b∈G∨w.heap.size≤b)→w'.rangeAt B (k * E.size) cs'→∃ F',OwS O T w' v (l.set k x') F'∧∀ b∈F',b∈F∨w.heap.size≤b:=by
 have hlt:=h.lt
 rcases h with ⟨rfl,_⟩ | ⟨B,c,C,Fs,rfl,hB,h1,h2,h3,hl,rfl,hn,hall⟩
 · simp at hk
 · obtain ⟨cs,ho,hc⟩:=hall k hk
   have hBn:=(List.nodup_cons.1 hn).1
   have hin:k * E.size+E.size≤C.size:=by rw [h3,← Nat.succ_mul];exact Nat.mul_le_mul_right _ (by omega)
   refine ⟨B,c,nth Fs k,cs,rfl,h1,h2,List.mem_cons_self ..,fun hb=>hBn (nth_mem_flatten (by omega) hb),fun b hb=>List.mem_cons_of_mem _ (nth_mem_flatten (by omega) hb),ho,hc,cells_frozen hB,cells_there hB hin,RowBut.refl hB,fun w' x' cs' G' hkp hrow ho' hG' hc'=>?_⟩
   obtain ⟨C0,C',g1,g2,g3,g4⟩:=hrow
   rw [hB] at g1
   cases g1
   obtain ⟨n1,n2⟩:=nodup_flatten_set (n:=w.heap.size) (O.nodup ho') (l:=Fs) (k:=k) (by omega) (List.nodup_cons.1 hn).2 (fun b hb=>hlt b (List.mem_cons_of_mem _ hb)) hG'
   refine ⟨B :: (Fs.set k G').flatten,.inr ⟨B,c,C',Fs.set k G',by rw [List.length_set],g2,by rw [List.length_set];exact h1,h2,by rw [g3,h3],by rw [List.length_set,List.length_set];exact hl,rfl,List.nodup_cons.2 ⟨fun hm=>?_,n1⟩,fun j hj=>?_⟩,fun b hb=>?_⟩
   · rcases n2 B hm with h | h
     · exact hBn h
     · have:=blk_lt hB;omega
   · rw [List.length_set] at hj
     by_cases e:j=k
     · subst e
       exact ⟨cs',by rw [nth_set_eq hk,nth_set_eq (by omega)];exact ho',hc'⟩
     · obtain ⟨ds,hd,hdc⟩:=hall j hj
       rw [nth_set_ne e hj,nth_set_ne e (by omega)]
       refine ⟨ds,O.keep (fun b hb=>hkp.block b (O.lt hd b hb) fun hm=>?_) hd,fun i u hi=>?_⟩
       · rcases List.mem_cons.1 hm with rfl | hm
         · exact hBn (nth_mem_flatten (by omega) hb)
         · exact e (nodup_flatten_disj (List.nodup_cons.1 hn).2 (by omega) (by omega) hb hm)
       · have hil:i < E.size:=by have:=(List.getElem?_eq_some_iff.1 hi).1;rwa [E.len (O.rel hd)] at this
         have hcell:=hdc i u hi
         rw [cell_of_row w B _ C T (0,0) hB] at hcell
         rw [cell_of_row w' B _ C' T (0,0) g2,g4 _ ?_]
         · exact hcell
         · rcases Nat.lt_or_ge j k with hjk | hjk
           · left
             exact Nat.lt_of_lt_of_le (Nat.add_lt_add_left hil _) (by rw [← Nat.succ_mul];exact Nat.mul_le_mul_right _ hjk)
           · right
             have:k * E.size+E.size≤j * E.size:=by rw [← Nat.succ_mul];exact Nat.mul_le_mul_right _ (by omega)
             omega
   · rcases List.mem_cons.1 hb with rfl | hb
     · exact .inl (List.mem_cons_self ..)
     · rcases n2 b hb with h | h
       · exact .inl (List.mem_cons_of_mem _ h)
       · exact .inr h
theorem OwS.take {n:Nat} (h:OwS O T w v l F) (hn:n≤l.length):∀ A c,v=.slice A l.length c→∃ F',OwS O T w (.slice A n c) (l.take n) F'∧∀ b∈F',b∈F:=by
 rintro A c rfl
 rcases h with ⟨rfl,rfl,A',hv⟩ | ⟨B,c',C,Fs,hv,hB,h1,h2,h3,hl,rfl,hnd,hall⟩
 · cases hv
   obtain rfl:n=0:=by simpa using hn
   exact ⟨[],by simpa using OwS.nil A,fun b hb=>hb⟩
 · cases hv
   have hlen:(l.take n).length=n:=by rw [List.length_take];omega
   refine ⟨B :: (Fs.take n).flatten,.inr ⟨B,c,C,Fs.take n,by rw [hlen],hB,by rw [hlen];omega,h2,h3,by rw [hlen,List.length_take];omega,rfl,?_,fun k hk=>?_⟩,fun b hb=>?_⟩
   · have e:Fs.flatten=(Fs.take n).flatten ++ (Fs.drop n).flatten:=by rw [← List.flatten_append,List.take_append_drop]
     rw [e] at hnd
     obtain ⟨h1',h2'⟩:=List.nodup_cons.1 hnd
     exact List.nodup_cons.2 ⟨fun hm=>h1' (List.mem_append_left _ hm),(List.nodup_append.1 h2').1⟩
   · rw [hlen] at hk
     obtain ⟨cs,ho,hc⟩:=hall k (by omega)
     have e1:nth (l.take n) k=nth l k:=by rw [nth_eq (by omega),nth_eq (by omega)];simp
     have e2:nth (Fs.take n) k=nth Fs k:=by rw [nth_eq (by rw [List.length_take];omega),nth_eq (by omega)];simp
     exact ⟨cs,by rw [e1,e2];exact ho,hc⟩
   · rcases List.mem_cons.1 hb with rfl | hb
     · exact List.mem_cons_self ..
     · obtain ⟨G,hG,hb⟩:=List.mem_flatten.1 hb
       exact List.mem_cons_of_mem _ (List.mem_flatten.2 ⟨G,List.mem_of_mem_take hG,hb⟩)
end
section
variable {α:Type} [Inhabited α] {E:Elem α} {O:Own E} {T:TypeId} {w:World} {l ys:List α} {P:Program}
theorem step_append_one {ops:Array Oper} {o:Oper} {a:Act} {K:Act→World→Prop} {Q:Exit→Act→World→Prop} {X:Prop} (hgd:o.guard=none) (s x:Operand) (t:TypeId)
 (ho:o.op=.call { callee:=.builtin .append,args:=#[s,x],argTypes:=#[t,t] })
 {v:Value} {F G:List Nat} {y:α} {cs:List Value} (z:Value) (size bytes:Nat) (ht:P.underlying t=some (.slice T)) (hi:(P.info? T).map (fun i=>(i.zero,i.size,i.bytes))=some (some z,size,bytes)) (hsz:size=E.size) (hzs:z.cells.size=E.size)
 (hs:a.eval s=v) (hown:OwS O T w v l F) (Bs os c:Nat) (hx:a.eval x=.slice (some ⟨Bs,os,none⟩) 1 c) (hy:O.own w cs y G) (hr:w.rangeAt Bs os cs) (hnd:(F ++ G).Nodup)
 (hlen:l.length≤1000000000) (hb:bytes≤1000)
 (h:∀ v' w' F',OwS O T w' v' (l ++ [y]) F'→Kept F w w'→(∀ b∈F',b∈F∨b∈G∨w.heap.size≤b)→K (a.put o.dst v') w'):if Region.wanted o (yielded ops a.tmps)=true then Oper.wp P o a w K Q else X:=by
 have hw:Region.wanted o (yielded ops a.tmps)=true:=by simp [Region.wanted,hgd]
 rw [if_pos hw]
 exact wp_append_ow (ys:=[y]) (Gs:=[G]) s x t ho z size bytes ht hi hsz hzs hs hown Bs os c hx rfl
  (fun k hk=>by
    obtain rfl:k=0:=by simpa using hk
    exact ⟨cs,hy,by rw [Nat.zero_mul,Nat.add_zero];exact hr⟩) (by simpa using hnd) (fun b hb=>O.lt hy b (by simpa using hb)) (by unfold maxLen;simp only [List.length_cons,List.length_nil];omega)
  (by simp only [List.length_cons,List.length_nil];exact Nat.le_trans (Nat.mul_le_mul (by omega:l.length+(0+1)≤1000000001) hb) (by decide)) fun v' w' F' g1 g2 g3=>h v' w' F' g1 g2 fun b hb=>by simpa using g3 b hb
end
section
variable {α:Type} [Inhabited α] {E:Elem α} {T:TypeId} {w:World} {l ys:List α} {P:Program} {hfl:∀ {S S':Nat→Prop} {w w':World} {cs x},E.rel S w cs x→E.rel S' w' cs x}
end
end Go.Proofs.Ytlonjlaecaemgaa
