/- slices.DeleteFunc at spans, on a slice that lies in memory of its own. slices.Delete at spans: one element of a slice that lies in memory of its own is struck. Rows of spans in memory, cell by cell; copy of elements of several cells. slices.Insert of spans: the cells that it writes. slices.Insert of one span into a slice that has its memory for itself. -/
import Derived.Test.YtoblacfjmcpbmaaGreatNodeC
import Derived.Test.YtoblacfjmcpbmaaGreatOrdU
import Derived.Test.YtoblacfjmcpbmaaGreatGYardT
import Derived.Test.YtoblacfjmcpbmaaGreatShelf
import Derived.Shelf.Spec.SlicesInsertGrow
set_option maxHeartbeats 8000000
set_option maxRecDepth 100000
namespace Go.Proofs.YtoblacfjmcpbmaaGreat
open Go.RowKit
attribute [local irreducible] wpQuiet
theorem indexFunc_Span {S:Nat→Prop} (l:List Span) (p:Span→Bool) (v:Value) (f:Nat) (caps:Array Value) (w:World) (h:Rd ESpan S w v l) (hcall:∀ (args:Array Value) (W:World),(callFunc f args).run Tryz.prog W=.ok (.enter f args) W)
 (hf:∀ (cs:List Value) (x:Span) (w1:World),Ext w w1→ESpan.rel S w1 cs x→Calls Tryz.prog f (#[.agg cs.toArray] ++ caps) w1 fun e w'=>e=.returned (.bool (p x))∧Ext w1 w') :
 Calls Tryz.prog 132 #[v,.func (.func f) #[] caps] w fun e w'=>e=.returned (.int .i64 (idxOf p l))∧Ext w w':=by
 obtain ⟨A,c,rfl,h1,h2,hk⟩:=h.open_
 unfold maxLen at h2
 have HK:=Lib.hid hk
 have HF:=Lib.hid hf
 clear hk h hf
 go_enter Tryz.func132,Tryz.ntmps132
 go_wp2_with fail
 go_loopw [8] (fun i w'=>∃ k:Nat,k≤l.length∧i=.int .i64 k∧(∀ j,j < k→p (nth l j)=false)∧Ext w w') (fun i _=>l.length - (intOf i).toNat)
 case atStart=>exact ⟨0,by omega,rfl,fun j hj=>by omega,Ext.refl _⟩
 case round =>
  obtain ⟨k,hk1,rfl,hall,hx⟩:=hrel
  have HA:=Lib.hid hall
  have HX:=Lib.hid hx
  clear hall
  by_cases hlt:k < l.length
  · obtain ⟨b,o,cs,rfl,hb,hr,hc⟩:=HK.out k hlt
    have HR:=Lib.hid (ESpan.keep (hx.same S) hr)
    have HC:=Lib.hid (hx.range hc)
    have HI:Hid ((Tryz.prog.info? 133).map (·.size)=some cs.length):=Lib.hid (by rw [ESpan.len hr];kernel_rfl)
    clear hr hc hx
    by_cases hp:p (nth l k)=true
    · have HE:Hid (idxOf p l=k):=Lib.hid (idxOf_some hlt HA.out hp)
      go_wp2_with (first | (refine wpList_load_mid rfl 133 _ rfl b (o+k * 2) rfl cs _ HC.out Tryz.underlying133 rfl HI.out ?_) | ((with_reducible refine (HF.out cs (nth l k) _ HX.out HR.out).mono ?_);rintro e w1 ⟨rfl,hx1⟩;have HX1:=Lib.hid hx1;clear hx1))
      go_ret
      exact ⟨ret_int HE.out.symm,HX.out.trans HX1.out⟩
    · simp only [Bool.not_eq_true] at hp
      have HE:=Lib.hid (all_succ HA.out hp)
      go_wp2_with (first | (refine wpList_load_mid rfl 133 _ rfl b (o+k * 2) rfl cs _ HC.out Tryz.underlying133 rfl HI.out ?_) | ((with_reducible refine (HF.out cs (nth l k) _ HX.out HR.out).mono ?_);rintro e w1 ⟨rfl,hx1⟩;have HX1:=Lib.hid hx1;clear hx1))
      go_roundw
      case rel=>exact ⟨k+1,by omega,by go_num,HE.out,HX.out.trans HX1.out⟩
      case measure=>simp [intOf];omega
  · have HE:Hid (idxOf p l = -1):=Lib.hid (idxOf_none fun j hj=>HA.out j (by omega))
    go_wp2_with fail
    go_ret
    exact ⟨ret_int HE.out.symm,HX.out⟩
theorem containsFunc_Span {S:Nat→Prop} (l:List Span) (p:Span→Bool) (v:Value) (f:Nat) (caps:Array Value) (w:World) (h:Rd ESpan S w v l) (hcall:∀ (args:Array Value) (W:World),(callFunc f args).run Tryz.prog W=.ok (.enter f args) W)
 (hf:∀ (cs:List Value) (x:Span) (w1:World),Ext w w1→ESpan.rel S w1 cs x→Calls Tryz.prog f (#[.agg cs.toArray] ++ caps) w1 fun e w'=>e=.returned (.bool (p x))∧Ext w1 w') :
 Calls Tryz.prog 200 #[v,.func (.func f) #[] caps] w fun e w'=>e=.returned (.bool (l.any p))∧Ext w w':=by
 have HE:=Lib.hid (idxOf_any (p:=p) (l:=l))
 have H:=Lib.hid (indexFunc_Span l p v f caps w h hcall hf)
 clear h hcall hf
 go_enter Tryz.func200,Tryz.ntmps200
 go_wp2_with (refine H.out.mono ?_;rintro e w1 ⟨rfl,hx1⟩;have HX1:=Lib.hid hx1;clear hx1)
 go_ret
 exact ⟨ret_bool HE.out,HX1.out⟩
theorem indexFunc_Span_1 {S:Nat→Prop} (l:List Span) (p:Span→Bool) (v:Value) (f:Nat) (c1:Value) (w:World) (h:Rd ESpan S w v l) (hcall:∀ (args:Array Value) (W:World),(callFunc f args).run Tryz.prog W=.ok (.enter f args) W)
 (hf:∀ (cs:List Value) (x:Span) (w1:World),Ext w w1→ESpan.rel S w1 cs x→Calls Tryz.prog f #[.agg cs.toArray,c1] w1 fun e w'=>e=.returned (.bool (p x))∧Ext w1 w') :
 Calls Tryz.prog 132 #[v,.func (.func f) #[] #[c1]] w fun e w'=>e=.returned (.int .i64 (idxOf p l))∧Ext w w' :=
 indexFunc_Span l p v f #[c1] w h hcall fun cs x w1 hx hr=>by rw [show (#[.agg cs.toArray] ++ #[c1]:Array Value) = #[.agg cs.toArray,c1] from rfl];exact hf cs x w1 hx hr
theorem containsFunc_Span_1 {S:Nat→Prop} (l:List Span) (p:Span→Bool) (v:Value) (f:Nat) (c1:Value) (w:World) (h:Rd ESpan S w v l) (hcall:∀ (args:Array Value) (W:World),(callFunc f args).run Tryz.prog W=.ok (.enter f args) W)
 (hf:∀ (cs:List Value) (x:Span) (w1:World),Ext w w1→ESpan.rel S w1 cs x→Calls Tryz.prog f #[.agg cs.toArray,c1] w1 fun e w'=>e=.returned (.bool (p x))∧Ext w1 w') :
 Calls Tryz.prog 200 #[v,.func (.func f) #[] #[c1]] w fun e w'=>e=.returned (.bool (l.any p))∧Ext w w' :=
 containsFunc_Span l p v f #[c1] w h hcall fun cs x w1 hx hr=>by rw [show (#[.agg cs.toArray] ++ #[c1]:Array Value) = #[.agg cs.toArray,c1] from rfl];exact hf cs x w1 hx hr
theorem run_clear_row {P:Program} (w:World) (t e ty:TypeId) (z:Value) (n:Nat) (ht:P.underlying t=some (.slice e)) (hv:∀ w,(zeroValue e).run P w=.ok z w) (h1:∀ v∈(Builtin.zeroCells z.cells n).toList,v.oneCell'=true) (b o c:Nat) (hn:0 < n)
 (hth:w.there b o (Builtin.zeroCells z.cells n).toList.length) :
 (Builtin.clear_ #[t] ty #[.slice (some ⟨b,o,none⟩) n c]).run P w=.ok (.tuple #[]) (w.setCells b o (Builtin.zeroCells z.cells n).toList):=by
 have hst:=run_storeCells_cells (P:=P) b o (Builtin.zeroCells z.cells n).toList 0 w (fun j hj=>by rw [Nat.add_zero];exact (hth j hj).1) (fun j hj=>by rw [Nat.add_zero];exact (hth j hj).2) h1
 simp only [Nat.add_zero] at hst
 obtain ⟨m,rfl⟩:∃ m,n=m+1:=⟨n - 1,by omega⟩
 simp [Builtin.clear_,run_underlying ht,hv,hst]
theorem OwS.cut {α:Type} [Inhabited α] {E:Elem α} {hfl:∀ {S S':Nat→Prop} {w w':World} {cs x},E.rel S w cs x→E.rel S' w' cs x} {T:TypeId} {w w':World} {l:List α} {B c n m:Nat} {F:List Nat}
 (h:OwS (OFlat E hfl) T w (.slice (some ⟨B,0,none⟩) l.length c) l F) (hl:0 < l.length) (hn:n≤l.length) (hr:RowBut T B (n * E.size) m w w'):∃ F',OwS (OFlat E hfl) T w' (.slice (some ⟨B,0,none⟩) n c) (l.take n) F'∧∀ b∈F',b∈F:=by
 rcases h with ⟨rfl,_⟩ | ⟨B',c',C,Fs,hv,hB,h1,h2,h3,hlF,rfl,hnd,hall⟩
 · simp at hl
 · cases hv
   obtain ⟨C0,C',g1,g2,g3,g4⟩:=hr
   rw [hB] at g1
   cases g1
   have hlen:(l.take n).length=n:=by rw [List.length_take];omega
   refine ⟨B :: (Fs.take n).flatten,.inr ⟨B,c,C',Fs.take n,by rw [hlen],g2,by rw [hlen];omega,h2,by rw [g3,h3],by rw [hlen,List.length_take];omega,rfl,?_,fun k hk=>?_⟩,fun b hb=>?_⟩
   · have e:Fs.flatten=(Fs.take n).flatten ++ (Fs.drop n).flatten:=by rw [← List.flatten_append,List.take_append_drop]
     rw [e] at hnd
     obtain ⟨h1',h2'⟩:=List.nodup_cons.1 hnd
     exact List.nodup_cons.2 ⟨fun hm=>h1' (List.mem_append_left _ hm),(List.nodup_append.1 h2').1⟩
   · rw [hlen] at hk
     obtain ⟨cs,ho,hc⟩:=hall k (by omega)
     have e1:nth (l.take n) k=nth l k:=by rw [nth_eq (by omega),nth_eq (by omega)];simp
     have e2:nth (Fs.take n) k=nth Fs k:=by rw [nth_eq (by rw [List.length_take];omega),nth_eq (by omega)];simp
     refine ⟨cs,by rw [e1,e2];exact ⟨hfl ho.1,ho.2⟩,fun i u hi=>?_⟩
     have hil:i < E.size:=by have:=(List.getElem?_eq_some_iff.1 hi).1;rwa [E.len ho.1] at this
     have hcell:=hc i u hi
     rw [cell_of_row w B _ C T (0,0) hB] at hcell
     rw [cell_of_row w' B _ C' T (0,0) g2,g4 _ (.inl (Nat.lt_of_lt_of_le (Nat.add_lt_add_left hil _) (by rw [← Nat.succ_mul];exact Nat.mul_le_mul_right _ hk)))]
     exact hcell
   · rcases List.mem_cons.1 hb with rfl | hb
     · exact List.mem_cons_self ..
     · obtain ⟨G,hG,hb⟩:=List.mem_flatten.1 hb
       exact List.mem_cons_of_mem _ (List.mem_flatten.2 ⟨G,List.mem_of_mem_take hG,hb⟩)
theorem take_set_succ {α:Type} [Inhabited α] {m:List α} {i:Nat} {x:α} (h:i < m.length):(m.set i x).take (i+1)=m.take i ++ [x]:=by
 rw [List.take_succ_eq_append_getElem (by simpa using h),List.take_set_of_le (Nat.le_refl _)]
 simp
theorem filter_take_yes {α:Type} [Inhabited α] {f:α→Bool} {l:List α} {k:Nat} (hk:k < l.length) (h:f (nth l k)=true):(l.take (k+1)).filter f=(l.take k).filter f ++ [nth l k]:=by
 rw [take_succ_nth hk,List.filter_append];simp [h]
theorem filter_take_no {α:Type} [Inhabited α] {f:α→Bool} {l:List α} {k:Nat} (hk:k < l.length) (h:f (nth l k)=false):(l.take (k+1)).filter f=(l.take k).filter f:=by
 rw [take_succ_nth hk,List.filter_append];simp [h]
theorem filter_all_nth {α:Type} [Inhabited α] {f:α→Bool} {l:List α} (h:∀ j,j < l.length→f (nth l j)=true):l.filter f=l:=List.filter_eq_self.2 fun x hx=>by
 obtain ⟨i,hi,rfl⟩:=List.getElem_of_mem hx
 have:=h i hi
 rwa [nth_eq hi] at this
theorem zero_spans (n:Nat):(Builtin.zeroCells (Value.agg #[.int .i64 0,.int .i64 0]).cells n).toList.length=n * 2∧∀ v∈(Builtin.zeroCells (Value.agg #[.int .i64 0,.int .i64 0]).cells n).toList,v.oneCell'=true:=by
 refine ⟨by rw [Array.length_toList,size_zeroCells];rfl,fun v hv=>?_⟩
 obtain ⟨i,hi,rfl⟩:=List.getElem_of_mem hv
 simp only [Builtin.zeroCells,Array.getElem_toList,Array.getElem_map,Array.getElem_range]
 have h2:i % 2 < 2:=Nat.mod_lt _ (by decide)
 rcases (show i % 2=0∨i % 2=1 by omega) with h | h <;> simp [Value.cells,h,Value.oneCell']
theorem deleteFunc_Span (l:List Span) (p:Span→Bool) (v:Value) (f:Nat) (c1:Value) (F:List Nat) (w:World) (h:OwS OSpan 133 w v l F) (hl:l.length≤1000000) (hcall:∀ (args:Array Value) (W:World),(callFunc f args).run Tryz.prog W=.ok (.enter f args) W)
 (hf:∀ (cs:List Value) (x:Span) (w1:World),Kept F w w1→ESpan.rel (fun _=>False) w1 cs x→Calls Tryz.prog f #[.agg cs.toArray,c1] w1 fun e w'=>e=.returned (.bool (p x))∧Ext w1 w') :
 Calls Tryz.prog 90 #[v,.func (.func f) #[] #[c1]] w fun e w'=>∃ v' F',e=.returned v'∧OwS OSpan 133 w' v' (l.filter fun x=>!p x) F'∧(∀ b∈F',b∈F)∧Kept F w w':=by
 obtain ⟨A,c,rfl,h1,h2⟩:=h.form
 unfold maxLen at h2
 have HO:=Lib.hid h
 have HC:=Lib.hid hcall
 have HF:=Lib.hid hf
 clear h
 have hcall':=hcall
 go_enter Tryz.func90,Tryz.ntmps90
 clear hcall hf hcall'
 go_wp2_with fail
 refine (indexFunc_Span_1 (S:=fun b=>b∈F) l p _ f c1 w HO.out.rd HC.out (fun cs x w1 hx hr=>HF.out cs x w1 (Kept.of_ext hx) hr)).mono ?_
 rintro e w1 ⟨rfl,hx1⟩
 have X1:=Lib.hid hx1
 clear hx1
 rcases idxOf_cases p l with ⟨hi,hn⟩ | ⟨k0,hk0,hi,hq,hn⟩
 · have HI:Hid (idxOf p l = -1):=Lib.hid hi
   have HE:Hid (l.filter (fun x=>!p x)=l):=Lib.hid (filter_all_nth fun j hj=>by rw [hn j hj];rfl)
   clear hi hn
   rw [HI.out]
   go_wp2_with fail
   go_ret
   exact ⟨_,F,rfl,by rw [HE.out];exact HO.out.ext X1.out,fun b hb=>hb,Kept.of_ext X1.out⟩
 · have HI:Hid (idxOf p l=k0):=Lib.hid hi
   have HS:Hid (l.take k0=(l.take (k0+1)).filter fun x=>!p x):=Lib.hid (by
    rw [filter_take_no hk0 (by rw [hq];rfl)]
    exact (filter_all_nth fun j hj=>by rw [List.length_take] at hj;rw [nth_eq (by rw [List.length_take];omega)];have:=hn j (by omega);rw [nth_eq (by omega)] at this;simp [this]).symm)
   obtain ⟨B,rfl⟩:∃ B,A=some ⟨B,0,none⟩:=by
    rcases HO.out with ⟨rfl,_⟩ | ⟨B,_,_,_,hv,_⟩
    · simp at hk0
    · cases hv;exact ⟨B,rfl⟩
   clear hi hq hn
   rw [HI.out]
   have hne1:((k0:Int) == -1)=false:=beq_eq_false_iff_ne.2 (by omega)
   go_wp2_with fail
   clear hne1
   go_loopw [5,6] (fun a b w'=>∃ (i j:Nat) (m:List Span),a=.int .i64 i∧b=.int .i64 j∧i < j∧j≤l.length∧m.length=l.length∧m.take i=(l.take j).filter (fun x=>!p x)∧(∀ t,j≤t→t < l.length→nth m t=nth l t)∧OwS OSpan 133 w' (.slice (some ⟨B,0,none⟩) l.length c) m F∧Kept F w w') (fun _ b _=>l.length - (intOf b).toNat)
   case atStart=>exact ⟨k0,k0+1,l,rfl,by go_num,by omega,by omega,rfl,HS.out,fun _ _ _=>rfl,HO.out.ext X1.out,Kept.of_ext X1.out⟩
   case round =>
    obtain ⟨i,j,m,rfl,rfl,hij,hj,hml,hmt,hmn,hown,hkp⟩:=hrel
    have HML:=Lib.hid hml
    have HMT:=Lib.hid hmt
    have HMN:=Lib.hid hmn
    have HOW:=Lib.hid hown
    have HKP:=Lib.hid hkp
    clear hml hmt hmn hown hkp
    by_cases hlt:j < l.length
    · obtain ⟨cs,hcs,hc⟩:∃ cs,ESpan.rel (fun b=>b∈F) wr cs (nth l j)∧wr.rangeAt B (j * 2) cs:=by
       obtain ⟨A2,c2,hv2,_,_,hk2⟩:=HOW.out.rd.open_
       obtain ⟨b,q,cs,hA2,_,hr2,hc2⟩:=hk2 j (by rw [HML.out];exact hlt)
       injection hv2 with e1 e2 e3
       rw [← e1] at hA2
       cases hA2
       rw [HMN.out j (Nat.le_refl _) hlt] at hr2
       exact ⟨cs,hr2,by simpa [ESpan] using hc2⟩
      obtain ⟨rfl,hfit⟩:=hcs
      have e0:=hc 0 _ rfl
      have e1:=hc 1 _ rfl
      simp only [Nat.add_zero] at e0 e1
      have HFit:=Lib.hid hfit
      clear hc hfit
      have hcall:=HC.out
      go_wp2_with fail
      obtain ⟨W5,B5,hW5,hB5,hx5,b5⟩:∃ W B,W=wr.alloc (.cells #[.int .i64 (nth l j).from_,.int .i64 (nth l j).to_] 133)∧B=wr.heap.size∧Ext wr W∧Blk W B 133 #[.int .i64 (nth l j).from_,.int .i64 (nth l j).to_]:=⟨_,_,rfl,rfl,(Ext.refl _).alloc _,Blk.new _ _ _⟩
      rw [← hW5,← hB5]
      have X5:=Lib.hid hx5
      have BB5:=Lib.hid b5
      clear hW5 hB5 hx5 b5 e0 e1
      refine (HF.out [.int .i64 (nth l j).from_,.int .i64 (nth l j).to_] (nth l j) _ (HKP.out.trans (Kept.of_ext X5.out)) (rel_Span HFit.out)).mono ?_
      rintro e w2 ⟨rfl,hx2⟩
      have X2:=Lib.hid (X5.out.trans hx2)
      have BB2:=Lib.hid (BB5.out.ext hx2)
      clear hx2
      have e0:=BB2.out.cell 0
      have e1:=BB2.out.cell 1
      simp only [List.getElem?_toArray,List.getElem?_cons_succ,List.getElem?_cons_zero] at e0 e1
      cases hp:p (nth l j) with
      | true =>
        have HT2:Hid (m.take i=(l.take (j+1)).filter fun x=>!p x):=Lib.hid (by rw [filter_take_no hlt (by rw [hp];rfl)];exact HMT.out)
        clear hp
        go_wp2_with fail
        go_roundw
        case rel=>exact ⟨i,j+1,m,by go_num,by go_num,by omega,by omega,HML.out,HT2.out,fun t h3 h4=>HMN.out t (by omega) h4,HOW.out.ext X2.out,HKP.out.trans (Kept.of_ext X2.out)⟩
        case measure=>simp [intOf];omega
      | false =>
        have him:i < m.length:=by have:=HML.out;omega
        have HT2:Hid ((m.set i (nth l j)).take (i+1)=(l.take (j+1)).filter fun x=>!p x):=Lib.hid (by rw [take_set_succ him,filter_take_yes hlt (by rw [hp];rfl),HMT.out])
        clear hp
        obtain ⟨B',c',G,cs,hv,hBF,hBG,hGF,ho,hc,hfz,hth,hrow,hset⟩:=(HOW.out.ext X2.out).at (k:=i) him
        obtain ⟨⟨rfl,hfi⟩,rfl⟩:=ho
        injection hv with hA hlen hcc
        clear hlen
        subst hcc
        cases hA
        have d0:=hc 0 _ rfl
        have d1:=hc 1 _ rfl
        have z0:=hfz (i * 2)
        have z1:=hfz (i * 2+1)
        simp only [ESpan,Nat.add_zero] at d0 d1
        have HN:Hid (OwS OSpan 133 (w2.setCells B (i * 2) [.int .i64 (nth l j).from_,.int .i64 (nth l j).to_]) (.slice (some ⟨B,0,none⟩) l.length c) (m.set i (nth l j)) F):=Lib.hid (by
         refine hset _ _ [.int .i64 (nth l j).from_,.int .i64 (nth l j).to_] (Kept.setCells (by simp) _ _ _ (Kept.refl _ _)) (RowBut.setCells _ _ _ hrow (by simp [ESpan]) (by simp [ESpan])) ⟨rel_Span HFit.out,rfl⟩ ?_
         exact World.rangeAt_setCells_same w2 B (i * 2) [.int .i64 (nth l j).from_,.int .i64 (nth l j).to_] hth)
        have HBF:=Lib.hid hBF
        have hil:(i:Int) < (l.length:Int):=by have:=HML.out;omega
        clear hset hth hrow hc hfz hfi hBF hBG hGF
        go_wp2_with fail
        go_roundw
        case rel=>exact ⟨i+1,j+1,m.set i (nth l j),by go_num,by go_num,by omega,by omega,by rw [List.length_set];exact HML.out,HT2.out,fun t h3 h4=>by rw [nth_set_ne (by omega) (by rw [HML.out];exact h4)];exact HMN.out t (by omega) h4,HN.out,Kept.setCell (Kept.setCell (HKP.out.trans (Kept.of_ext X2.out)) HBF.out _) HBF.out _⟩
        case measure=>simp [intOf];omega
    · obtain rfl:j=l.length:=by omega
      have hil:(i:Int) < (l.length:Int):=by omega
      have hi0:(0:Int)≤(i:Int):=Int.natCast_nonneg _
      obtain ⟨C,hB⟩:∃ C:Array Value,wr.heap[B]? = some (.cells C 133 (0,0))∧C.size=c * 2:=by
       rcases HOW.out with ⟨_,_,A',hv⟩ | ⟨B',c',C,Fs,hv,hB,_,_,h3,_⟩
       · injection hv with _ hh;omega
       · injection hv with e1 e2 e3;cases e1;subst e3;exact ⟨C,hB,by simpa [ESpan] using h3⟩
      have HTH:Hid (wr.there B (i * 2) ((l.length - i) * 2)):=Lib.hid (cells_there hB.1 (by rw [hB.2];omega))
      have HRW:Hid (RowBut 133 B (i * 2) ((l.length - i) * 2) wr (wr.setCells B (i * 2) (Builtin.zeroCells (Value.agg #[.int .i64 0,.int .i64 0]).cells (l.length - i)).toList)):=Lib.hid (RowBut.setCells _ _ _ (RowBut.refl hB.1) (Nat.le_refl _) (by rw [(zero_spans _).1];exact Nat.le_refl _))
      have HBF:Hid (B∈F):=Lib.hid (by
       rcases HOW.out with ⟨_,_,A',hv⟩ | ⟨B',c',C,Fs,hv,_,_,_,_,_,rfl,_⟩
       · injection hv with _ hh;omega
       · injection hv with e1 e2 e3;cases e1;exact List.mem_cons_self ..)
      clear hB
      have hclr:=run_clear_row (P:=Tryz.prog) wr 105 133 0 (.agg #[.int .i64 0,.int .i64 0]) (l.length - i) Tryz.underlying105 (by intro w;go_simp) (zero_spans _).2 B (i * 2) (c - i) (by omega) (by rw [(zero_spans _).1];exact HTH.out)
      go_wp2_with fail
      go_ret
      obtain ⟨F2,o2,f2⟩:=OwS.cut (h:=by rw [HML.out];exact HOW.out) (by rw [HML.out];omega) (n:=i) (by rw [HML.out];omega) HRW.out
      have hE:m.take i=l.filter fun x=>!p x:=by have:=HMT.out;rwa [List.take_length] at this
      have hlen:(l.filter fun x=>!p x).length=i:=by rw [← hE,List.length_take,HML.out];omega
      exact ⟨_,F2,rfl,by rw [← hE];exact o2,f2,HKP.out.trans (Kept.setCells HBF.out _ _ _ (Kept.refl _ _))⟩
end Go.Proofs.YtoblacfjmcpbmaaGreat
namespace Go.Proofs.YtoblacfjmcpbmaaGreat
open Go.RowKit
attribute [local irreducible] wpQuiet
section
variable {α:Type} [Inhabited α] {E:Elem α} {T:TypeId} {w:World} {l ys:List α} {P:Program} {hfl:∀ {S S':Nat→Prop} {w w':World} {cs x},E.rel S w cs x→E.rel S' w' cs x}
theorem run_append_flat_room (t ty:TypeId) (i:TypeInfo) (z:Value) (ht:P.underlying t=some (.slice T)) (hi:P.info? T=some i) (hz:i.zero=some z) (hsz:i.size=E.size) (hzs:z.cells.size=E.size) {B cap:Nat} {F:List Nat} {S:Nat→Prop}
 (hown:OwS (OFlat E hfl) T w (.slice (some ⟨B,0,none⟩) l.length cap) l F) (hcap:0 < cap) (Bs os c:Nat) (hy:∀ k,k < ys.length→∃ cs,E.rel S w cs (nth ys k)∧w.rangeAt Bs (os+k * E.size) cs) (hroom:l.length+ys.length≤cap) (hs:cap≤maxLen) (hby:(l.length+ys.length) * i.bytes≤140737488355328) :
 ∃ w' F',(Builtin.append_ #[t,t] ty #[.slice (some ⟨B,0,none⟩) l.length cap,.slice (some ⟨Bs,os,none⟩) ys.length c]).run P w=.ok (.slice (some ⟨B,0,none⟩) (l.length+ys.length) cap) w'∧OwS (OFlat E hfl) T w' (.slice (some ⟨B,0,none⟩) (l.length+ys.length) cap) (l ++ ys) F'∧Kept F w w'∧(∀ b∈F',b∈F∨w.heap.size≤b):=by
 have hy':∀ k,k < ys.length→∃ cs,(OFlat E hfl).own w cs (nth ys k) (nth (List.replicate ys.length []) k)∧w.rangeAt Bs (os+k * E.size) cs:=fun k hk=>by
  obtain ⟨cs,h1,h2⟩:=hy k hk
  exact ⟨cs,⟨hfl h1,flat_list (α:=α) hk⟩,h2⟩
 obtain ⟨v',w',F',hr,g2,g3,g4⟩:=run_append_ow (P:=P) (Gs:=List.replicate ys.length []) t ty i z ht hi hz hsz hzs hown Bs os c (by simp) hy' (by rw [flat_flatten,List.append_nil];exact hown.nodup) (fun b hb=>by rw [flat_flatten] at hb;cases hb) (Nat.le_trans hroom hs) hby
 rcases hown with ⟨_,_,A,hv⟩ | ⟨B',cap',C,Fs,hv,hB,h1,h2,h3,hl,_,_,hk⟩
 · injection hv with _ _ hh;omega
 · injection hv with e1 e2 e3
   cases e1
   subst e3
   obtain ⟨hnews,hone⟩:=rowOf_cell (cells_there_of hy')
   have hnl:(rowOf w Bs os (ys.length * E.size)).length=ys.length * i.size:=by rw [rowOf_length,hsz]
   have hfit:l.length * i.size+(rowOf w Bs os (ys.length * E.size)).length≤C.size:=by rw [hnl,h3,← Nat.add_mul,hsz];exact Nat.mul_le_mul_right _ hroom
   have hr2:=run_append_room (P:=P) w t ty T i ht hi B l.length cap C hB ⟨Bs,os,none⟩ ys.length c _ hnl (fun j u hj=>by rw [Addr.add_mid];exact hnews j u hj) hone hroom hfit
   rw [hr] at hr2
   injection hr2 with e1 e2
   subst e1
   exact ⟨w',F',hr,g2,g3,fun b hb=>by
    have:=g4 b hb
    rw [flat_flatten] at this
    simpa using this⟩
theorem step_append_flat_room {ops:Array Oper} {o:Oper} {a:Act} {K:Act→World→Prop} {Q:Exit→Act→World→Prop} {X:Prop} (hgd:o.guard=none) (s x:Operand) (t:TypeId)
 (ho:o.op=.call { callee:=.builtin .append,args:=#[s,x],argTypes:=#[t,t] })
 (z:Value) (size bytes:Nat) (ht:P.underlying t=some (.slice T)) (hi:(P.info? T).map (fun i=>(i.zero,i.size,i.bytes))=some (some z,size,bytes)) (hsz:size=E.size) (hzs:z.cells.size=E.size) {B cap n m:Nat} {F:List Nat} {S:Nat→Prop}
 (hn:l.length=n) (hm:ys.length=m) (hs:a.eval s=.slice (some ⟨B,0,none⟩) n cap) (hown:OwS (OFlat E hfl) T w (.slice (some ⟨B,0,none⟩) n cap) l F) (hcap:0 < cap) (Bs os c:Nat) (hx:a.eval x=.slice (some ⟨Bs,os,none⟩) m c)
 (hy:∀ k,k < m→∃ cs,E.rel S w cs (nth ys k)∧w.rangeAt Bs (os+k * E.size) cs) (hroom:n+m≤cap) (hs':cap≤maxLen) (hby:(n+m) * bytes≤140737488355328)
 (h:∀ w' F',OwS (OFlat E hfl) T w' (.slice (some ⟨B,0,none⟩) (n+m) cap) (l ++ ys) F'→Kept F w w'→(∀ b∈F',b∈F∨w.heap.size≤b)→K (a.put o.dst (.slice (some ⟨B,0,none⟩) (n+m) cap)) w'):if Region.wanted o (yielded ops a.tmps)=true then Oper.wp P o a w K Q else X:=by
 have hw:Region.wanted o (yielded ops a.tmps)=true:=by simp [Region.wanted,hgd]
 rw [if_pos hw]
 subst hn hm
 obtain ⟨i,h1,h2,h3,h4⟩:=info_parts hi
 obtain ⟨w',F',hr,g2,g3,g4⟩:=run_append_flat_room (P:=P) t o.type i z ht h1 h2 (h3.trans hsz) hzs hown hcap Bs os c hy hroom hs' (by rw [h4];exact hby)
 unfold Oper.wp execOp
 simp only [ho,resolve,invoke,builtin,Sem.run_bind,Sem.run_pure,Result.andThen_ok,List.map_toArray,List.map_cons,List.map_nil,hs,hx,hr]
 exact h w' F' g2 g3 g4
end
theorem OwS.cut2 {α:Type} [Inhabited α] {E:Elem α} {hfl:∀ {S S':Nat→Prop} {w w':World} {cs x},E.rel S w cs x→E.rel S' w' cs x} {T:TypeId} {w w':World} {l:List α} {B c m n:Nat} {F:List Nat}
 (h:OwS (OFlat E hfl) T w (.slice (some ⟨B,0,none⟩) n c) l F) (hl:l.length=n) (hc:0 < c) (hr:RowBut T B (n * E.size) m w w'):OwS (OFlat E hfl) T w' (.slice (some ⟨B,0,none⟩) n c) l F:=by
 subst hl
 rcases h with ⟨_,_,A,hv⟩ | ⟨B',c',C,Fs,hv,hB,h1,h2,h3,hlF,rfl,hnd,hall⟩
 · injection hv with _ _ hh;omega
 · cases hv
   obtain ⟨C0,C',g1,g2,g3,g4⟩:=hr
   rw [hB] at g1
   cases g1
   refine .inr ⟨B,c,C',Fs,rfl,g2,h1,h2,by rw [g3,h3],hlF,rfl,hnd,fun k hk=>?_⟩
   obtain ⟨cs,ho,hc'⟩:=hall k hk
   refine ⟨cs,⟨hfl ho.1,ho.2⟩,fun i u hi=>?_⟩
   have hil:i < E.size:=by have:=(List.getElem?_eq_some_iff.1 hi).1;rwa [E.len ho.1] at this
   have hcell:=hc' i u hi
   rw [cell_of_row w B _ C T (0,0) hB] at hcell
   rw [cell_of_row w' B _ C' T (0,0) g2,g4 _ (.inl (Nat.lt_of_lt_of_le (Nat.add_lt_add_left hil _) (by rw [← Nat.succ_mul];exact Nat.mul_le_mul_right _ hk)))]
   exact hcell
theorem OwS.flat_blocks {α:Type} [Inhabited α] {E:Elem α} {hfl:∀ {S S':Nat→Prop} {w w':World} {cs x},E.rel S w cs x→E.rel S' w' cs x} {T:TypeId} {w:World} {l:List α} {B c n:Nat} {F:List Nat}
 (h:OwS (OFlat E hfl) T w (.slice (some ⟨B,0,none⟩) n c) l F) (hc:0 < c):F = [B]:=by
 rcases h with ⟨_,_,A,hv⟩ | ⟨B',c',C,Fs,hv,hB,h1,h2,h3,hlF,rfl,hnd,hall⟩
 · injection hv with _ _ hh;omega
 · cases hv
   have:Fs.flatten = []:=List.flatten_eq_nil_iff.2 fun G hG=>by
    obtain ⟨i,hi,rfl⟩:=List.getElem_of_mem hG
    obtain ⟨cs,ho,_⟩:=hall i (by omega)
    rw [← nth_eq hi]
    exact ho.2
   rw [this]
end Go.Proofs.YtoblacfjmcpbmaaGreat
namespace Go.Proofs.YtoblacfjmcpbmaaGreat
open Go.RowKit
variable {T:TypeId} {w w':World} {v:Value} {l:List Span} {F:List Nat}
end Go.Proofs.YtoblacfjmcpbmaaGreat
namespace Go.Proofs.YtoblacfjmcpbmaaGreat
open Go.RowKit Go.Lib
attribute [local irreducible] wpQuiet
end Go.Proofs.YtoblacfjmcpbmaaGreat
namespace Go.Proofs.YtoblacfjmcpbmaaGreat
open Go.RowKit Go.Lib
attribute [local irreducible] wpQuiet
end Go.Proofs.YtoblacfjmcpbmaaGreat
