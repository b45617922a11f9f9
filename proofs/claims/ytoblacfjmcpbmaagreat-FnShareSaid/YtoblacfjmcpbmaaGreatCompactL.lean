/- slices.Concat at labels, and what it stands on: slices.Grow of nothing. slices.SortFunc at labels: the kit's contract, laid for this seat, told of memory that a slice has for itself. slices.Compact at labels, on a slice that lies in memory of its own. -/
import Derived.Test.YtoblacfjmcpbmaaGreatConf1
import Derived.Test.YtoblacfjmcpbmaaGreatInsSpan
import Derived.Test.YtoblacfjmcpbmaaGreatGYardT
import Derived.Lib.AppendZeros
import Derived.Test.YtoblacfjmcpbmaaGreatTaskR
import Derived.Test.YtoblacfjmcpbmaaGreatSortLayL
set_option maxHeartbeats 16000000
set_option maxRecDepth 100000
namespace Go.Proofs.YtoblacfjmcpbmaaGreat
open Go.RowKit
attribute [local irreducible] wpQuiet
theorem growLabel_any (n:Nat) (w:World) (h0:0 < n) (hn:n≤1000) :
 Calls Tryz.prog 143 #[.slice none 0 0,.int .i64 n] w (RetO OLabel 24 [] w):=by
 obtain ⟨i0,hi0,hz0,hzs,hzb⟩:=info_parts (P:=Tryz.prog) (e:=24) (z:=.agg #[.int .i64 0,.int .i64 0]) (size:=2) (bytes:=16) (by kernel_rfl)
 obtain ⟨G,hG⟩:∃ G,G=grownCap w n 0 24:=⟨_,rfl⟩
 obtain ⟨ROW,hROW⟩:∃ ROW:Array Value,ROW=Builtin.zeroCells (Value.agg #[.int .i64 0,.int .i64 0]).cells n ++ Builtin.zeroCells (Value.agg #[.int .i64 0,.int .i64 0]).cells (G - n):=⟨_,rfl⟩
 have hrz:∀ ty,(Builtin.append_ #[39,3] ty #[.slice none 0 0,.int .i64 (n:Int)]).run Tryz.prog w=.ok (.slice (some ⟨w.heap.size,0,none⟩) n G) (w.drew.alloc (.cells ROW 24)):=fun ty=>by
  have h:=Lib.run_append_nil_zeros (P:=Tryz.prog) w 39 3 ty 24 i0 _ .i64 .i64 Tryz.underlying39 Tryz.underlying3 hi0 hz0 n h0 (by omega) (by omega) (by rw [hzb];omega)
  rw [hROW,hG]
  exact h
 have hGn:n≤G:=by rw [hG];exact grownCap_ge w _ _ _
 have hGm:G≤maxLen:=by rw [hG];exact grownCap_le_maxLen w n 0 24 (by unfold maxLen;omega)
 have hRs:ROW.size=G * 2:=by
  rw [hROW,Array.size_append,size_zeroCells,size_zeroCells]
  simp only [Value.cells,Array.size]
  simp
  omega
 have HGm:=Lib.hid hGm
 have HRs:=Lib.hid hRs
 have hG63:G≤9223372036854775807:=by
  have:=hGm
  unfold maxLen at this
  omega
 obtain ⟨W1,hW1⟩:∃ W1,W1=w.drew.alloc (.cells ROW 24):=⟨_,rfl⟩
 rw [← hW1] at hrz
 have HB:Hid (Blk W1 w.heap.size 24 ROW):=Lib.hid (by rw [hW1];exact Blk.new w.drew _ _)
 have HX:Hid (Ext w W1):=Lib.hid (by rw [hW1];exact (Ext.refl w).drew.alloc _)
 have hnn:(0:Int) < (n:Int):=by omega
 clear hi0 hz0 hzs hzb hG hROW hRs hW1 hGm
 go_enter Tryz.func143,Tryz.ntmps143
 go_wp2_with (at_builtin;refine Lib.wpList_append_run _ rfl _ _ _ _ rfl _ _ rfl rfl _ _ (hrz _) ?_)
 go_ret
 exact ⟨_,[w.heap.size],rfl,.inr ⟨w.heap.size,G,ROW,[],rfl,HB.out,Nat.zero_le _,HGm.out,HRs.out,rfl,rfl,by simp,fun k hk=>absurd hk (Nat.not_lt_zero _)⟩,fun b hb=>by rw [List.mem_singleton.1 hb];exact Nat.le_refl _,HX.out⟩
theorem flatten_take {ns:List (List Label)} {k:Nat} (hk:k < ns.length):(ns.take (k+1)).flatten=(ns.take k).flatten ++ nth ns k:=by
 rw [take_succ_nth hk,List.flatten_append];simp
theorem flatten_take_le (ns:List (List Label)) (k:Nat):(ns.take k).flatten.length≤ns.flatten.length:=by
 conv=>rhs;rw [← List.take_append_drop k ns,List.flatten_append,List.length_append]
 omega
theorem nth_len_le {ns:List (List Label)} {k:Nat} (hk:k < ns.length):(ns.take k).flatten.length+(nth ns k).length≤ns.flatten.length:=by
 have:=flatten_take_le ns (k+1)
 rw [flatten_take hk,List.length_append] at this
 exact this
theorem concatLabel_any {S:Nat→Prop} (ns:List (List Label)) (v:Value) (w:World) (h:Rd (ERow ELabel) S w v ns) (h0:0 < ns.flatten.length) (hn:ns.flatten.length≤1000) :
 Calls Tryz.prog 104 #[v] w (RetO OLabel 24 ns.flatten w):=by
 obtain ⟨A,c,rfl,h1,h2,hk⟩:=h.open_
 unfold maxLen at h2
 have HK:=Lib.hid hk
 obtain ⟨q0,hq0⟩:∃ q0,q0=ns.flatten.length:=⟨_,rfl⟩
 have H0:Hid (0 < q0):=Lib.hid (by omega)
 have HN:Hid (ns.flatten.length≤1000):=Lib.hid hn
 have HQ:=Lib.hid hq0
 clear hk h h0 hn hq0
 go_enter Tryz.func104,Tryz.ntmps104
 go_wp2_with fail
 go_loopw [3,11] (fun a i w'=>∃ k:Nat,k≤ns.length∧i=.int .i64 k∧a=.int .i64 ((ns.take k).flatten.length:Nat)∧Ext w w') (fun _ i _=>ns.length - (intOf i).toNat)
 case atStart=>exact ⟨0,by omega,rfl,by simp,Ext.refl _⟩
 case round =>
  obtain ⟨k,hk1,rfl,rfl,hx⟩:=hrel
  have HX:=Lib.hid hx
  have hle:=flatten_take_le ns k
  have HLE:Hid ((ns.take k).flatten.length≤1000):=Lib.hid (Nat.le_trans hle HN.out)
  clear hle
  by_cases hlt:k < ns.length
  · obtain ⟨b,o,cs,rfl,_,⟨v1,rfl,hr⟩,hc⟩:=HK.out k hlt
    obtain ⟨A1,c1,rfl,-⟩:=hr.form
    have c0:=Ext.some hx (hc 0 _ rfl)
    simp only [ERow,Nat.mul_one,Nat.add_zero] at c0
    have HE:Hid ((ns.take (k+1)).flatten.length=(ns.take k).flatten.length+(nth ns k).length):=Lib.hid (by rw [flatten_take hlt,List.length_append])
    have HL:=Lib.hid (nth_len_le hlt)
    clear hr hc hx
    generalize hq:(ns.take k).flatten.length=q at *
    have e1:¬ ((q:Int)+((nth ns k).length:Int) < 0):=by omega
    have e2:wrap64 ((q:Int)+((nth ns k).length:Int))=(q:Int)+((nth ns k).length:Int):=by have:=HL.out;have:=HN.out;unfold wrap64;omega
    clear hq
    go_wp2_with fail
    go_roundw
    case rel=>exact ⟨k+1,by omega,by go_num,by rw [HE.out];go_num,HX.out⟩
    case measure=>simp [intOf];omega
  · obtain rfl:k=ns.length:=by omega
    clear hx
    have HF:Hid ((ns.take ns.length).flatten.length=q0):=Lib.hid (by rw [List.take_length];exact HQ.out.symm)
    rw [HF.out]
    go_upto_region 10 with (go_at_call 143;(with_reducible refine (growLabel_any q0 _ H0.out (HQ.out ▸ HN.out)).mono ?_);rintro e w1 ⟨v1,F1,rfl,o1,f1,x1⟩;have O1:=Lib.hid o1;have F1h:Hid (∀ b∈F1,w.heap.size≤b):=Lib.hid (fun b hb=>Nat.le_trans HX.out.size (f1 b hb));have X1:=Lib.hid (HX.out.trans x1);clear o1 f1 x1)
    go_wp2_with fail
    go_loopw [6,27] (fun a i w'=>∃ (k:Nat) (F:List Nat),k≤ns.length∧i=.int .i64 k∧OwS OLabel 24 w' a (ns.take k).flatten F∧(∀ b∈F,w.heap.size≤b)∧Ext w w') (fun _ i _=>ns.length - (intOf i).toNat)
    case atStart=>exact ⟨0,F1,by omega,rfl,O1.out,F1h.out,X1.out⟩
    case round =>
     obtain ⟨k,F,hk1,rfl,ho,hF,hx⟩:=hrel
     have HO:=Lib.hid ho
     have HFF:=Lib.hid hF
     have HX2:=Lib.hid hx
     obtain ⟨A2,c2,rfl,-⟩:=ho.form
     clear ho hF
     by_cases hlt:k < ns.length
     · obtain ⟨b,o,cs,rfl,_,⟨v1,rfl,hr⟩,hc⟩:=HK.out k hlt
       obtain ⟨A1,c1,rfl,-⟩:=hr.form
       have c0:=Ext.some hx (hc 0 _ rfl)
       simp only [ERow,Nat.mul_one,Nat.add_zero] at c0
       have HR:=Lib.hid (hr.ext hx)
       have HE:=Lib.hid (flatten_take hlt)
       have HL:=Lib.hid (Nat.le_trans (nth_len_le hlt) HN.out)
       clear hr hc hx
       go_wp2_with (at_builtin;refine wpList_append_flat (E:=ELabel) (T:=24) (hfl:=fun h=>h) (l:=(ns.take k).flatten) (ys:=nth ns k) (F:=F) (S:=S) rfl _ _ 39 rfl (.agg #[.int .i64 0,.int .i64 0]) 2 16 Tryz.underlying39 (by kernel_rfl) rfl rfl rfl HO.out rfl HR.out (by have:=HL.out;unfold maxLen;omega) (by have:=HL.out;omega) ?_;intro v3 w3 F3 o3 k3 f3;have O3:=Lib.hid o3;have K3:=Lib.hid k3;have G3:=Lib.hid f3;clear o3 k3 f3)
       refine ⟨⟨k+1,F3,by omega,by go_num,by rw [HE.out];exact O3.out,fun b hb=>?_,K3.out.ext HX2.out HFF.out⟩,by simp [intOf];omega⟩
       rcases G3.out b hb with h | h
       · exact HFF.out b h
       · exact Nat.le_trans HX2.out.size h
     · obtain rfl:k=ns.length:=by omega
       go_wp2_with fail
       go_ret
       exact ⟨_,F,rfl,(show OwS OLabel 24 wr (.slice A2 (List.take ns.length ns).flatten.length c2) ns.flatten F from by have h:=HO.out;rwa [List.take_length] at h ⊢),HFF.out,HX2.out⟩
end Go.Proofs.YtoblacfjmcpbmaaGreat
namespace Go.Proofs.YtoblacfjmcpbmaaGreat
open Go.RowKit Go.Shelf Go.Lib Go.Sort
attribute [local irreducible] wpQuiet
theorem lin_labels:Lin cmpLabels:=by
 have:=Lin.lex (lin_cmp3.comap Label.level) (lin_cmp3.comap Label.set)
 have e:cmpLabels=fun x y=>if cmp3 x.level y.level=0 then cmp3 x.set y.set else cmp3 x.level y.level:=by funext x y;rw [cmpLabels,orOf_two]
 rw [e];exact this
abbrev FLabel:={ x:Label // FitLabel x }
instance:Inhabited FLabel:=⟨⟨⟨0,0⟩,by simp [FitLabel,I64]⟩⟩
def encL (x:FLabel):List Value:=cellsLabel x.1
theorem encL_len (x:FLabel):(encL x).length=2:=rfl
theorem sortWL {w:World} {B n:Nat} {d:Array FLabel} {os:Array Obj} {C:Array Value} {T:TypeId} (hB:Blk w B T C) :
 (∃ C':Array Value,Blk (sortWorldK encL 2 w B 0 n d os) B T C'∧C'.size=C.size)∧Kept [B] w (sortWorldK encL 2 w B 0 n d os):=by
 have hlt:=hB.lt
 have hh:(sortWorldK encL 2 w B 0 n d os).heap=(w.heap.modify B (onCells (putCells id 0 (flatK encL 2 d)))) ++ os:=rfl
 refine ⟨⟨putCells id 0 (flatK encL 2 d) C,?_,by simp [putCells]⟩,rfl,rfl,rfl,by rw [hh];simp,fun b hb hn=>?_⟩
 · show (sortWorldK encL 2 w B 0 n d os).heap[B]? = _
   rw [hh,Array.getElem?_append_left (by simpa using hlt),Array.getElem?_modify,if_pos rfl,hB]
   rfl
 · rw [hh,Array.getElem?_append_left (by simpa using hb),Array.getElem?_modify,if_neg (fun e=>hn (by simp [e]))]
theorem label_own {w:World} {B c:Nat} {C:Array Value} {T:TypeId} {d:Array FLabel} (hB:Blk w B T C) (hC:C.size=c * 2) (hd:d.size≤c) (hc:c≤maxLen) (hH:HoldsK encL 2 w B 0 d) :
 OwS OLabel T w (.slice (some ⟨B,0,none⟩) d.size c) (d.toList.map (·.1)) [B]:=by
 have hl:(d.toList.map (fun x:FLabel=>x.1)).length=d.size:=by simp
 refine .inr ⟨B,c,C,List.replicate d.size [],by rw [hl],hB,by rw [hl];exact hd,hc,hC,by simp,by rw [flat_flatten],by simp,fun k hk=>?_⟩
 rw [hl] at hk
 have e:nth (d.toList.map (fun x:FLabel=>x.1)) k=(d[k]'hk).1:=by rw [nth_eq (by rw [hl];exact hk)];simp
 rw [e]
 refine ⟨cellsLabel (d[k]'hk).1,⟨⟨rfl,(d[k]'hk).2⟩,flat_list (α:=Label) hk⟩,fun j u hj=>?_⟩
 have hj4:j < 2:=(List.getElem?_eq_some_iff.1 hj).1
 have h1:=(hH (k * 2+j) (by rw [size_flatK];omega)).1
 rw [Nat.zero_add,get_flatK _ _ _ _ (by omega),show (k * 2+j) / 2=k by omega,show (k * 2+j) % 2=j by omega,getElem!_pos d k hk] at h1
 rw [show k * ELabel.size+j=k * 2+j from rfl,h1]
 have h2:(encL (d[k]'hk))[j]? = some u:=hj
 obtain ⟨h3,h4⟩:=List.getElem?_eq_some_iff.1 h2
 rw [getElem!_pos (encL (d[k]'hk)) j h3,h4]
 rfl
theorem own_labels {w:World} {v:Value} {T:TypeId} {l:List Label} {F:List Nat} (h:OwS OLabel T w v l F) (hl:0 < l.length) :
 ∃ (B c:Nat) (C:Array Value) (d:Array FLabel),v=.slice (some ⟨B,0,none⟩) d.size c∧Blk w B T C∧C.size=c * 2∧d.size≤c∧c≤maxLen∧F = [B]∧HoldsK encL 2 w B 0 d∧d.toList.map (·.1)=l:=by
 obtain ⟨A,c0,hv0,hc0,_⟩:=h.form
 obtain ⟨B0,hB0⟩:∃ B0,A=some ⟨B0,0,none⟩:=by
  rcases h with ⟨rfl,_⟩ | ⟨B,_,_,_,hv,_⟩
  · simp at hl
  · rw [hv] at hv0;injection hv0 with e1;exact ⟨B,e1.symm⟩
 subst hB0
 subst hv0
 have hF:=OwS.flat_blocks h (by omega)
 rcases h with ⟨rfl,_⟩ | ⟨B,c,C,Fs,hv,hB,h1,h2,h3,hlF,h4,hn,hk⟩
 · simp at hl
 · injection hv with e1 e2 e3
   cases e1
   subst e3
   have hfit:∀ x∈l,FitLabel x:=fun x hx=>by
    obtain ⟨i,hi,rfl⟩:=List.getElem_of_mem hx
    obtain ⟨cs,ho,_⟩:=hk i hi
    rw [← nth_eq hi]
    exact ho.1.2
   obtain ⟨d,hd⟩:∃ d:Array FLabel,d.toList.map (·.1)=l:=⟨(l.attach.map fun x=>(⟨x.1,hfit x.1 x.2⟩:FLabel)).toArray,by simp⟩
   have hs:d.size=l.length:=by rw [← hd];simp
   refine ⟨_,_,C,d,by rw [hs],hB,h3,by rw [hs];exact h1,h2,hF,fun t ht=>⟨?_,Blk.frozen (t:=T) (cs:=C) hB _⟩,hd⟩
   rw [size_flatK] at ht
   have hk':t / 2 < l.length:=by omega
   obtain ⟨cs,ho,hc⟩:=hk _ hk'
   obtain ⟨⟨rfl,_⟩,_⟩:=ho
   have hkd:t / 2 < d.size:=by omega
   rw [Nat.zero_add,get_flatK _ _ _ _ ht,getElem!_pos d _ hkd]
   have e:nth l (t / 2)=(d[t / 2]'hkd).1:=by
    rw [nth_eq hk']
    simp only [← hd]
    simp
   rw [e] at hc
   have h5:t % 2 < (encL (d[t / 2]'hkd)).length:=by rw [encL_len];omega
   have h6:=hc (t % 2) _ (List.getElem?_eq_getElem (l:=encL (d[t / 2]'hkd)) h5)
   rw [getElem!_pos (encL (d[t / 2]'hkd)) _ h5]
   rw [show t / 2 * ELabel.size+t % 2=t from by show t / 2 * 2+t % 2=t;omega] at h6
   exact h6
theorem swoL:SWO (ltOf fun x y:FLabel=>cmpLabels x.1 y.1) where
 irrefl x:=by
  have:=lin_labels.self x.1
  simp [ltOf,this]
 trans x y z h1 h2:=by
  simp only [ltOf,decide_eq_true_eq] at *
  exact lin_labels.lt_trans h1 h2
 ntrans x y z h1 h2:=by
  simp only [ltOf,decide_eq_false_iff_not] at *
  have a1:=lin_labels.anti x.1 y.1
  have a2:=lin_labels.anti y.1 z.1
  have a3:=lin_labels.anti x.1 z.1
  have:=lin_labels.trans z.1 y.1 x.1 (by omega) (by omega)
  omega
theorem call_cmpLabels:∀ (args:Array Value) (W:World),(callFunc 75 args).run Tryz.prog W=.ok (.enter 75 args) W:=by
 intro args W
 go_simp
theorem isAggL:∀ w,(isAgg 24).run Tryz.prog w=.ok true w:=by intro w;go_simp
theorem sizeL:∀ w,(Go.sizeOf 24).run Tryz.prog w=.ok 2 w:=by intro w;go_simp
def RetSortL (v:Value) (l:List Label) (F:List Nat) (w:World) (e:Ending) (w':World):Prop:=e=.returned (.tuple #[])∧∃ m,OwS OLabel 24 w' v m F∧m.Perm l∧(m.Pairwise fun a b=>cmpLabels a b≤0)∧Kept F w w'
theorem sortLabels_any (l:List Label) (v:Value) (F:List Nat) (w:World) (h:OwS OLabel 24 w v l F) (hl:0 < l.length) (hm:l.length≤1000) :
 Calls Tryz.prog 105 #[v,.func (.func 75) #[] #[]] w (RetSortL v l F w):=by
 obtain ⟨B,c,C,d,rfl,hB,hC,hd,hc,rfl,hH,hdl⟩:=own_labels h hl
 have hs:d.size=l.length:=by rw [← hdl];simp
 have hcmp:CmpLays Tryz.prog 75 #[] encL 2 (fun x y:FLabel=>cmpLabels x.1 y.1) B 0 d.size w:=fun m os dk _ x y=>by
  have:=compareLabels_gr (S:=fun _=>True) (S':=fun _=>True) x.1 y.1 (cellsLabel x.1) (cellsLabel y.1) (sortWorldK encL 2 w B 0 m dk os) ⟨rfl,x.2⟩ ⟨rfl,y.2⟩
  exact this
 have hcon:=AnyQ.slices_SortFunc Tryz.sortLabel 2 isAggL sizeL encL encL_len (fun x u hu=>by simp [encL,cellsLabel] at hu;rcases hu with rfl | rfl <;> rfl) (fun x y:FLabel=>cmpLabels x.1 y.1) swoL 75 #[] B 0 c d w call_cmpLabels hcmp hH hB.lt (by omega)
 refine Calls.mono (show Calls Tryz.prog 105 _ _ _ from hcon) ?_
 rintro e w' ⟨rfl,d',n,os,⟨hz,_,hp⟩,hso,rfl⟩
 obtain ⟨⟨C',hB',hC'⟩,hk⟩:=sortWL (n:=n) (d:=d') (os:=os) hB
 have hH':=holdsK_sortWorldK_c encL 2 w B 0 d d' n os hH hB.lt hz
 have ho:=label_own hB' (by rw [hC',hC]) (by rw [hz];exact hd) hc hH'
 rw [hz] at ho
 refine ⟨rfl,d'.toList.map (·.1),ho,?_,?_,hk⟩
 · have e1:d'.extract 0 d.size=d':=by rw [← hz];simp
   have e2:d.extract 0 d.size=d:=by simp
   rw [e1,e2] at hp
   have:=hp.map (fun x:FLabel=>x.1)
   rwa [hdl] at this
 · rw [List.pairwise_map,List.pairwise_iff_getElem]
   intro i j hi hj hij
   have hj':j < d'.size:=by simpa using hj
   have h1:=hso i j (Nat.zero_le _) hij (by omega)
   rw [getElem!_pos d' i (by omega),getElem!_pos d' j hj'] at h1
   simp only [ltOf,decide_eq_false_iff_not] at h1
   have h2:=lin_labels.anti (d'[i]'(by omega)).1 (d'[j]'hj').1
   simp only [Array.getElem_toList]
   omega
end Go.Proofs.YtoblacfjmcpbmaaGreat
namespace Go.Proofs.YtoblacfjmcpbmaaGreat
open Go.RowKit
attribute [local irreducible] wpQuiet
theorem compact_two (x y:Label):∀ a:List Label,compactL (a ++ [x,y])=if x=y then compactL (a ++ [x]) else compactL (a ++ [x]) ++ [y]
 | []=>by
   by_cases h:x=y
   · subst h;simp [compactL]
   · simp [compactL,h]
 | [c]=>by
   by_cases h:x=y
   · subst h;simp [compactL]
   · by_cases h2:c=x <;> simp [compactL,h,h2]
 | c :: d :: r=>by
   have ih:=compact_two x y (d :: r)
   simp only [List.cons_append] at ih ⊢
   by_cases h:x=y
   · rw [if_pos h] at ih ⊢
     by_cases h2:c=d <;> simp [compactL,h2,ih]
   · rw [if_neg h] at ih ⊢
     by_cases h2:c=d <;> simp [compactL,h2,ih]
theorem compact_take {l:List Label} {m:Nat} (h:m+1 < l.length):compactL (l.take (m+2))=if nth l m=nth l (m+1) then compactL (l.take (m+1)) else compactL (l.take (m+1)) ++ [nth l (m+1)]:=by
 rw [take_succ_nth (k:=m+1) h,take_succ_nth (k:=m) (by omega),List.append_assoc]
 exact compact_two _ _ _
theorem zero_labels (n:Nat):(Builtin.zeroCells (Value.agg #[.int .i64 0,.int .i64 0]).cells n).toList.length=n * 2∧∀ v∈(Builtin.zeroCells (Value.agg #[.int .i64 0,.int .i64 0]).cells n).toList,v.oneCell'=true:=zero_spans n
theorem label_cells {w:World} {l:List Label} {B c:Nat} {F:List Nat} {T:TypeId} (h:OwS OLabel T w (.slice (some ⟨B,0,none⟩) l.length c) l F) {j:Nat} (hj:j < l.length):w.rangeAt B (j * 2) (cellsLabel (nth l j))∧FitLabel (nth l j):=by
 obtain ⟨A2,c2,hv2,_,_,hk2⟩:=h.rd.open_
 obtain ⟨b,q,cs,hA2,_,⟨rfl,hf⟩,hc2⟩:=hk2 j hj
 injection hv2 with e1 e2 e3
 rw [← e1] at hA2
 cases hA2
 exact ⟨by simpa [ELabel] using hc2,hf⟩
def RetC (l:List Label) (F:List Nat) (w:World) (e:Ending) (w':World):Prop:=∃ v' F',e=.returned v'∧OwS OLabel 24 w' v' l F'∧(∀ b∈F',b∈F)∧Kept F w w'
theorem compactLabel_any (l:List Label) (v:Value) (F:List Nat) (w:World) (h:OwS OLabel 24 w v l F) (h0:0 < l.length) (hl:l.length≤1000) :
 Calls Tryz.prog 106 #[v] w (RetC (compactL l) F w):=by
 obtain ⟨A,c,rfl,h1,h2⟩:=h.form
 unfold maxLen at h2
 obtain ⟨B,rfl⟩:∃ B,A=some ⟨B,0,none⟩:=by
  rcases h with ⟨rfl,_⟩ | ⟨B,_,_,_,hv,_⟩
  · simp at h0
  · cases hv;exact ⟨B,rfl⟩
 have HO:=Lib.hid h
 have HBF:Hid (B∈F):=Lib.hid (by
  rcases h with ⟨_,_,A',hv⟩ | ⟨B',c',C,Fs,hv,_,_,_,_,_,rfl,_⟩
  · injection hv with _ hh;omega
  · injection hv with e1 e2 e3;cases e1;exact List.mem_cons_self ..)
 clear h
 by_cases h2':l.length < 2
 · have HE:Hid (compactL l=l):=Lib.hid (by
    match l,h0,h2' with
    | [x],_,_=>rfl)
   go_enter Tryz.func106,Tryz.ntmps106
   go_wp2_with fail
   go_ret
   exact ⟨_,F,rfl,by rw [HE.out];exact HO.out,fun b hb=>hb,Kept.refl _ _⟩
 · have h2'':2≤l.length:=by omega
   clear h2'
   go_enter Tryz.func106,Tryz.ntmps106
   go_wp2_with fail
   go_loopw [3] (fun i w'=>∃ k:Nat,1≤k∧k≤l.length∧i=.int .i64 k∧compactL (l.take k)=l.take k∧Ext w w') (fun i _=>l.length - (intOf i).toNat)
   case atStart=>exact ⟨1,by omega,by omega,rfl,by rw [take_succ_nth (k:=0) (by omega)];rfl,Ext.refl _⟩
   case round =>
    obtain ⟨k,hk0,hk1,rfl,hc,hx⟩:=hrel
    have HC:=Lib.hid hc
    have HX:=Lib.hid hx
    clear hc
    by_cases hlt:k < l.length
    · obtain ⟨m,rfl⟩:∃ m,k=m+1:=⟨k - 1,by omega⟩
      obtain ⟨hca,hfa⟩:=label_cells (HO.out.ext hx) hlt
      obtain ⟨hcb,hfb⟩:=label_cells (HO.out.ext hx) (j:=m) (by omega)
      have c0:=hca 0 _ rfl
      have c1:=hca 1 _ rfl
      have d0:=hcb 0 _ rfl
      have d1:=hcb 1 _ rfl
      simp only [Nat.add_zero] at c0 c1 d0 d1
      have HT:=Lib.hid (compact_take (l:=l) (m:=m) hlt)
      have i0:(0:Int)≤(m:Int)+1:=by omega
      have i1:(m:Int)+1 < (l.length:Int):=by omega
      have i2:((m:Int)+1).toNat=m+1:=by omega
      have i3:IntKind.i64.wrap (m:Int)=(m:Int):=IntWalk.i64_in _ (by omega)
      have i4:m < l.length:=by omega
      clear hca hcb hfa hfb hx
      by_cases he:nth l m=nth l (m+1)
      · have HT2:Hid (compactL (l.take (m+2))=l.take (m+1)):=Lib.hid (by rw [HT.out,if_pos he,HC.out])
        have g0:(nth l (m+1)).level=(nth l m).level:=by rw [he]
        have g1:(nth l (m+1)).set=(nth l m).set:=by rw [he]
        clear he
        go_wp2_with fail
        refine wp_region_ext (by kernel_rfl) (by kernel_rfl) ?_
        repeat (
         (refine wpQuiet_step (fun K hK=>?_)
          go_simp
          first
           | (refine hK _ ?_;clear hK K)
           | (apply Exists.intro
              refine ⟨fun w__ hx__=>?_,hK _ ?_⟩
              · have c0__:=Ext.some hx__ c0;have c1__:=Ext.some hx__ c1;have d0__:=Ext.some hx__ d0;have d1__:=Ext.some hx__ d1;first | exact rfl | (go_simp;done) | (go_simp;exact rfl)
              clear hK K)))
        refine wpQuiet_nil ?_
        intro w1 hx1
        have HE:=Lib.hid hx1
        clear c0 c1 d0 d1 hx1 g0 g1
        have X1:=Lib.hid (HX.out.trans HE.out)
        have hmc:m+1≤c:=by omega
        go_wp2_with fail
        go_loopw [3,5] (fun a b w'=>∃ (i k2:Nat) (q:List Label),a=.int .i64 i∧b=.int .i64 k2∧1≤k2∧i < m+1+k2∧m+1+k2≤l.length∧q.length=l.length∧q.take i=compactL (l.take (m+1+k2))∧(∀ t,m+k2≤t→t < l.length→nth q t=nth l t)∧OwS OLabel 24 w' (.slice (some ⟨B,0,none⟩) l.length c) q F∧Kept F w w') (fun _ b _=>l.length - (intOf b).toNat)
        case atStart=>exact ⟨m+1,1,l,rfl,rfl,Nat.le_refl _,by omega,by omega,rfl,HT2.out.symm,fun _ _ _=>rfl,HO.out.ext X1.out,Kept.of_ext X1.out⟩
        case round =>
         obtain ⟨i,k2,q,rfl,rfl,hk2,hij,hj,hql,hqt,hqn,hown,hkp⟩:=hrel
         have HQL:=Lib.hid hql
         have HQT:=Lib.hid hqt
         have HQN:=Lib.hid hqn
         have HOW:=Lib.hid hown
         have HKP:=Lib.hid hkp
         clear hql hqt hqn hown hkp
         by_cases hlt2:m+1+k2 < l.length
         · have hown':OwS OLabel 24 wr (.slice (some ⟨B,0,none⟩) q.length c) q F:=by rw [HQL.out];exact HOW.out
           obtain ⟨hca,hfa⟩:=label_cells hown' (j:=m+1+k2) (by rw [HQL.out];exact hlt2)
           obtain ⟨hcb,hfb⟩:=label_cells hown' (j:=m+k2) (by rw [HQL.out];omega)
           rw [HQN.out (m+1+k2) (by omega) hlt2] at hca hfa
           rw [HQN.out (m+k2) (by omega) (by omega)] at hcb hfb
           rw [show (m+1+k2) * 2=(m+1) * 2+k2 * 2 by omega] at hca
           rw [show (m+k2) * 2=(m+1) * 2+(k2 - 1) * 2 by omega] at hcb
           have c0:=hca 0 _ rfl
           have c1:=hca 1 _ rfl
           have d0:=hcb 0 _ rfl
           have d1:=hcb 1 _ rfl
           simp only [Nat.add_zero] at c0 c1 d0 d1
           have em3:((k2:Nat):Int) - 1=((k2 - 1:Nat):Int):=by omega
           have i5:IntKind.i64.wrap ((k2 - 1:Nat):Int)=((k2 - 1:Nat):Int):=IntWalk.i64_in _ (by omega)
           have hk3:k2 < l.length - (m+1):=by omega
           have hk4:k2 - 1 < l.length - (m+1):=by omega
           have hk5:((k2:Nat):Int) < ((l.length - (m+1):Nat):Int):=by omega
           have hk6:(((k2 - 1:Nat):Nat):Int) < ((l.length - (m+1):Nat):Int):=by omega
           have HFit:=Lib.hid hfa
           have HT3:=Lib.hid (compact_take (l:=l) (m:=m+k2) (by omega))
           clear hca hcb hfa hfb hown'
           by_cases he2:nth l (m+k2)=nth l (m+1+k2)
           · have g0:(nth l (m+1+k2)).level=(nth l (m+k2)).level:=by rw [he2]
             have g1:(nth l (m+1+k2)).set=(nth l (m+k2)).set:=by rw [he2]
             have HT4:Hid (compactL (l.take (m+1+(k2+1)))=compactL (l.take (m+1+k2))):=Lib.hid (by
              rw [show m+1+(k2+1)=m+k2+2 by omega,HT3.out,if_pos (by rw [he2];congr 1;omega),show m+k2+1=m+1+k2 by omega])
             clear he2
             go_wp2_with fail
             refine wp_region_ext (by kernel_rfl) (by kernel_rfl) ?_
             repeat (
              (refine wpQuiet_step (fun K hK=>?_)
               go_simp
               first
                | (refine hK _ ?_;clear hK K)
                | (apply Exists.intro
                   refine ⟨fun w__ hx__=>?_,hK _ ?_⟩
                   · have c0__:=Ext.some hx__ c0;have c1__:=Ext.some hx__ c1;have d0__:=Ext.some hx__ d0;have d1__:=Ext.some hx__ d1;first | exact rfl | (go_simp;done) | (go_simp;exact rfl)
                   clear hK K)))
             refine wpQuiet_nil ?_
             intro w1 hx1
             have HE2:=Lib.hid hx1
             clear c0 c1 d0 d1 hx1 g0 g1
             go_wp2_with fail
             go_roundw
             case rel=>exact ⟨i,k2+1,q,rfl,by go_num,by omega,by omega,by omega,HQL.out,by rw [HT4.out];exact HQT.out,fun t h3 h4=>HQN.out t (by omega) h4,HOW.out.ext HE2.out,HKP.out.trans (Kept.of_ext HE2.out)⟩
             case measure=>simp [intOf];omega
           · have him:i < q.length:=by have:=HQL.out;omega
             have HT4:Hid ((q.set i (nth l (m+1+k2))).take (i+1)=compactL (l.take (m+1+(k2+1)))):=Lib.hid (by
              rw [take_set_succ him,HQT.out,show m+1+(k2+1)=m+k2+2 by omega,HT3.out,if_neg (by intro e;exact he2 (by rw [e];congr 1;omega)),show m+k2+1=m+1+k2 by omega])
             have he3:nth l (m+1+k2)≠nth l (m+k2):=fun e=>he2 e.symm
             rcases label_ne he3 with g | g
             all_goals
              clear he2 he3
              have gb:=beq_eq_false_iff_ne.2 g
              go_wp2_with fail
              refine wp_region_ext (by kernel_rfl) (by kernel_rfl) ?_
              repeat (
               (refine wpQuiet_step (fun K hK=>?_)
                go_simp
                first
                 | (refine hK _ ?_;clear hK K)
                 | (apply Exists.intro
                    refine ⟨fun w__ hx__=>?_,hK _ ?_⟩
                    · have c0__:=Ext.some hx__ c0;have c1__:=Ext.some hx__ c1;have d0__:=Ext.some hx__ d0;have d1__:=Ext.some hx__ d1;first | exact rfl | (go_simp;done) | (go_simp;exact rfl)
                    clear hK K)))
              refine wpQuiet_nil ?_
              intro w1 hx1
              have HE2:=Lib.hid hx1
              have c0':=Ext.some hx1 c0
              have c1':=Ext.some hx1 c1
              clear c0 c1 d0 d1 hx1
              obtain ⟨B',c',G,cs,hv,hBF,hBG,hGF,ho,hc,hfz,hth,hrow,hset⟩:=(HOW.out.ext HE2.out).at (k:=i) him
              obtain ⟨⟨rfl,hfi⟩,rfl⟩:=ho
              injection hv with hA hlen hcc
              clear hlen
              subst hcc
              cases hA
              have d0:=hc 0 _ rfl
              have d1:=hc 1 _ rfl
              have z0:=hfz (i * 2)
              have z1:=hfz (i * 2+1)
              simp only [ELabel,Nat.add_zero] at d0 d1
              have HN:Hid (OwS OLabel 24 (w1.setCells B (i * 2) [.int .i64 (nth l (m+1+k2)).level,.int .i64 (nth l (m+1+k2)).set]) (.slice (some ⟨B,0,none⟩) l.length c) (q.set i (nth l (m+1+k2))) F):=Lib.hid (by
               refine hset _ _ [.int .i64 (nth l (m+1+k2)).level,.int .i64 (nth l (m+1+k2)).set] (Kept.setCells (by simp) _ _ _ (Kept.refl _ _)) (RowBut.setCells _ _ _ hrow (by simp [ELabel]) (by simp [ELabel])) ⟨rel_Label HFit.out,rfl⟩ ?_
               exact World.rangeAt_setCells_same w1 B (i * 2) [.int .i64 (nth l (m+1+k2)).level,.int .i64 (nth l (m+1+k2)).set] hth)
              have hil:(i:Int) < (l.length:Int):=by have:=HQL.out;omega
              clear hset hth hrow hc hfz hfi hBF hBG hGF gb g
              go_wp2_with fail
              go_roundw
              case rel=>exact ⟨i+1,k2+1,q.set i (nth l (m+1+k2)),by go_num,by go_num,by omega,by omega,by omega,by rw [List.length_set];exact HQL.out,HT4.out,fun t h3 h4=>by rw [nth_set_ne (by omega) (by rw [HQL.out];exact h4)];exact HQN.out t (by omega) h4,HN.out,Kept.setCell (Kept.setCell (HKP.out.trans (Kept.of_ext HE2.out)) HBF.out _) HBF.out _⟩
              case measure=>simp [intOf];omega
         · have hk2e:m+1+k2=l.length:=by omega
           have hil:(i:Int) < (l.length:Int):=by omega
           have hi0:(0:Int)≤(i:Int):=Int.natCast_nonneg _
           obtain ⟨C,hB⟩:∃ C:Array Value,wr.heap[B]? = some (.cells C 24 (0,0))∧C.size=c * 2:=by
            rcases HOW.out with ⟨_,_,A',hv⟩ | ⟨B',c',C,Fs,hv,hB,_,_,h3,_⟩
            · injection hv with _ hh;omega
            · injection hv with e1 e2 e3;cases e1;subst e3;exact ⟨C,hB,by simpa [ELabel] using h3⟩
           have HTH:Hid (wr.there B (i * 2) ((l.length - i) * 2)):=Lib.hid (cells_there hB.1 (by rw [hB.2];omega))
           have HRW:Hid (RowBut 24 B (i * 2) ((l.length - i) * 2) wr (wr.setCells B (i * 2) (Builtin.zeroCells (Value.agg #[.int .i64 0,.int .i64 0]).cells (l.length - i)).toList)):=Lib.hid (RowBut.setCells _ _ _ (RowBut.refl hB.1) (Nat.le_refl _) (by rw [(zero_labels _).1];exact Nat.le_refl _))
           clear hB
           have HQT2:Hid (q.take i=compactL l):=Lib.hid (by rw [HQT.out,hk2e,List.take_length])
           have hik:¬ ((k2:Int) < ((l.length - (m+1):Nat):Int)):=by omega
           have hclr:=run_clear_row (P:=Tryz.prog) wr 39 24 0 (.agg #[.int .i64 0,.int .i64 0]) (l.length - i) Tryz.underlying39 (by intro w;go_simp) (zero_labels _).2 B (i * 2) (c - i) (by omega) (by rw [(zero_labels _).1];exact HTH.out)
           go_wp2_with fail
           go_ret
           obtain ⟨F2,o2,f2⟩:=OwS.cut (h:=by rw [HQL.out];exact HOW.out) (by rw [HQL.out];omega) (n:=i) (by rw [HQL.out];omega) HRW.out
           exact ⟨_,F2,rfl,by rw [← HQT2.out];exact o2,f2,HKP.out.trans (Kept.setCells HBF.out _ _ _ (Kept.refl _ _))⟩
      · have HT2:Hid (compactL (l.take (m+1+1))=l.take (m+1+1)):=Lib.hid (by rw [HT.out,if_neg he,HC.out,take_succ_nth (k:=m+1) hlt])
        have he3:nth l (m+1)≠nth l m:=fun e=>he e.symm
        rcases label_ne he3 with g | g
        all_goals
         clear he he3
         have gb:=beq_eq_false_iff_ne.2 g
         go_wp2_with fail
         refine wp_region_ext (by kernel_rfl) (by kernel_rfl) ?_
         repeat (
          (refine wpQuiet_step (fun K hK=>?_)
           go_simp
           first
            | (refine hK _ ?_;clear hK K)
            | (apply Exists.intro
               refine ⟨fun w__ hx__=>?_,hK _ ?_⟩
               · have c0__:=Ext.some hx__ c0;have c1__:=Ext.some hx__ c1;have d0__:=Ext.some hx__ d0;have d1__:=Ext.some hx__ d1;first | exact rfl | (go_simp;done) | (go_simp;exact rfl)
               clear hK K)))
         refine wpQuiet_nil ?_
         intro w1 hx1
         have HE:=Lib.hid hx1
         clear c0 c1 d0 d1 hx1 gb g
         go_wp2_with fail
         go_roundw
         case rel=>exact ⟨m+1+1,by omega,by omega,by go_num,HT2.out,HX.out.trans HE.out⟩
         case measure=>simp [intOf];omega
    · obtain rfl:k=l.length:=by omega
      have HE:Hid (compactL l=l):=Lib.hid (by have:=HC.out;rwa [List.take_length] at this)
      go_wp2_with fail
      go_ret
      exact ⟨_,F,rfl,by rw [HE.out];exact HO.out.ext HX.out,fun b hb=>hb,Kept.of_ext HX.out⟩
end Go.Proofs.YtoblacfjmcpbmaaGreat
