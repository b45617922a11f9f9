/- The walks of the program's lastLabel, YardPlan and Least. Printed by wip/plany.py. -/
import Derived.Test.YtoblacfjmcpbmaaGreatPlanT
import Derived.Test.YtoblacfjmcpbmaaGreatRows
import Derived.Test.YtoblacfjmcpbmaaGreatGElems
import Derived.Test.YtoblacfjmcpbmaaGreatLib
import Derived.Test.YtoblacfjmcpbmaaGreatGYardT
import Derived.Deep.RegionHeld3
import Derived.Test.YtoblacfjmcpbmaaGreatInsSpan
import Derived.Test.YtoblacfjmcpbmaaGreatTaskR
import Derived.Test.YtoblacfjmcpbmaaGreatSortLay
set_option maxHeartbeats 8000000
namespace Go.Proofs.YtoblacfjmcpbmaaGreat
open Go.RowKit
attribute [local irreducible] wpQuiet
theorem lastLabel_any (w:World):Calls Tryz.prog 44 #[] w fun e w'=>e=.returned (.agg #[.int .i64 3,.int .i64 7])∧Ext w w':=by
 go_enter Tryz.func44,Tryz.ntmps44
 go_upto_region 1 with (fail)
 obtain ⟨W,B,hW__,hB__,hx__,hb__⟩:=new_box w #[.int .i64 0,.int .i64 0] 24
 rw [← hW__,← hB__]
 have XW:=Lib.hid hx__
 have QB:=Lib.hid hb__
 have EB:=Lib.hid hB__
 clear hW__ hB__ hx__ hb__
 have HB:Hid (w.heap.size≤B):=Lib.hid (by rw [EB.out];exact Nat.le_refl _)
 go_wp2_with (refine wpList_store_mid rfl 24 _ _ rfl B 0 #[.int .i64 3,.int .i64 7] rfl rfl (Blk.there (t:=24) (cs:=#[.int .i64 0,.int .i64 0]) QB.out) (by kernel_rfl) (all_oneCell_toArray (cs:=[.int .i64 3,.int .i64 7]) (by simp [Value.oneCell'])) ?_)
 exact bodyPost_ret (v:=.agg #[.int .i64 3,.int .i64 7]) (results_blk Tryz.results44 rfl (Blk.setAll (t:=24) (cs:=#[.int .i64 0,.int .i64 0]) (vs:=#[.int .i64 3,.int .i64 7]) QB.out rfl) Tryz.underlying24 rfl (by kernel_rfl)) rfl ⟨rfl,setCells_ext HB.out _ _ _ XW.out⟩
end Go.Proofs.YtoblacfjmcpbmaaGreat
/- slices.SortFunc at uses: the kit's contract,laid for this seat,told of memory that a slice has for itself. -/
namespace Go.Proofs.YtoblacfjmcpbmaaGreat
open Go.RowKit Go.Shelf Go.Lib Go.Sort
attribute [local irreducible] wpQuiet
abbrev FUse:={ x:Use // FitUse x }
instance:Inhabited FUse:=⟨⟨⟨⟨0,0⟩,⟨#[]⟩,0⟩,by simp [FitUse,I64,Str];exact Nat.zero_le _⟩⟩
def encU (x:FUse):List Value:=cellsUse x.1
theorem encU_len (x:FUse):(encU x).length=4:=rfl
theorem sortW {w:World} {B n:Nat} {d:Array FUse} {os:Array Obj} {C:Array Value} {T:TypeId} (hB:Blk w B T C) :
 (∃ C':Array Value,Blk (sortWorldK encU 4 w B 0 n d os) B T C'∧C'.size=C.size)∧Kept [B] w (sortWorldK encU 4 w B 0 n d os):=by
 have hlt:=hB.lt
 have hh:(sortWorldK encU 4 w B 0 n d os).heap=(w.heap.modify B (onCells (putCells id 0 (flatK encU 4 d)))) ++ os:=rfl
 refine ⟨⟨putCells id 0 (flatK encU 4 d) C,?_,by simp [putCells]⟩,rfl,rfl,rfl,by rw [hh];simp,fun b hb hn=>?_⟩
 · show (sortWorldK encU 4 w B 0 n d os).heap[B]? = _
   rw [hh,Array.getElem?_append_left (by simpa using hlt),Array.getElem?_modify,if_pos rfl,hB]
   rfl
 · rw [hh,Array.getElem?_append_left (by simpa using hb),Array.getElem?_modify,if_neg (fun e=>hn (by simp [e]))]
theorem use_own {w:World} {B c:Nat} {C:Array Value} {T:TypeId} {d:Array FUse} (hB:Blk w B T C) (hC:C.size=c * 4) (hd:d.size≤c) (hc:c≤maxLen) (hH:HoldsK encU 4 w B 0 d) :
 OwS OUse T w (.slice (some ⟨B,0,none⟩) d.size c) (d.toList.map (·.1)) [B]:=by
 have hl:(d.toList.map (fun x:FUse=>x.1)).length=d.size:=by simp
 refine .inr ⟨B,c,C,List.replicate d.size [],by rw [hl],hB,by rw [hl];exact hd,hc,hC,by simp,by rw [flat_flatten],by simp,fun k hk=>?_⟩
 rw [hl] at hk
 have e:nth (d.toList.map (fun x:FUse=>x.1)) k=(d[k]'hk).1:=by rw [nth_eq (by rw [hl];exact hk)];simp
 rw [e]
 refine ⟨cellsUse (d[k]'hk).1,⟨⟨rfl,(d[k]'hk).2⟩,flat_list (α:=Use) hk⟩,fun j u hj=>?_⟩
 have hj4:j < 4:=(List.getElem?_eq_some_iff.1 hj).1
 have h1:=(hH (k * 4+j) (by rw [size_flatK];omega)).1
 rw [Nat.zero_add,get_flatK _ _ _ _ (by omega),show (k * 4+j) / 4=k by omega,show (k * 4+j) % 4=j by omega,getElem!_pos d k hk] at h1
 rw [show k * EUse.size+j=k * 4+j from rfl,h1]
 have h2:(encU (d[k]'hk))[j]? = some u:=hj
 obtain ⟨h3,h4⟩:=List.getElem?_eq_some_iff.1 h2
 rw [getElem!_pos (encU (d[k]'hk)) j h3,h4]
 rfl
theorem own_use {w:World} {v:Value} {T:TypeId} {l:List Use} {F:List Nat} (h:OwS OUse T w v l F) (hl:0 < l.length) :
 ∃ (B c:Nat) (C:Array Value) (d:Array FUse),v=.slice (some ⟨B,0,none⟩) d.size c∧Blk w B T C∧C.size=c * 4∧d.size≤c∧c≤maxLen∧F = [B]∧HoldsK encU 4 w B 0 d∧d.toList.map (·.1)=l:=by
 obtain ⟨A,c0,hv0,hc0,_⟩:=h.form
 obtain ⟨B0,hB0⟩:∃ B0,A=some ⟨B0,0,none⟩:=by
  rcases h with ⟨rfl,_⟩ | ⟨B,_,_,_,hv,_⟩
  · simp at hl
  · rw [hv] at hv0;injection hv0 with e1;exact ⟨B,e1.symm⟩
 subst hB0
 subst hv0
 have hF:=OwS.flat_blocks h (by omega)
 rcases h with ⟨rfl,_⟩ | ⟨B,c,C,Fs,hv,hB,h1,h2,h3,hlF,h4,hn,hk⟩
 · simp at hl
 · injection hv with e1 e2 e3
   cases e1
   subst e3
   have hfit:∀ x∈l,FitUse x:=fun x hx=>by
    obtain ⟨i,hi,rfl⟩:=List.getElem_of_mem hx
    obtain ⟨cs,ho,_⟩:=hk i hi
    rw [← nth_eq hi]
    exact ho.1.2
   obtain ⟨d,hd⟩:∃ d:Array FUse,d.toList.map (·.1)=l:=⟨(l.attach.map fun x=>(⟨x.1,hfit x.1 x.2⟩:FUse)).toArray,by simp⟩
   have hs:d.size=l.length:=by rw [← hd];simp
   refine ⟨_,_,C,d,by rw [hs],hB,h3,by rw [hs];exact h1,h2,hF,fun t ht=>⟨?_,Blk.frozen (t:=T) (cs:=C) hB _⟩,hd⟩
   rw [size_flatK] at ht
   have hk':t / 4 < l.length:=by omega
   obtain ⟨cs,ho,hc⟩:=hk _ hk'
   obtain ⟨⟨rfl,_⟩,_⟩:=ho
   have hkd:t / 4 < d.size:=by omega
   rw [Nat.zero_add,get_flatK _ _ _ _ ht,getElem!_pos d _ hkd]
   have e:nth l (t / 4)=(d[t / 4]'hkd).1:=by
    rw [nth_eq hk']
    simp only [← hd]
    simp
   rw [e] at hc
   have h5:t % 4 < (encU (d[t / 4]'hkd)).length:=by rw [encU_len];omega
   have h6:=hc (t % 4) _ (List.getElem?_eq_getElem (l:=encU (d[t / 4]'hkd)) h5)
   rw [getElem!_pos (encU (d[t / 4]'hkd)) _ h5]
   rw [show t / 4 * EUse.size+t % 4=t from by show t / 4 * 4+t % 4=t;omega] at h6
   exact h6
theorem swoU:SWO (ltOf fun x y:FUse=>cmpUses x.1 y.1) where
 irrefl x:=by
  have:=lin_uses.self x.1
  simp [ltOf,this]
 trans x y z h1 h2:=by
  simp only [ltOf,decide_eq_true_eq] at *
  exact lin_uses.lt_trans h1 h2
 ntrans x y z h1 h2:=by
  simp only [ltOf,decide_eq_false_iff_not] at *
  have a1:=lin_uses.anti x.1 y.1
  have a2:=lin_uses.anti y.1 z.1
  have a3:=lin_uses.anti x.1 z.1
  have:=lin_uses.trans z.1 y.1 x.1 (by omega) (by omega)
  omega
theorem call_cmpUses:∀ (args:Array Value) (W:World),(callFunc 81 args).run Tryz.prog W=.ok (.enter 81 args) W:=by
 intro args W
 go_simp
theorem isAggU:∀ w,(isAgg 75).run Tryz.prog w=.ok true w:=by intro w;go_simp
theorem sizeU:∀ w,(Go.sizeOf 75).run Tryz.prog w=.ok 4 w:=by intro w;go_simp
def RetSort (v:Value) (l:List Use) (F:List Nat) (w:World) (e:Ending) (w':World):Prop:=e=.returned (.tuple #[])∧∃ m,OwS OUse 75 w' v m F∧m.Perm l∧(m.Pairwise fun a b=>cmpUses a b≤0)∧Kept F w w'
theorem sortUses_any (l:List Use) (v:Value) (F:List Nat) (w:World) (h:OwS OUse 75 w v l F) (hl:0 < l.length) (hm:l.length≤1000) :
 Calls Tryz.prog 89 #[v,.func (.func 81) #[] #[]] w (RetSort v l F w):=by
 obtain ⟨B,c,C,d,rfl,hB,hC,hd,hc,rfl,hH,hdl⟩:=own_use h hl
 have hs:d.size=l.length:=by rw [← hdl];simp
 have hcmp:CmpLays Tryz.prog 81 #[] encU 4 (fun x y:FUse=>cmpUses x.1 y.1) B 0 d.size w:=fun m os dk _ x y=>by
  have:=compareUses_gr (S:=fun _=>True) (S':=fun _=>True) x.1 y.1 (cellsUse x.1) (cellsUse y.1) (sortWorldK encU 4 w B 0 m dk os) ⟨rfl,x.2⟩ ⟨rfl,y.2⟩
  exact this
 have hcon:=AnyQ.slices_SortFunc Tryz.sortUse 4 isAggU sizeU encU encU_len (fun x u hu=>by simp [encU,cellsUse] at hu;rcases hu with rfl | rfl | rfl | rfl <;> rfl) (fun x y:FUse=>cmpUses x.1 y.1) swoU 81 #[] B 0 c d w call_cmpUses hcmp hH hB.lt (by omega)
 refine Calls.mono (show Calls Tryz.prog 89 _ _ _ from hcon) ?_
 rintro e w' ⟨rfl,d',n,os,⟨hz,_,hp⟩,hso,rfl⟩
 obtain ⟨⟨C',hB',hC'⟩,hk⟩:=sortW (n:=n) (d:=d') (os:=os) hB
 have hH':=holdsK_sortWorldK_c encU 4 w B 0 d d' n os hH hB.lt hz
 have ho:=use_own hB' (by rw [hC',hC]) (by rw [hz];exact hd) hc hH'
 rw [hz] at ho
 refine ⟨rfl,d'.toList.map (·.1),ho,?_,?_,hk⟩
 · have e1:d'.extract 0 d.size=d':=by rw [← hz];simp
   have e2:d.extract 0 d.size=d:=by simp
   rw [e1,e2] at hp
   have:=hp.map (fun x:FUse=>x.1)
   rwa [hdl] at this
 · rw [List.pairwise_map,List.pairwise_iff_getElem]
   intro i j hi hj hij
   have hj':j < d'.size:=by simpa using hj
   have h1:=hso i j (Nat.zero_le _) hij (by omega)
   rw [getElem!_pos d' i (by omega),getElem!_pos d' j hj'] at h1
   simp only [ltOf,decide_eq_false_iff_not] at h1
   have h2:=lin_uses.anti (d'[i]'(by omega)).1 (d'[j]'hj').1
   simp only [Array.getElem_toList]
   omega
end Go.Proofs.YtoblacfjmcpbmaaGreat
/- The walk of the program's UseAdd. -/
namespace Go.Proofs.YtoblacfjmcpbmaaGreat
open Go.RowKit
attribute [local irreducible] wpQuiet
theorem longText2_any (t:ByteArray) (w:World) (_ht:t.size≤maxLen):Calls Tryz.prog 88 #[.string t] w fun e w'=>e=.returned (.bool (decide (8000 < t.size)))∧w=w':=by
 unfold maxLen at _ht
 go_enter Tryz.func88,Tryz.ntmps88
 go_wp2_with fail
 go_ret
 exact ⟨ret_bool (by rw [Bool.eq_iff_iff];simp;omega),rfl⟩
set_option maxRecDepth 100000 in
theorem useAdd_any {S:Nat→Prop} (l:List Use) (a:Label) (o:ByteArray) (n:Int) (v:Value) (w:World) (h:Rd EUse S w v l) (ha:FitLabel a) (ho:Str o) (hn:I64 n) :
 Calls Tryz.prog 36 #[v,.agg #[.int .i64 a.level,.int .i64 a.set],.string o,.int .i64 n] w (RetO OUse 75 (useAdd l a o n) w):=by
 have HR:=Lib.hid h
 obtain ⟨A,c,rfl,h1,h2⟩:=h.form
 unfold maxLen at h2
 have HA:=Lib.hid ha
 have HO:Hid (o.size≤maxLen):=Lib.hid ho
 have HN:=Lib.hid hn
 clear h ha ho hn
 go_enter Tryz.func36,Tryz.ntmps36
 go_upto_region 1 with (fail)
 obtain ⟨W,B,hW,hB,hx0,b0⟩:∃ V B,V=w.alloc (.cells #[.int .i64 a.level,.int .i64 a.set] 24)∧B=w.heap.size∧Ext w V∧Blk V B 24 #[.int .i64 a.level,.int .i64 a.set]:=⟨_,_,rfl,rfl,(Ext.refl w).alloc _,Blk.new _ _ _⟩
 rw [← hW,← hB]
 have B0:=Lib.hid b0
 have X0:=Lib.hid hx0
 have p0:W.cell? ⟨B,0,none⟩=some (.int .i64 a.level):=B0.out.cell 0
 have p1:W.cell? ⟨B,1,none⟩=some (.int .i64 a.set):=B0.out.cell 1
 clear hW hB hx0 b0
 by_cases hl:400 < l.length
 · have HE:Hid (useAdd l a o n = []):=Lib.hid (by rw [useAdd,if_pos (.inl hl)])
   go_wp2_with fail
   go_ret
   exact ⟨_,[],rfl,by rw [HE.out];exact OwS.nil _,fun b hb=>(by cases hb),X0.out⟩
 by_cases h8:8000 < o.size
 · have HE:Hid (useAdd l a o n = []):=Lib.hid (by rw [useAdd,if_pos (.inr h8)])
   have h8b:decide (8000 < o.size)=true:=by simpa using h8
   go_wp2_with (go_at_call 88;refine (longText2_any _ _ HO.out).mono ?_;rintro e w' ⟨rfl,rfl⟩)
   go_ret
   exact ⟨_,[],rfl,by rw [HE.out];exact OwS.nil _,fun b hb=>(by cases hb),X0.out⟩
 have h8b:decide (8000 < o.size)=false:=by simpa using h8
 have hlo:¬ (400 < l.length∨8000 < o.size):=by omega
 have HLO:=Lib.hid hlo
 have hl2:l.length≤400:=by omega
 clear hlo
 go_upto_region 4 with (first | (go_at_call 88;refine (longText2_any _ _ HO.out).mono ?_;rintro e w' ⟨rfl,rfl⟩) | (go_at_call 72;(with_reducible refine (cloneUse_any (S:=S) l _ _ (HR.out.ext X0.out) (by omega)).mono ?_);rintro e w1 ⟨v1,F1,rfl,o1,f1,hx1⟩;obtain ⟨A1,c1,rfl,-⟩:=o1.form;have O1:=Lib.hid o1;have G1:Hid (∀ b∈F1,w.heap.size≤b):=Lib.hid (fun b hb=>Nat.le_trans X0.out.size (f1 b hb));have X1:=Lib.hid (X0.out.trans hx1);have B1:=Lib.hid (B0.out.ext hx1);have p0b:w1.cell? ⟨B,0,none⟩=some (.int .i64 a.level):=B1.out.cell 0;have p1b:w1.cell? ⟨B,1,none⟩=some (.int .i64 a.set):=B1.out.cell 1;clear o1 f1 hx1 p0 p1))
 cases hu:usesRight l with
 | false =>
   have HE:Hid (useAdd l a o n=l):=Lib.hid (by rw [useAdd,if_neg HLO.out,if_pos (by simp [hu])])
   go_wp2_with (go_at_call 34;(with_reducible refine (usesRight_any (S:=S) l _ _ (HR.out.ext X1.out)).mono ?_);rw [hu];rintro e w2 ⟨rfl,hx2⟩;have H2:=Lib.hid hx2;clear hx2)
   go_ret
   exact ⟨_,F1,rfl,by rw [HE.out];exact O1.out.ext H2.out,G1.out,X1.out.trans H2.out⟩
 | true =>
 have HU:=Lib.hid hu
 clear hu
 cases hla:labelRight a with
 | false =>
   have HE:Hid (useAdd l a o n=l):=Lib.hid (by rw [useAdd,if_neg HLO.out,if_pos (by simp [hla])])
   go_wp2_with (first | (go_at_call 34;(with_reducible refine (usesRight_any (S:=S) l _ _ (HR.out.ext X1.out)).mono ?_);rw [HU.out];rintro e w2 ⟨rfl,hx2⟩;have H2:=Lib.hid hx2;have B2:=Lib.hid (B1.out.ext hx2);have p0c:w2.cell? ⟨B,0,none⟩=some (.int .i64 a.level):=B2.out.cell 0;have p1c:w2.cell? ⟨B,1,none⟩=some (.int .i64 a.set):=B2.out.cell 1;clear hx2 p0b p1b) | (go_at_call 67;(with_reducible refine (labelRight_any (S:=S) a [.int .i64 a.level,.int .i64 a.set] _ (rel_Label HA.out)).mono ?_);rw [hla];rintro e w3 ⟨rfl,hx3⟩;have H3:=Lib.hid (H2.out.trans hx3);clear hx3))
   go_ret
   exact ⟨_,F1,rfl,by rw [HE.out];exact O1.out.ext H3.out,G1.out,X1.out.trans H3.out⟩
 | true =>
 have HLA:=Lib.hid hla
 clear hla
 cases hna:nameRight o with
 | false =>
   have HE:Hid (useAdd l a o n=l):=Lib.hid (by rw [useAdd,if_neg HLO.out,if_pos (by simp [hna])])
   go_wp2_with (first | (go_at_call 34;(with_reducible refine (usesRight_any (S:=S) l _ _ (HR.out.ext X1.out)).mono ?_);rw [HU.out];rintro e w2 ⟨rfl,hx2⟩;have H2:=Lib.hid hx2;have B2:=Lib.hid (B1.out.ext hx2);have p0c:w2.cell? ⟨B,0,none⟩=some (.int .i64 a.level):=B2.out.cell 0;have p1c:w2.cell? ⟨B,1,none⟩=some (.int .i64 a.set):=B2.out.cell 1;clear hx2 p0b p1b) | (go_at_call 67;(with_reducible refine (labelRight_any (S:=S) a [.int .i64 a.level,.int .i64 a.set] _ (rel_Label HA.out)).mono ?_);rw [HLA.out];rintro e w3 ⟨rfl,hx3⟩;have H3:=Lib.hid (H2.out.trans hx3);clear hx3) | (go_at_call 65;refine (nameRight_any _ _ HO.out).mono ?_;rintro e w' ⟨rfl,rfl⟩))
   go_ret
   exact ⟨_,F1,rfl,by rw [HE.out];exact O1.out.ext H3.out,G1.out,X1.out.trans H3.out⟩
 | true =>
 have HNA:=Lib.hid hna
 cases hwi:isB n 1 100000 with
 | false =>
   have HE:Hid (useAdd l a o n=l):=Lib.hid (by rw [useAdd,if_neg HLO.out,if_pos (by simp [hwi])])
   go_wp2_with (first | (go_at_call 34;(with_reducible refine (usesRight_any (S:=S) l _ _ (HR.out.ext X1.out)).mono ?_);rw [HU.out];rintro e w2 ⟨rfl,hx2⟩;have H2:=Lib.hid hx2;have B2:=Lib.hid (B1.out.ext hx2);have p0c:w2.cell? ⟨B,0,none⟩=some (.int .i64 a.level):=B2.out.cell 0;have p1c:w2.cell? ⟨B,1,none⟩=some (.int .i64 a.set):=B2.out.cell 1;clear hx2 p0b p1b) | (go_at_call 67;(with_reducible refine (labelRight_any (S:=S) a [.int .i64 a.level,.int .i64 a.set] _ (rel_Label HA.out)).mono ?_);rw [HLA.out];rintro e w3 ⟨rfl,hx3⟩;have H3:=Lib.hid (H2.out.trans hx3);clear hx3) | (go_at_call 65;refine (nameRight_any _ _ HO.out).mono ?_;rintro e w' ⟨rfl,rfl⟩) | (go_at_call 30;refine (within_any _ _ _ _).mono ?_;rintro e w' ⟨rfl,rfl⟩))
   go_ret
   exact ⟨_,F1,rfl,by rw [HE.out];exact O1.out.ext H3.out,G1.out,X1.out.trans H3.out⟩
 | true =>
 have HWI:=Lib.hid hwi
 have hn2:=isB_true hwi
 have HOK:Hid (¬ (usesRight l && labelRight a && nameRight o && isB n 1 100000)=false):=Lib.hid (by rw [HU.out,HLA.out,hna,hwi];decide)
 go_upto_region 6 with (first | (go_at_call 34;(with_reducible refine (usesRight_any (S:=S) l _ _ (HR.out.ext X1.out)).mono ?_);rw [HU.out];rintro e w2 ⟨rfl,hx2⟩;have H2:=Lib.hid hx2;have B2:=Lib.hid (B1.out.ext hx2);have p0c:w2.cell? ⟨B,0,none⟩=some (.int .i64 a.level):=B2.out.cell 0;have p1c:w2.cell? ⟨B,1,none⟩=some (.int .i64 a.set):=B2.out.cell 1;clear hx2 p0b p1b) | (go_at_call 67;(with_reducible refine (labelRight_any (S:=S) a [.int .i64 a.level,.int .i64 a.set] _ (rel_Label HA.out)).mono ?_);rw [HLA.out];rintro e w3 ⟨rfl,hx3⟩;have H3:=Lib.hid (H2.out.trans hx3);have B3:=Lib.hid (B2.out.ext hx3);have p0d:w3.cell? ⟨B,0,none⟩=some (.int .i64 a.level):=B3.out.cell 0;have p1d:w3.cell? ⟨B,1,none⟩=some (.int .i64 a.set):=B3.out.cell 1;clear hx3 p0c p1c) | (go_at_call 65;refine (nameRight_any _ _ HO.out).mono ?_;rintro e w' ⟨rfl,rfl⟩) | (go_at_call 30;refine (within_any _ _ _ _).mono ?_;rintro e w' ⟨rfl,rfl⟩))
 clear hna hwi
 have X3:=Lib.hid (X1.out.trans H3.out)
 go_upto_region 7 with (go_at_call 33;(with_reducible refine (useAt_any (S:=S) l a o _ _ (HR.out.ext X3.out)).mono ?_);rintro e w4 ⟨rfl,hx4⟩;have X4:=Lib.hid (X3.out.trans hx4);have O4:=Lib.hid (O1.out.ext (H3.out.trans hx4));have B4:=Lib.hid (B3.out.ext hx4);clear hx4)
 clear p0d p1d
 have p0e:w4.cell? ⟨B,0,none⟩=some (.int .i64 a.level):=B4.out.cell 0
 have p1e:w4.cell? ⟨B,1,none⟩=some (.int .i64 a.set):=B4.out.cell 1
 rcases idxOf_cases (isUse a o) l with ⟨hi,hnone⟩ | ⟨k,hk,hi,hq,hlow⟩
 · have HI:Hid (useIx l a o = -1):=Lib.hid hi
   have HNO:=Lib.hid hnone
   rw [HI.out]
   by_cases h48:l.length=48
   · have HE:Hid (useAdd l a o n=l):=Lib.hid (by rw [useAdd,if_neg HLO.out,if_neg HOK.out,if_neg (by rw [hi];decide),if_pos (.inl h48)])
     clear hi hnone
     go_wp2_with fail
     go_ret
     exact ⟨_,F1,rfl,by rw [HE.out];exact O4.out,G1.out,X4.out⟩
   by_cases h6:ownersOf l a=6
   · have h48b:((l.length:Int) == 48)=false:=by simp;omega
     have HE:Hid (useAdd l a o n=l):=Lib.hid (by rw [useAdd,if_neg HLO.out,if_neg HOK.out,if_neg (by rw [hi];decide),if_pos (.inr h6)])
     have H6:=Lib.hid h6
     clear hi hnone h6
     go_wp2_with (go_at_call 82;(with_reducible refine (ownersOf_any (S:=S) (S':=S) l a _ [.int .i64 a.level,.int .i64 a.set] _ (HR.out.ext X4.out) (rel_Label HA.out)).mono ?_);rw [H6.out];rintro e w5 ⟨rfl,hx5⟩;have H5:=Lib.hid hx5;clear hx5)
     go_ret
     exact ⟨_,F1,rfl,by rw [HE.out];exact O4.out.ext H5.out,G1.out,X4.out.trans H5.out⟩
   have HE:Hid (useAdd l a o n=insU l ⟨a,o,n⟩):=Lib.hid (by rw [useAdd,if_neg HLO.out,if_neg HOK.out,if_neg (by rw [hi];decide),if_neg (by omega)])
   have h6b:(((ownersOf l a:Nat):Int) == 6)=false:=by simp;omega
   have h48b:((l.length:Int) == 48)=false:=by simp;omega
   clear hi hnone
   go_wp2_with (first | (go_at_call 82;(with_reducible refine (ownersOf_any (S:=S) (S':=S) l a _ [.int .i64 a.level,.int .i64 a.set] _ (HR.out.ext X4.out) (rel_Label HA.out)).mono ?_);rintro e w5 ⟨rfl,hx5⟩;have O5:=Lib.hid (O4.out.ext hx5);have X5:=Lib.hid (X4.out.trans hx5);have B5:=Lib.hid (B4.out.ext hx5);have p0f:w5.cell? ⟨B,0,none⟩=some (.int .i64 a.level):=B5.out.cell 0;have p1f:w5.cell? ⟨B,1,none⟩=some (.int .i64 a.set):=B5.out.cell 1;clear hx5 p0e p1e) | (at_builtin;refine wpList_append_one (O:=OUse) (T:=75) (l:=l) (F:=F1) (G:=[]) (y:=⟨a,o,n⟩) (cs:=[.int .i64 a.level,.int .i64 a.set,.string o,.int .i64 n]) rfl _ _ 33 rfl (.agg #[.int .i64 0,.int .i64 0,.string ⟨#[]⟩,.int .i64 0]) 4 40 Tryz.underlying33 (by kernel_rfl) rfl rfl rfl (O5.out.ext ((Ext.refl _).alloc _)) _ 0 1 rfl ⟨⟨rfl,⟨HA.out.1,HA.out.2,HO.out,HN.out⟩⟩,rfl⟩ (Blk.new _ _ _).range (by simpa using O5.out.nodup) (by omega) (by decide) ?_;intro v9 w9 F9 how hkp hF9;have HOW:=Lib.hid how;have HKP:=Lib.hid hkp;have HFF:=Lib.hid hF9;clear how hkp hF9) | (go_at_call 89;(with_reducible refine (sortUses_any (l ++ [⟨a,o,n⟩]) _ F9 _ HOW.out (by simp) (by simp;omega)).mono ?_);rintro e w6 ⟨rfl,m,om,hp,hs,km⟩;have OM:=Lib.hid om;have HPM:=Lib.hid hp;have HSM:=Lib.hid hs;have KM:=Lib.hid km;clear om hp hs km))
   go_ret
   have hG9:∀ b∈F9,w.heap.size≤b:=fun b hb=>by
    rcases HFF.out b hb with h | h | h
    · exact G1.out b h
    · cases h
    · exact Nat.le_trans (X5.out.alloc _).size h
   exact ⟨_,F9,rfl,by rw [HE.out,← sort_eq HU.out (fun j hj=>isUse_cmp (HNO.out j hj)) HPM.out HSM.out];exact OM.out,hG9,KM.out.ext (HKP.out.ext (X5.out.alloc _) G1.out) hG9⟩
 · have HI:Hid (useIx l a o=(k:Int)):=Lib.hid hi
   have HE:Hid (useAdd l a o n=addAt l k n):=Lib.hid (by rw [useAdd,if_neg HLO.out,if_neg HOK.out,if_pos (by rw [hi];omega),hi,Int.toNat_natCast])
   have hu1:=useOk_true HU.out hk
   simp only [useOk,Bool.and_eq_true] at hu1
   have hu2:=isB_true hu1.2
   have HU2:=Lib.hid hu2
   clear hi hq hlow hu1
   rw [HI.out]
   obtain ⟨B2,cc,G,cs,hv,hBF,hBG,hGF,ho2,hc,hfz,hth,hrow,hset⟩:=O4.out.at hk
   injection hv with e1 e2 e3
   subst e1
   subst e3
   clear e2
   obtain ⟨⟨rfl,hfit⟩,rfl⟩:=ho2
   have e3:=hc 3 _ rfl
   have e3':w4.cell? ⟨B2,k * 4+3,none⟩=some (.int .i64 (nth l k).used):=e3
   have q3:=hfz (k * 4+3)
   have hkl:(k:Int) < (l.length:Int):=by omega
   have hk0:(0:Int)≤(k:Int):=Int.natCast_nonneg _
   have hwr:IntKind.i64.wrap ((nth l k).used+n)=(nth l k).used+n:=IntWalk.i64_in _ (by omega)
   have HR2:=Lib.hid hrow
   have HC:=Lib.hid hc
   have HSET:=Lib.hid hset
   have HBF:=Lib.hid hBF
   have HN2:=Lib.hid hn2
   clear hc hset hrow hth hfz hBF hBG hGF e3
   go_wp2_with fail
   go_ret
   obtain ⟨W5,hW5⟩:∃ W5,W5=w4.setCell ⟨B2,k * 4+3,none⟩ (.int .i64 (min 100000 ((nth l k).used+n))):=⟨_,rfl⟩
   rw [← hW5]
   have hown:OwS OUse 75 W5 (.slice (some ⟨B2,0,none⟩) l.length c1) (addAt l k n) F1:=by
    rw [hW5]
    refine HSET.out _ { nth l k with used:=min 100000 ((nth l k).used+n) } [.int .i64 (nth l k).label.level,.int .i64 (nth l k).label.set,.string (nth l k).owner,.int .i64 (min 100000 ((nth l k).used+n))] (Kept.setCell (p:=⟨B2,k * 4+3,none⟩) (Kept.refl _ _) (by simp) _) (RowBut.setCell HR2.out (by simp [EUse]) (by simp [EUse]) _) ⟨⟨rfl,hfit.1,hfit.2.1,hfit.2.2.1,by have h1:=HU2.out;have h2:=HN2.out;unfold I64;simp only;omega⟩,rfl⟩ ?_
    have hc3:w4.rangeAt B2 (k * 4) ([.int .i64 (nth l k).label.level,.int .i64 (nth l k).label.set,.string (nth l k).owner] ++ [.int .i64 (nth l k).used]):=HC.out
    exact range_back (a:=[.int .i64 (nth l k).label.level,.int .i64 (nth l k).label.set,.string (nth l k).owner]) hc3 (fun j hj=>⟨(by obtain rfl:j=0:=(by simpa using hj);have h3:=hc3 3 _ rfl;exact by rw [show k * 4 + [Value.int IntKind.i64 (nth l k).label.level,Value.int IntKind.i64 (nth l k).label.set,Value.string (nth l k).owner].length+0=k * 4+3 from rfl,h3];rfl),HR2.out.frozen _⟩)
   exact ⟨_,F1,rfl,by rw [HE.out];exact hown,G1.out,by rw [hW5];exact X4.out.setCell (G1.out _ HBF.out) _⟩
end Go.Proofs.YtoblacfjmcpbmaaGreat
