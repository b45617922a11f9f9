/- What a configuration must be, in plain Lean; its labels as the program finds them and as the reference does. The walks of Chain, clearRight, slices.Contains at labels, and of the reference's Chain, l05Clear and l05Cleared. -/
import Derived.Test.YtoblacfjmcpbmaaGreatTaskR
import Derived.Test.YtoblacfjmcpbmaaGreatOrdU
import Derived.Test.YtoblacfjmcpbmaaGreatUsesC
set_option maxHeartbeats 8000000
set_option maxRecDepth 50000
namespace Go.Proofs.YtoblacfjmcpbmaaGreat
open Go.RowKit
def chainAt (l:List Label) (k:Nat):Bool:=labelRight (nth l k) && (decide (k=0) || (belowB (nth l (k - 1)) (nth l k) && !decide (nth l (k - 1)=nth l k)))
def chainOk (l:List Label):Bool:=isB l.length 1 4 && (List.range l.length).all (chainAt l)
def clearOk (ns:List (List Label)):Bool:=isB ns.length 1 6 && ns.all chainOk
def cleared (l:List Label) (a:Label):Bool:=l.any fun x=>decide (x=a)
def anyCleared (ns:List (List Label)) (a:Label):Bool:=ns.any fun l=>cleared l a
def labNum (k:Nat):Label:=⟨((k / 8:Nat):Int),((k % 8:Nat):Int)⟩
def labelsUpTo (ns:List (List Label)) (k:Nat):List Label:=((List.range k).map labNum).filter (anyCleared ns)
def labelsIn (ns:List (List Label)):List Label:=labelsUpTo ns 32
def samePair (x y:Pair):Bool:=decide (y.from_=x.from_) && decide (y.to_=x.to_)
def pairOk (ls:List Label) (x:Pair):Bool:=cleared ls x.from_ && cleared ls x.to_ && !belowB x.from_ x.to_ && isB x.rate 1 3
def pairAtB (ls:List Label) (ps:List Pair) (k:Nat):Bool:=pairOk ls (nth ps k) && !(ps.take k).any (samePair (nth ps k))
def pairsOk (ls:List Label) (ps:List Pair):Bool:=decide (ps.length≤4) && (List.range ps.length).all (pairAtB ls ps)
def quotaAtB (ls:List Label) (qs:List Quota) (k:Nat):Bool:=cleared ls (nth qs k).label && isB (nth qs k).most 1 9 && (decide (k=0) || decide (keyOf (nth qs (k - 1)).label < keyOf (nth qs k).label))
def quotasOk (ls:List Label) (qs:List Quota):Bool:=decide (qs.length≤8) && (List.range qs.length).all (quotaAtB ls qs)
def configRight (c:Config):Bool:=clearOk c.nodes && isB c.half 1 9 && (decide ((labelsIn c.nodes).length≤8) && pairsOk (labelsIn c.nodes) c.pairs && quotasOk (labelsIn c.nodes) c.quotas)
def clearOf (ns:List (List Label)) (a:Label) (k:Nat):List Int:=((List.range k).filter fun i=>cleared (nth ns i) a).map fun (i:Nat)=>(i:Int)
theorem cleared_mem {l:List Label} {a:Label}:cleared l a=true↔a∈l:=by
 simp [cleared,List.any_eq_true]
theorem anyCleared_mem {ns:List (List Label)} {a:Label}:anyCleared ns a=true↔a∈ns.flatten:=by
 simp [anyCleared,List.any_eq_true,cleared_mem,List.mem_flatten]
theorem chain_right {l:List Label} (h:chainOk l=true):∀ a∈l,labelRight a=true:=by
 intro a ha
 obtain ⟨i,hi,rfl⟩:=List.getElem_of_mem ha
 simp only [chainOk,Bool.and_eq_true,List.all_eq_true,List.mem_range] at h
 have:=h.2 i hi
 simp only [chainAt,Bool.and_eq_true] at this
 rw [← nth_eq hi];exact this.1
theorem chain_length {l:List Label} (h:chainOk l=true):1≤l.length∧l.length≤4:=by
 simp only [chainOk,Bool.and_eq_true] at h
 have:=isB_true h.1
 omega
theorem clear_length {ns:List (List Label)} (h:clearOk ns=true):1≤ns.length∧ns.length≤6:=by
 simp only [clearOk,Bool.and_eq_true] at h
 have:=isB_true h.1
 omega
theorem clear_chain {ns:List (List Label)} (h:clearOk ns=true):∀ l∈ns,chainOk l=true:=by
 simp only [clearOk,Bool.and_eq_true,List.all_eq_true] at h
 exact h.2
theorem clear_right {ns:List (List Label)} (h:clearOk ns=true):∀ a∈ns.flatten,labelRight a=true:=by
 intro a ha
 obtain ⟨l,hl,hal⟩:=List.mem_flatten.1 ha
 exact chain_right (clear_chain h l hl) a hal
theorem flatten_le {α:Type} {n:Nat}:∀ {ns:List (List α)},(∀ l∈ns,l.length≤n)→ns.flatten.length≤ns.length * n
 | [],_=>by simp
 | l :: ns,h=>by
   have h1:=h l (by simp)
   have h2:=flatten_le (ns:=ns) fun m hm=>h m (List.mem_cons_of_mem _ hm)
   rw [List.flatten_cons,List.length_append,List.length_cons,Nat.add_mul,Nat.one_mul]
   omega
theorem clear_few {ns:List (List Label)} (h:clearOk ns=true):ns.flatten.length≤24:=by
 have h1:=flatten_le (n:=4) (ns:=ns) fun l hl=>(chain_length (clear_chain h l hl)).2
 have h2:=clear_length h
 omega
theorem clear_some {ns:List (List Label)} (h:clearOk ns=true):0 < ns.flatten.length:=by
 have h2:=clear_length h
 match ns,h,h2 with
 | l :: ns,h,_ =>
   have:=(chain_length (clear_chain h l (by simp))).1
   rw [List.flatten_cons,List.length_append]
   omega
theorem key_num {k:Nat}:keyOf (labNum k)=(k:Int):=by
 unfold keyOf labNum
 simp only
 omega
theorem num_right {k:Nat} (h:k < 32):labelRight (labNum k)=true:=by
 have h1:isB ((k / 8:Nat):Int) 0 3=true:=isB_iff.2 (by omega)
 have h2:isB ((k % 8:Nat):Int) 0 7=true:=isB_iff.2 (by omega)
 simp only [labelRight,labNum,h1,h2,Bool.and_self]
theorem key_bounds {a:Label} (h:labelRight a=true):0≤keyOf a∧keyOf a < 32:=by
 simp only [labelRight,isB,Bool.and_eq_true,decide_eq_true_eq] at h
 unfold keyOf
 omega
theorem num_key {a:Label} (h:labelRight a=true):labNum (keyOf a).toNat=a:=by
 have hb:=key_bounds h
 refine key_inj (num_right (by omega)) h ?_
 rw [key_num];omega
def Up (l:List Label):Prop:=l.Pairwise fun a b=>keyOf a < keyOf b
theorem up_upTo (ns:List (List Label)) (k:Nat):Up (labelsUpTo ns k):=by
 unfold Up labelsUpTo
 refine List.Pairwise.filter _ ?_
 rw [List.pairwise_map]
 refine List.Pairwise.imp (fun {a b} h=>?_) (List.pairwise_lt_range (n:=k))
 rw [key_num,key_num];omega
theorem mem_labels {ns:List (List Label)} {a:Label} (h:labelRight a=true):a∈labelsIn ns↔a∈ns.flatten:=by
 unfold labelsIn labelsUpTo
 rw [List.mem_filter,anyCleared_mem]
 refine ⟨fun h=>h.2,fun h2=>⟨List.mem_map.2 ⟨(keyOf a).toNat,List.mem_range.2 ?_,num_key h⟩,h2⟩⟩
 have:=key_bounds h
 omega
theorem labels_right {ns:List (List Label)} {a:Label} (h:a∈labelsIn ns):labelRight a=true:=by
 unfold labelsIn labelsUpTo at h
 obtain ⟨h1,_⟩:=List.mem_filter.1 h
 obtain ⟨k,hk,rfl⟩:=List.mem_map.1 h1
 exact num_right (List.mem_range.1 hk)
theorem up_same:∀ {l m:List Label},Up l→Up m→(∀ a,a∈l↔a∈m)→l=m
 | [],[],_,_,_=>rfl
 | [],b :: m,_,_,h=>absurd ((h b).2 (by simp)) (by simp)
 | a :: l,[],_,_,h=>absurd ((h a).1 (by simp)) (by simp)
 | a :: l,b :: m,hl,hm,h=>by
   unfold Up at hl hm
   rw [List.pairwise_cons] at hl hm
   have hab:a=b:=by
    rcases List.mem_cons.1 ((h a).1 (by simp)) with e | h1
    · exact e
    · rcases List.mem_cons.1 ((h b).2 (by simp)) with e | h2
      · exact e.symm
      · have:=hl.1 b h2
        have:=hm.1 a h1
        omega
   subst hab
   congr 1
   refine up_same hl.2 hm.2 fun c=>⟨fun hc=>?_,fun hc=>?_⟩
   · rcases List.mem_cons.1 ((h c).1 (List.mem_cons_of_mem _ hc)) with e | h1
     · have:=hl.1 c hc
       rw [e] at this;omega
     · exact h1
   · rcases List.mem_cons.1 ((h c).2 (List.mem_cons_of_mem _ hc)) with e | h1
     · have:=hm.1 c hc
       rw [e] at this;omega
     · exact h1
theorem up_sub:∀ {m l:List Label},Up l→Up m→(∀ a∈l,a∈m)→l.length≤m.length
 | [],[],_,_,_=>Nat.le_refl _
 | [],a :: l,_,_,h=>absurd (h a (by simp)) (by simp)
 | b :: m,[],_,_,_=>Nat.zero_le _
 | b :: m,a :: l,hl,hm,h=>by
   unfold Up at hl hm
   rw [List.pairwise_cons] at hl hm
   have:=up_sub (m:=m) (l:=l) hl.2 hm.2 fun c hc=>by
    rcases List.mem_cons.1 (h c (List.mem_cons_of_mem _ hc)) with e | h1
    · have h2:=hl.1 c hc
      rcases List.mem_cons.1 (h a (by simp)) with e2 | h3
      · rw [e,e2] at h2;omega
      · have h4:=hm.1 a h3
        rw [e] at h2;omega
    · exact h1
   simp only [List.length_cons]
   omega
def compactL:List Label→List Label
 | []=>[]
 | [a]=>[a]
 | a :: b :: l=>if a=b then compactL (b :: l) else a :: compactL (b :: l)
theorem compact_mem:∀ (l:List Label) (a:Label),a∈compactL l↔a∈l
 | [],_=>Iff.rfl
 | [_],_=>Iff.rfl
 | x :: y :: l,a=>by
   have ih:=compact_mem (y :: l) a
   unfold compactL
   split
   · rename_i h
     subst h
     rw [ih];simp
   · rw [List.mem_cons,ih,List.mem_cons,List.mem_cons,List.mem_cons]
theorem compact_up:∀ {l:List Label},(∀ a∈l,labelRight a=true)→(l.Pairwise fun a b=>keyOf a≤keyOf b)→Up (compactL l)
 | [],_,_=>List.Pairwise.nil
 | [_],_,_=>List.pairwise_singleton _ _
 | x :: y :: l,hr,hp=>by
   rw [List.pairwise_cons] at hp
   have ih:=compact_up (l:=y :: l) (fun a ha=>hr a (List.mem_cons_of_mem _ ha)) hp.2
   unfold compactL
   split
   · exact ih
   · rename_i hne
     refine List.pairwise_cons.2 ⟨fun a ha=>?_,ih⟩
     rw [compact_mem] at ha
     have h1:=hp.1 y (by simp)
     have h2:keyOf y≤keyOf a:=by
      rcases List.mem_cons.1 ha with rfl | h3
      · exact Int.le_refl _
      · exact (List.pairwise_cons.1 hp.2).1 a h3
     have h3:keyOf x≠keyOf y:=fun e=>hne (key_inj (hr x (by simp)) (hr y (by simp)) e)
     omega
theorem cmpLabels_key {a b:Label} (ha:labelRight a=true) (hb:labelRight b=true):(cmpLabels a b < 0↔keyOf a < keyOf b)∧(cmpLabels a b≤0↔keyOf a≤keyOf b):=by
 simp only [labelRight,isB,Bool.and_eq_true,decide_eq_true_eq] at ha hb
 rw [cmpLabels,orOf_two]
 unfold cmp3 keyOf
 constructor
 all_goals (repeat' split) <;> omega
theorem compact_labels {ns:List (List Label)} {m:List Label} (hc:clearOk ns=true) (hp:m.Perm ns.flatten) (hs:m.Pairwise fun a b=>cmpLabels a b≤0):compactL m=labelsIn ns:=by
 have hr:∀ a∈m,labelRight a=true:=fun a ha=>clear_right hc a (hp.mem_iff.1 ha)
 refine up_same (compact_up hr ?_) (up_upTo ns 32) fun a=>?_
 · refine List.Pairwise.imp_of_mem (fun {a b} ha hb h=>?_) hs
   exact (cmpLabels_key (hr a ha) (hr b hb)).2.1 h
 · rw [compact_mem,hp.mem_iff]
   constructor
   · intro h;exact (mem_labels (clear_right hc a h)).2 h
   · intro h;exact (mem_labels (labels_right h)).1 h
theorem quotas_few {ls:List Label} {qs:List Quota} (hu:Up ls) (h8:ls.length≤8) (h:∀ k,k < qs.length→quotaAtB ls qs k=true):qs.length≤8:=by
 have hq:Up (qs.map (·.label)):=by
  unfold Up
  rw [List.pairwise_map,List.pairwise_iff_getElem]
  have step:∀ d i,i+d+1 < qs.length→keyOf (nth qs i).label < keyOf (nth qs (i+d+1)).label:=by
   intro d
   induction d with
   | zero =>
     intro i hi
     have:=h (i+1) hi
     simp only [quotaAtB,Bool.and_eq_true,Bool.or_eq_true,decide_eq_true_eq] at this
     rcases this.2 with h0 | h0
     · omega
     · exact h0
   | succ d ih =>
     intro i hi
     have h1:=ih i (by omega)
     have:=h (i+d+1+1) hi
     simp only [quotaAtB,Bool.and_eq_true,Bool.or_eq_true,decide_eq_true_eq] at this
     rcases this.2 with h0 | h0
     · omega
     · exact Int.lt_trans h1 h0
  intro i j hi hj hij
  have:=step (j - i - 1) i (by omega)
  rw [show i+(j - i - 1)+1=j by omega,nth_eq hi,nth_eq hj] at this
  exact this
 have:=up_sub hq hu fun a ha=>by
  obtain ⟨x,hx,rfl⟩:=List.mem_map.1 ha
  obtain ⟨i,hi,rfl⟩:=List.getElem_of_mem hx
  have:=h i hi
  simp only [quotaAtB,Bool.and_eq_true] at this
  rw [← nth_eq hi]
  exact cleared_mem.1 this.1.1
 rw [List.length_map] at this
 omega
theorem quotasOk_of {ls:List Label} {qs:List Quota} (hu:Up ls) (h8:ls.length≤8) (h:∀ k,k < qs.length→quotaAtB ls qs k=true):quotasOk ls qs=true:=by
 unfold quotasOk
 rw [Bool.and_eq_true,decide_eq_true_eq,List.all_eq_true]
 exact ⟨quotas_few hu h8 h,fun k hk=>h k (List.mem_range.1 hk)⟩
theorem quotasOk_bad {ls:List Label} {qs:List Quota} {k:Nat} (hk:k < qs.length) (h:quotaAtB ls qs k=false):quotasOk ls qs=false:=by
 unfold quotasOk
 rw [List.all_eq_false.mpr ⟨k,List.mem_range.mpr hk,by simp [h]⟩,Bool.and_false]
theorem pairsOk_of {ls:List Label} {ps:List Pair} (h:∀ k,k < ps.length→pairAtB ls ps k=true):pairsOk ls ps=decide (ps.length≤4):=by
 unfold pairsOk
 rw [List.all_eq_true.mpr (fun k hk=>h k (List.mem_range.mp hk)),Bool.and_true]
theorem pairsOk_bad {ls:List Label} {ps:List Pair} {k:Nat} (hk:k < ps.length) (h:pairAtB ls ps k=false):pairsOk ls ps=false:=by
 unfold pairsOk
 rw [List.all_eq_false.mpr ⟨k,List.mem_range.mpr hk,by simp [h]⟩,Bool.and_false]
theorem chainOk_of {l:List Label} (h:∀ k,k < l.length→chainAt l k=true):chainOk l=isB l.length 1 4:=by
 unfold chainOk
 rw [List.all_eq_true.mpr (fun k hk=>h k (List.mem_range.mp hk)),Bool.and_true]
theorem chainOk_bad {l:List Label} {k:Nat} (hk:k < l.length) (h:chainAt l k=false):chainOk l=false:=by
 unfold chainOk
 rw [List.all_eq_false.mpr ⟨k,List.mem_range.mpr hk,by simp [h]⟩,Bool.and_false]
theorem clearOf_succ (ns:List (List Label)) (a:Label) (k:Nat):clearOf ns a (k+1)=clearOf ns a k ++ if cleared (nth ns k) a=true then [(k:Int)] else []:=by
 unfold clearOf
 rw [List.range_succ,List.filter_append,List.map_append]
 congr 1
 by_cases h:cleared (nth ns k) a=true <;> simp [h]
theorem clearOf_length (ns:List (List Label)) (a:Label) (k:Nat):(clearOf ns a k).length≤k:=by
 unfold clearOf
 rw [List.length_map]
 refine Nat.le_trans (List.length_filter_le _ _) ?_
 simp
end Go.Proofs.YtoblacfjmcpbmaaGreat
namespace Go.Proofs.YtoblacfjmcpbmaaGreat
open Go.RowKit
attribute [local irreducible] wpQuiet
theorem indexFunc_Label {S:Nat→Prop} (l:List Label) (p:Label→Bool) (v:Value) (f:Nat) (caps:Array Value) (w:World) (h:Rd ELabel S w v l) (hcall:∀ (args:Array Value) (W:World),(callFunc f args).run Tryz.prog W=.ok (.enter f args) W)
 (hf:∀ (cs:List Value) (x:Label) (w1:World),Ext w w1→ELabel.rel S w1 cs x→Calls Tryz.prog f (#[.agg cs.toArray] ++ caps) w1 fun e w'=>e=.returned (.bool (p x))∧Ext w1 w') :
 Calls Tryz.prog 119 #[v,.func (.func f) #[] caps] w fun e w'=>e=.returned (.int .i64 (idxOf p l))∧Ext w w':=by
 obtain ⟨A,c,rfl,h1,h2,hk⟩:=h.open_
 unfold maxLen at h2
 have HK:=Lib.hid hk
 have HF:=Lib.hid hf
 clear hk h hf
 go_enter Tryz.func119,Tryz.ntmps119
 go_wp2_with fail
 go_loopw [8] (fun i w'=>∃ k:Nat,k≤l.length∧i=.int .i64 k∧(∀ j,j < k→p (nth l j)=false)∧Ext w w') (fun i _=>l.length - (intOf i).toNat)
 case atStart=>exact ⟨0,by omega,rfl,fun j hj=>by omega,Ext.refl _⟩
 case round =>
  obtain ⟨k,hk1,rfl,hall,hx⟩:=hrel
  have HA:=Lib.hid hall
  have HX:=Lib.hid hx
  clear hall
  by_cases hlt:k < l.length
  · obtain ⟨b,o,cs,rfl,hb,hr,hc⟩:=HK.out k hlt
    have HR:=Lib.hid (ELabel.keep (hx.same S) hr)
    have HC:=Lib.hid (hx.range hc)
    have HI:Hid ((Tryz.prog.info? 24).map (·.size)=some cs.length):=Lib.hid (by rw [ELabel.len hr];kernel_rfl)
    clear hr hc hx
    by_cases hp:p (nth l k)=true
    · have HE:Hid (idxOf p l=k):=Lib.hid (idxOf_some hlt HA.out hp)
      go_wp2_with (first | (refine wpList_load_mid rfl 24 _ rfl b (o+k * 2) rfl cs _ HC.out Tryz.underlying24 rfl HI.out ?_) | ((with_reducible refine (HF.out cs (nth l k) _ HX.out HR.out).mono ?_);rintro e w1 ⟨rfl,hx1⟩;have HX1:=Lib.hid hx1;clear hx1))
      go_ret
      exact ⟨ret_int HE.out.symm,HX.out.trans HX1.out⟩
    · simp only [Bool.not_eq_true] at hp
      have HE:=Lib.hid (all_succ HA.out hp)
      go_wp2_with (first | (refine wpList_load_mid rfl 24 _ rfl b (o+k * 2) rfl cs _ HC.out Tryz.underlying24 rfl HI.out ?_) | ((with_reducible refine (HF.out cs (nth l k) _ HX.out HR.out).mono ?_);rintro e w1 ⟨rfl,hx1⟩;have HX1:=Lib.hid hx1;clear hx1))
      go_roundw
      case rel=>exact ⟨k+1,by omega,by go_num,HE.out,HX.out.trans HX1.out⟩
      case measure=>simp [intOf];omega
  · have HE:Hid (idxOf p l = -1):=Lib.hid (idxOf_none fun j hj=>HA.out j (by omega))
    go_wp2_with fail
    go_ret
    exact ⟨ret_int HE.out.symm,HX.out⟩
theorem containsFunc_Label {S:Nat→Prop} (l:List Label) (p:Label→Bool) (v:Value) (f:Nat) (caps:Array Value) (w:World) (h:Rd ELabel S w v l) (hcall:∀ (args:Array Value) (W:World),(callFunc f args).run Tryz.prog W=.ok (.enter f args) W)
 (hf:∀ (cs:List Value) (x:Label) (w1:World),Ext w w1→ELabel.rel S w1 cs x→Calls Tryz.prog f (#[.agg cs.toArray] ++ caps) w1 fun e w'=>e=.returned (.bool (p x))∧Ext w1 w') :
 Calls Tryz.prog 60 #[v,.func (.func f) #[] caps] w fun e w'=>e=.returned (.bool (l.any p))∧Ext w w':=by
 have HE:=Lib.hid (idxOf_any (p:=p) (l:=l))
 have H:=Lib.hid (indexFunc_Label l p v f caps w h hcall hf)
 clear h hcall hf
 go_enter Tryz.func60,Tryz.ntmps60
 go_wp2_with (refine H.out.mono ?_;rintro e w1 ⟨rfl,hx1⟩;have HX1:=Lib.hid hx1;clear hx1)
 go_ret
 exact ⟨ret_bool HE.out,HX1.out⟩
theorem containsFunc_Label_0 {S:Nat→Prop} (l:List Label) (p:Label→Bool) (v:Value) (f:Nat) (w:World) (h:Rd ELabel S w v l) (hcall:∀ (args:Array Value) (W:World),(callFunc f args).run Tryz.prog W=.ok (.enter f args) W)
 (hf:∀ (cs:List Value) (x:Label) (w1:World),Ext w w1→ELabel.rel S w1 cs x→Calls Tryz.prog f #[.agg cs.toArray] w1 fun e w'=>e=.returned (.bool (p x))∧Ext w1 w') :
 Calls Tryz.prog 60 #[v,.func (.func f) #[] #[]] w fun e w'=>e=.returned (.bool (l.any p))∧Ext w w' :=
 containsFunc_Label l p v f #[] w h hcall fun cs x w1 hx hr=>by rw [show (#[.agg cs.toArray] ++ #[]:Array Value) = #[.agg cs.toArray] from rfl];exact hf cs x w1 hx hr
theorem containsFunc_Label_1 {S:Nat→Prop} (l:List Label) (p:Label→Bool) (v:Value) (f:Nat) (c1:Value) (w:World) (h:Rd ELabel S w v l) (hcall:∀ (args:Array Value) (W:World),(callFunc f args).run Tryz.prog W=.ok (.enter f args) W)
 (hf:∀ (cs:List Value) (x:Label) (w1:World),Ext w w1→ELabel.rel S w1 cs x→Calls Tryz.prog f #[.agg cs.toArray,c1] w1 fun e w'=>e=.returned (.bool (p x))∧Ext w1 w') :
 Calls Tryz.prog 60 #[v,.func (.func f) #[] #[c1]] w fun e w'=>e=.returned (.bool (l.any p))∧Ext w w' :=
 containsFunc_Label l p v f #[c1] w h hcall fun cs x w1 hx hr=>by rw [show (#[.agg cs.toArray] ++ #[c1]:Array Value) = #[.agg cs.toArray,c1] from rfl];exact hf cs x w1 hx hr
theorem indexFunc_ListLabel {S:Nat→Prop} (l:List (List Label)) (p:(List Label)→Bool) (v:Value) (f:Nat) (caps:Array Value) (w:World) (h:Rd (ERow ELabel) S w v l) (hcall:∀ (args:Array Value) (W:World),(callFunc f args).run Tryz.prog W=.ok (.enter f args) W)
 (hf:∀ (cs:List Value) (x:(List Label)) (w1:World),Ext w w1→(ERow ELabel).rel S w1 cs x→Calls Tryz.prog f (#[cs.headD undef] ++ caps) w1 fun e w'=>e=.returned (.bool (p x))∧Ext w1 w') :
 Calls Tryz.prog 141 #[v,.func (.func f) #[] caps] w fun e w'=>e=.returned (.int .i64 (idxOf p l))∧Ext w w':=by
 obtain ⟨A,c,rfl,h1,h2,hk⟩:=h.open_
 unfold maxLen at h2
 have HK:=Lib.hid hk
 have HF:=Lib.hid hf
 clear hk h hf
 go_enter Tryz.func141,Tryz.ntmps141
 go_wp2_with fail
 go_loopw [8] (fun i w'=>∃ k:Nat,k≤l.length∧i=.int .i64 k∧(∀ j,j < k→p (nth l j)=false)∧Ext w w') (fun i _=>l.length - (intOf i).toNat)
 case atStart=>exact ⟨0,by omega,rfl,fun j hj=>by omega,Ext.refl _⟩
 case round =>
  obtain ⟨k,hk1,rfl,hall,hx⟩:=hrel
  have HA:=Lib.hid hall
  have HX:=Lib.hid hx
  clear hall
  by_cases hlt:k < l.length
  · obtain ⟨b,o,cs,rfl,hb,hr,hc⟩:=HK.out k hlt
    have HR:=Lib.hid ((ERow ELabel).keep (hx.same S) hr)
    have hc0:=hx.range hc 0 _ (by rw [List.getElem?_eq_getElem (by rw [(ERow ELabel).len hr];decide)])
    have hcs:cs[0]'(by rw [(ERow ELabel).len hr];decide)=cs.headD undef:=by cases cs with | nil=>exact absurd ((ERow ELabel).len hr) (by decide) | cons a r=>rfl
    rw [hcs] at hc0
    generalize hu:cs.headD undef=u at *
    have HU:=Lib.hid hu
    simp only [ERow,Nat.mul_one,Nat.add_zero] at hc0
    clear hr hc hx hcs hu
    by_cases hp:p (nth l k)=true
    · have HE:Hid (idxOf p l=k):=Lib.hid (idxOf_some hlt HA.out hp)
      go_wp2_with (first | ((with_reducible refine ((show Calls _ _ (#[u] ++ caps) _ _ from HU.out ▸ HF.out cs (nth l k) _ HX.out HR.out)).mono ?_);rintro e w1 ⟨rfl,hx1⟩;have HX1:=Lib.hid hx1;clear hx1))
      go_ret
      exact ⟨ret_int HE.out.symm,HX.out.trans HX1.out⟩
    · simp only [Bool.not_eq_true] at hp
      have HE:=Lib.hid (all_succ HA.out hp)
      go_wp2_with (first | ((with_reducible refine ((show Calls _ _ (#[u] ++ caps) _ _ from HU.out ▸ HF.out cs (nth l k) _ HX.out HR.out)).mono ?_);rintro e w1 ⟨rfl,hx1⟩;have HX1:=Lib.hid hx1;clear hx1))
      go_roundw
      case rel=>exact ⟨k+1,by omega,by go_num,HE.out,HX.out.trans HX1.out⟩
      case measure=>simp [intOf];omega
  · have HE:Hid (idxOf p l = -1):=Lib.hid (idxOf_none fun j hj=>HA.out j (by omega))
    go_wp2_with fail
    go_ret
    exact ⟨ret_int HE.out.symm,HX.out⟩
theorem containsFunc_ListLabel {S:Nat→Prop} (l:List (List Label)) (p:(List Label)→Bool) (v:Value) (f:Nat) (caps:Array Value) (w:World) (h:Rd (ERow ELabel) S w v l) (hcall:∀ (args:Array Value) (W:World),(callFunc f args).run Tryz.prog W=.ok (.enter f args) W)
 (hf:∀ (cs:List Value) (x:(List Label)) (w1:World),Ext w w1→(ERow ELabel).rel S w1 cs x→Calls Tryz.prog f (#[cs.headD undef] ++ caps) w1 fun e w'=>e=.returned (.bool (p x))∧Ext w1 w') :
 Calls Tryz.prog 101 #[v,.func (.func f) #[] caps] w fun e w'=>e=.returned (.bool (l.any p))∧Ext w w':=by
 have HE:=Lib.hid (idxOf_any (p:=p) (l:=l))
 have H:=Lib.hid (indexFunc_ListLabel l p v f caps w h hcall hf)
 clear h hcall hf
 go_enter Tryz.func101,Tryz.ntmps101
 go_wp2_with (refine H.out.mono ?_;rintro e w1 ⟨rfl,hx1⟩;have HX1:=Lib.hid hx1;clear hx1)
 go_ret
 exact ⟨ret_bool HE.out,HX1.out⟩
theorem containsFunc_ListLabel_0 {S:Nat→Prop} (l:List (List Label)) (p:(List Label)→Bool) (v:Value) (f:Nat) (w:World) (h:Rd (ERow ELabel) S w v l) (hcall:∀ (args:Array Value) (W:World),(callFunc f args).run Tryz.prog W=.ok (.enter f args) W)
 (hf:∀ (cs:List Value) (x:(List Label)) (w1:World),Ext w w1→(ERow ELabel).rel S w1 cs x→Calls Tryz.prog f #[cs.headD undef] w1 fun e w'=>e=.returned (.bool (p x))∧Ext w1 w') :
 Calls Tryz.prog 101 #[v,.func (.func f) #[] #[]] w fun e w'=>e=.returned (.bool (l.any p))∧Ext w w' :=
 containsFunc_ListLabel l p v f #[] w h hcall fun cs x w1 hx hr=>by rw [show (#[cs.headD undef] ++ #[]:Array Value) = #[cs.headD undef] from rfl];exact hf cs x w1 hx hr
def labelBad (x:Label):Bool:=!labelRight x
theorem call_chain1:∀ (args:Array Value) (W:World),(callFunc 142 args).run Tryz.prog W=.ok (.enter 142 args) W:=by
 intro args W
 go_simp
theorem chain1_any {S:Nat→Prop} (x:Label) (cs:List Value) (w:World) (h:ELabel.rel S w cs x) :
 Calls Tryz.prog 142 #[.agg cs.toArray] w fun e w'=>e=.returned (.bool (labelBad x))∧Ext w w':=by
 obtain ⟨rfl,hi⟩:=h
 have HI:=Lib.hid hi
 clear hi
 simp only [cellsLabel]
 go_enter Tryz.func142,Tryz.ntmps142
 go_wp2_with (go_at_call 67;(with_reducible refine (labelRight_any (S:=S) x [.int .i64 x.level,.int .i64 x.set] _ (rel_Label HI.out)).mono ?_);rintro e w1 ⟨rfl,hx1⟩;have HX1:=Lib.hid hx1;clear hx1)
 go_ret
 exact ⟨rfl,((Ext.refl _).alloc _).trans HX1.out⟩
theorem label_ne {a b:Label} (h:a≠b):a.level≠b.level∨a.set≠b.set:=by
 by_cases h1:a.level=b.level
 · exact .inr fun h2=>h (Label.ext h1 h2)
 · exact .inl h1
theorem below_is {S S':Nat→Prop} (a b:Label) (cs ds:List Value) (w:World) (h:ELabel.rel S w cs a) (g:ELabel.rel S' w ds b) (r:Bool) (hr:belowB a b=r) :
 Calls Tryz.prog 23 #[.agg cs.toArray,.agg ds.toArray] w fun e w'=>e=.returned (.bool r)∧Ext w w':=by
 subst hr
 exact below_any a b cs ds w h g
theorem chain_short {l:List Label} (h:l.length < 1):chainOk l=false:=by unfold chainOk isB;rw [decide_eq_false (by omega)];rfl
theorem chain_long {l:List Label} (h:4 < l.length):chainOk l=false:=by unfold chainOk isB;rw [decide_eq_false (by omega)];rfl
theorem chainAt_zero {l:List Label} (h:labelRight (nth l 0)=true):chainAt l 0=true:=by simp [chainAt,h]
theorem chainAt_succ {l:List Label} {m:Nat} (h:labelRight (nth l (m+1))=true):chainAt l (m+1)=(belowB (nth l m) (nth l (m+1)) && !decide (nth l m=nth l (m+1))):=by simp [chainAt,h]
theorem chainAt_bad {l:List Label} {m:Nat} (h:labelRight (nth l m)=false):chainAt l m=false:=by simp [chainAt,h]
theorem first_chain {l:List Label} (h:labelRight (nth l 0)=true):∀ j,j < 1→chainAt l j=true:=fun j hj=>by
 obtain rfl:j=0:=by omega
 exact chainAt_zero h
theorem any_bad {l:List Label} (h:l.any labelBad=false):∀ k,k < l.length→labelRight (nth l k)=true:=by
 intro k hk
 rw [List.any_eq_false] at h
 have:=h _ (nth_mem hk)
 simpa [labelBad] using this
theorem bad_any {l:List Label} (h:l.any labelBad=true):chainOk l=false:=by
 obtain ⟨x,hx,hb⟩:=List.any_eq_true.1 h
 obtain ⟨k,hk,rfl⟩:=List.getElem_of_mem hx
 refine chainOk_bad hk (chainAt_bad ?_)
 rw [nth_eq hk]
 simpa [labelBad] using hb
theorem chain_any {S:Nat→Prop} (l:List Label) (v:Value) (w:World) (h:Rd ELabel S w v l) :
 Calls Tryz.prog 103 #[v] w fun e w'=>e=.returned (.bool (chainOk l))∧Ext w w':=by
 have HR:=Lib.hid h
 obtain ⟨A,c,rfl,h1,h2,hk⟩:=h.open_
 unfold maxLen at h2
 have HK:=Lib.hid hk
 clear hk h
 by_cases h0:l.length < 1
 · have HN:=Lib.hid (chain_short h0)
   go_enter Tryz.func103,Tryz.ntmps103
   go_wp2_with fail
   go_ret
   exact ⟨ret_bool HN.out.symm,Ext.refl _⟩
 by_cases h4:4 < l.length
 · have HN:=Lib.hid (chain_long h4)
   go_enter Tryz.func103,Tryz.ntmps103
   go_wp2_with fail
   go_ret
   exact ⟨ret_bool HN.out.symm,Ext.refl _⟩
 have h0':1≤l.length:=by omega
 have h4':l.length≤4:=by omega
 clear h0 h4
 cases hb:l.any labelBad with
 | true =>
   have HN:=Lib.hid (bad_any hb)
   have HB:=Lib.hid hb
   clear hb
   go_enter Tryz.func103,Tryz.ntmps103
   go_wp2_with (go_at_call 60;refine (containsFunc_Label_0 l labelBad _ _ _ HR.out call_chain1 (fun cs x w1 _ hr=>chain1_any x cs w1 hr)).mono ?_;rintro e w1 ⟨rfl,hx1⟩;rw [HB.out];have X1:=Lib.hid hx1;clear hx1)
   go_ret
   exact ⟨ret_bool HN.out.symm,X1.out⟩
 | false =>
   have HN:=Lib.hid (any_bad hb)
   have HB:=Lib.hid hb
   clear hb
   go_enter Tryz.func103,Tryz.ntmps103
   go_wp2_with (go_at_call 60;refine (containsFunc_Label_0 l labelBad _ _ _ HR.out call_chain1 (fun cs x w1 _ hr=>chain1_any x cs w1 hr)).mono ?_;rintro e w1 ⟨rfl,hx1⟩;rw [HB.out];have X1:=Lib.hid hx1;clear hx1)
   go_loopw [3] (fun i w'=>∃ k:Nat,1≤k∧k≤l.length∧i=.int .i64 k∧(∀ j,j < k→chainAt l j=true)∧Ext w w') (fun i _=>l.length - (intOf i).toNat)
   case atStart=>exact ⟨1,by omega,by omega,rfl,first_chain (HN.out 0 (by omega)),X1.out⟩
   case round =>
    obtain ⟨k,hk0,hk1,rfl,hall,hx⟩:=hrel
    have HA:=Lib.hid hall
    have HX:=Lib.hid hx
    clear hall
    by_cases hlt:k < l.length
    · obtain ⟨m,rfl⟩:∃ m,k=m+1:=⟨k - 1,by omega⟩
      obtain ⟨b,o,cs,rfl,_,⟨rfl,f1⟩,hc⟩:=HK.out (m+1) hlt
      obtain ⟨b',o',ds,hA',_,⟨rfl,f2⟩,hd⟩:=HK.out m (by omega)
      injection hA' with hA'
      injection hA' with e1 e2
      subst e1
      subst e2
      have c0:=Ext.some hx (hc 0 _ rfl)
      have c1:=Ext.some hx (hc 1 _ rfl)
      simp only [ELabel,Nat.add_zero] at c0 c1
      have d0:=Ext.some hx (hd 0 _ rfl)
      have d1:=Ext.some hx (hd 1 _ rfl)
      simp only [ELabel,Nat.add_zero] at d0 d1
      have F1:=Lib.hid f1
      have F2:=Lib.hid f2
      have HC:=Lib.hid (chainAt_succ (HN.out (m+1) hlt))
      clear hc hd hx f1 f2
      have i0:(0:Int)≤(m:Int)+1:=by omega
      have i1:(m:Int)+1 < (l.length:Int):=by omega
      have i2:((m:Int)+1).toNat=m+1:=by omega
      have i3:IntKind.i64.wrap (m:Int)=(m:Int):=IntWalk.i64_in _ (by omega)
      have i4:m < l.length:=by omega
      by_cases he:nth l m=nth l (m+1)
      · have HF:=Lib.hid (chainOk_bad hlt (by rw [HC.out,decide_eq_true he];simp))
        have g0:(nth l m).level=(nth l (m+1)).level:=by rw [he]
        have g1:(nth l m).set=(nth l (m+1)).set:=by rw [he]
        clear he
        go_wp2_with fail
        refine wp_region_ext (by kernel_rfl) (by kernel_rfl) ?_
        repeat (
         (refine wpQuiet_step (fun K hK=>?_)
          go_simp
          first
           | (refine hK _ ?_;clear hK K)
           | (apply Exists.intro
              refine ⟨fun w__ hx__=>?_,hK _ ?_⟩
              · have c0__:=Ext.some hx__ c0;have c1__:=Ext.some hx__ c1;have d0__:=Ext.some hx__ d0;have d1__:=Ext.some hx__ d1;first | exact rfl | (go_simp;done) | (go_simp;exact rfl)
              clear hK K)))
        refine wpQuiet_nil ?_
        intro w1 hx1
        have HE:=Lib.hid hx1
        clear c0 c1 d0 d1 hx1
        go_wp2_with fail
        go_ret
        exact ⟨ret_bool HF.out.symm,HX.out.trans HE.out⟩
      · cases hbl:belowB (nth l m) (nth l (m+1)) with
        | false =>
          have HF:=Lib.hid (chainOk_bad hlt (by rw [HC.out,hbl];rfl))
          have HBL:=Lib.hid hbl
          clear hbl
          rcases label_ne he with g | g
          all_goals
           clear he
           have ite__:=@ite_ok
           go_wp2_with fail
           refine wp_region_ext (by kernel_rfl) (by kernel_rfl) ?_
           repeat (
            (refine wpQuiet_step (fun K hK=>?_)
             go_simp
             first
              | (refine hK _ ?_;clear hK K)
              | (apply Exists.intro
                 refine ⟨fun w__ hx__=>?_,hK _ ?_⟩
                 · have c0__:=Ext.some hx__ c0;have c1__:=Ext.some hx__ c1;have d0__:=Ext.some hx__ d0;have d1__:=Ext.some hx__ d1;first | exact rfl | (go_simp;done) | (go_simp;exact rfl) | (go_at_call 23;exact ext_of hx__ (below_is (S:=S) (S':=S) (nth l m) (nth l (m+1)) _ _ _ (rel_Label F2.out) (rel_Label F1.out) _ HBL.out))
                 clear hK K)))
           refine wpQuiet_nil ?_
           intro w1 hx1
           have HE:=Lib.hid hx1
           clear c0 c1 d0 d1 hx1
           go_wp2_with fail
           go_ret
           exact ⟨ret_bool HF.out.symm,HX.out.trans HE.out⟩
        | true =>
          have HG:=Lib.hid (all_succ (p:=fun j=>chainAt l j=true) HA.out (by rw [HC.out,hbl,decide_eq_false he];rfl))
          have HBL:=Lib.hid hbl
          clear hbl
          rcases label_ne he with g | g
          all_goals
           clear he
           have ite__:=@ite_ok
           go_wp2_with fail
           refine wp_region_ext (by kernel_rfl) (by kernel_rfl) ?_
           repeat (
            (refine wpQuiet_step (fun K hK=>?_)
             go_simp
             first
              | (refine hK _ ?_;clear hK K)
              | (apply Exists.intro
                 refine ⟨fun w__ hx__=>?_,hK _ ?_⟩
                 · have c0__:=Ext.some hx__ c0;have c1__:=Ext.some hx__ c1;have d0__:=Ext.some hx__ d0;have d1__:=Ext.some hx__ d1;first | exact rfl | (go_simp;done) | (go_simp;exact rfl) | (go_at_call 23;exact ext_of hx__ (below_is (S:=S) (S':=S) (nth l m) (nth l (m+1)) _ _ _ (rel_Label F2.out) (rel_Label F1.out) _ HBL.out))
                 clear hK K)))
           refine wpQuiet_nil ?_
           intro w1 hx1
           have HE:=Lib.hid hx1
           clear c0 c1 d0 d1 hx1
           go_wp2_with fail
           go_roundw
           case rel=>exact ⟨m+1+1,by omega,by omega,by go_num,HG.out,HX.out.trans HE.out⟩
           case measure=>simp [intOf];omega
    · have HF:=Lib.hid (chainOk_of (l:=l) fun j hj=>HA.out j (by omega))
      have HI:Hid (isB (l.length:Int) 1 4=true):=Lib.hid (isB_iff.2 (by omega))
      go_wp2_with fail
      go_ret
      exact ⟨ret_bool (by rw [HF.out,HI.out]),HX.out⟩
end Go.Proofs.YtoblacfjmcpbmaaGreat
