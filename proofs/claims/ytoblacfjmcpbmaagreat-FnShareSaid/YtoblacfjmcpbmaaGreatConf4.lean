/- The walks of clearRight, slices.Contains at labels and the labels of a configuration. The walks of pairsOf, quotasOf, ConfigRight, clearFor and ClearFor, the program's. Printed by wip/conf3.py. The walks of ConfigRight, clearFor and ClearFor, the program's. Printed by wip/conf4.py. -/
import Derived.Test.YtoblacfjmcpbmaaGreatConf1
import Derived.Test.YtoblacfjmcpbmaaGreatCompactL
set_option maxHeartbeats 8000000
set_option maxRecDepth 100000
namespace Go.Proofs.YtoblacfjmcpbmaaGreat
open Go.RowKit
attribute [local irreducible] wpQuiet
def chainBad (l:List Label):Bool:=!chainOk l
theorem call_clear1:∀ (args:Array Value) (W:World),(callFunc 102 args).run Tryz.prog W=.ok (.enter 102 args) W:=by
 intro args W
 go_simp
theorem clear1_any {S:Nat→Prop} (l:List Label) (cs:List Value) (w:World) (h:(ERow ELabel).rel S w cs l) :
 Calls Tryz.prog 102 #[cs.headD undef] w fun e w'=>e=.returned (.bool (chainBad l))∧Ext w w':=by
 obtain ⟨v,rfl,hr⟩:=h
 have HR:=Lib.hid hr
 clear hr
 simp only [List.headD_cons]
 go_enter Tryz.func102,Tryz.ntmps102
 go_wp2_with (go_at_call 103;(with_reducible refine (chain_any (S:=S) l v _ HR.out).mono ?_);rintro e w1 ⟨rfl,hx1⟩;have HX1:=Lib.hid hx1;clear hx1)
 go_ret
 exact ⟨rfl,HX1.out⟩
theorem any_chainBad (ns:List (List Label)):(!ns.any chainBad)=ns.all chainOk:=by
 rw [List.not_any_eq_all_not]
 simp [chainBad]
theorem clearRight_any {S:Nat→Prop} (ns:List (List Label)) (v:Value) (w:World) (h:Rd (ERow ELabel) S w v ns) :
 Calls Tryz.prog 49 #[v] w fun e w'=>e=.returned (.bool (clearOk ns))∧Ext w w':=by
 have HR:=Lib.hid h
 obtain ⟨A,c,rfl,h1,h2⟩:=h.form
 unfold maxLen at h2
 clear h
 by_cases hn:isB (ns.length:Int) 1 6=true
 · have HN:Hid (clearOk ns = !ns.any chainBad):=Lib.hid (by rw [any_chainBad];simp [clearOk,hn])
   go_enter Tryz.func49,Tryz.ntmps49
   go_wp2_with (first | (go_at_call 30;refine (within_any _ _ _ _).mono ?_;rintro e w' ⟨rfl,rfl⟩) | (go_at_call 101;refine (containsFunc_ListLabel_0 ns chainBad _ _ _ HR.out call_clear1 (fun cs x w1 _ hr=>clear1_any x cs w1 hr)).mono ?_;rintro e w1 ⟨rfl,hx1⟩))
   go_ret
   exact ⟨ret_bool HN.out.symm,hx1⟩
 · simp only [Bool.not_eq_true] at hn
   have HN:Hid (clearOk ns=false):=Lib.hid (by simp [clearOk,hn])
   go_enter Tryz.func49,Tryz.ntmps49
   go_wp2_with (first | (go_at_call 30;refine (within_any _ _ _ _).mono ?_;rintro e w' ⟨rfl,rfl⟩))
   go_ret
   exact ⟨ret_bool HN.out.symm,Ext.refl _⟩
def isLab (a x:Label):Bool:=decide (x=a)
theorem isLab_iff {a x:Label}:isLab a x=(decide (a.level=x.level) && decide (a.set=x.set)):=by
 obtain ⟨m,t⟩:=a
 obtain ⟨l,s⟩:=x
 simp only [isLab,Label.mk.injEq,Bool.decide_and]
 congr 1 <;> (rw [decide_eq_decide];exact ⟨Eq.symm,Eq.symm⟩)
theorem indexLabel_any {S:Nat→Prop} (l:List Label) (a:Label) (v:Value) (w:World) (h:Rd ELabel S w v l) :
 Calls Tryz.prog 120 #[v,.agg #[.int .i64 a.level,.int .i64 a.set]] w fun e w'=>e=.returned (.int .i64 (idxOf (isLab a) l))∧Ext w w':=by
 obtain ⟨A,c,rfl,h1,h2,hk⟩:=h.open_
 unfold maxLen at h2
 have HK:=Lib.hid hk
 clear hk h
 go_enter Tryz.func120,Tryz.ntmps120
 go_upto_region 1 with (fail)
 obtain ⟨W,B,hW__,hB__,hxW,hbox__⟩:=box_new w #[.int .i64 a.level,.int .i64 a.set] 24
 rw [← hW__,← hB__]
 have b0:=hbox__ 0 _ rfl
 have b1:=hbox__ 1 _ rfl
 clear hW__ hB__ hbox__
 have HB0:=Lib.hid b0
 have HB1:=Lib.hid b1
 have HW:=Lib.hid hxW
 clear b0 b1 hxW
 go_wp2_with fail
 go_loopw [8] (fun i w'=>∃ k:Nat,k≤l.length∧i=.int .i64 k∧(∀ j,j < k→isLab a (nth l j)=false)∧Ext W w') (fun i _=>l.length - (intOf i).toNat)
 case atStart=>exact ⟨0,by omega,rfl,fun j hj=>by omega,Ext.refl _⟩
 case round =>
  obtain ⟨k,hk1,rfl,hall,hx⟩:=hrel
  have HA:=Lib.hid hall
  have HX:=Lib.hid (HW.out.trans hx)
  have HY:=Lib.hid hx
  clear hall
  by_cases hlt:k < l.length
  · obtain ⟨b,q,cs,rfl,_,⟨rfl,hfit⟩,hc⟩:=HK.out k hlt
    have c0:=Ext.some HX.out (hc 0 _ rfl)
    have c1:=Ext.some HX.out (hc 1 _ rfl)
    have d0:=Ext.some hx HB0.out
    have d1:=Ext.some hx HB1.out
    simp only [ELabel,Nat.add_zero] at c0 c1
    clear hc hfit hx
    by_cases he:nth l k=a
    · have HE:=Lib.hid (idxOf_some (p:=isLab a) hlt HA.out (by simp [isLab,he]))
      have g0:a.level=(nth l k).level:=by rw [he]
      have g1:a.set=(nth l k).set:=by rw [he]
      clear he
      go_wp2_with fail
      refine wp_region_ext (by kernel_rfl) (by kernel_rfl) ?_
      repeat (
       (refine wpQuiet_step (fun K hK=>?_)
        go_simp
        first
         | (refine hK _ ?_;clear hK K)
         | (apply Exists.intro
            refine ⟨fun w__ hx__=>?_,hK _ ?_⟩
            · have c0__:=Ext.some hx__ c0;have c1__:=Ext.some hx__ c1;have d0__:=Ext.some hx__ d0;have d1__:=Ext.some hx__ d1;first | exact rfl | (go_simp;done) | (go_simp;exact rfl)
            clear hK K)))
      refine wpQuiet_nil ?_
      intro w1 hx1
      have HZ:=Lib.hid hx1
      clear c0 c1 d0 d1 hx1
      go_wp2_with fail
      go_ret
      exact ⟨ret_int HE.out.symm,HX.out.trans HZ.out⟩
    · have HE:=Lib.hid (all_succ (p:=fun j=>isLab a (nth l j)=false) HA.out (by simp [isLab,he]))
      rcases label_ne (fun e=>he e.symm) with g | g
      all_goals
       clear he
       have ite__:=@ite_ok
       go_wp2_with fail
       refine wp_region_ext (by kernel_rfl) (by kernel_rfl) ?_
       repeat (
        (refine wpQuiet_step (fun K hK=>?_)
         go_simp
         first
          | (refine hK _ ?_;clear hK K)
          | (apply Exists.intro
             refine ⟨fun w__ hx__=>?_,hK _ ?_⟩
             · have c0__:=Ext.some hx__ c0;have c1__:=Ext.some hx__ c1;have d0__:=Ext.some hx__ d0;have d1__:=Ext.some hx__ d1;first | exact rfl | (go_simp;done) | (go_simp;exact rfl)
             clear hK K)))
       refine wpQuiet_nil ?_
       intro w1 hx1
       have HZ:=Lib.hid hx1
       clear c0 c1 d0 d1 hx1 ite__
       go_wp2_with fail
       go_roundw
       case rel=>exact ⟨k+1,by omega,by go_num,HE.out,HY.out.trans HZ.out⟩
       case measure=>simp [intOf];omega
  · have HE:=Lib.hid (idxOf_none (p:=isLab a) (l:=l) fun j hj=>HA.out j (by omega))
    go_wp2_with fail
    go_ret
    exact ⟨ret_int HE.out.symm,HX.out⟩
theorem cleared_any (l:List Label) (a:Label):cleared l a=l.any (isLab a):=rfl
theorem containsLabel_any {S:Nat→Prop} (l:List Label) (a:Label) (v:Value) (w:World) (h:Rd ELabel S w v l) :
 Calls Tryz.prog 64 #[v,.agg #[.int .i64 a.level,.int .i64 a.set]] w fun e w'=>e=.returned (.bool (cleared l a))∧Ext w w':=by
 have HE:=Lib.hid (idxOf_any (p:=isLab a) (l:=l))
 have HR:=Lib.hid h
 obtain ⟨A,c,rfl,-⟩:=h.form
 clear h
 go_enter Tryz.func64,Tryz.ntmps64
 go_wp2_with (go_at_call 120;(with_reducible refine (indexLabel_any (S:=S) l a _ _ (HR.out.ext ((Ext.refl _).alloc _))).mono ?_);rintro e w1 ⟨rfl,hx1⟩;have HX1:=Lib.hid hx1;clear hx1)
 go_ret
 exact ⟨ret_bool (by rw [cleared_any,← HE.out]),((Ext.refl _).alloc _).trans HX1.out⟩
theorem labels_any {S:Nat→Prop} (x:Config) (cs:List Value) (w:World) (h:EConfig.rel S w cs x) (hc:clearOk x.nodes=true) :
 Calls Tryz.prog 50 #[.agg cs.toArray] w (RetO OLabel 24 (labelsIn x.nodes) w):=by
 obtain ⟨v1,v2,v3,rfl,hf,h1,h2,h3⟩:=h
 obtain ⟨A1,c1,rfl,-⟩:=h1.form
 have HR:=Lib.hid h1
 have HC:=Lib.hid hc
 have H0:=Lib.hid (clear_some hc)
 have HN:=Lib.hid (clear_few hc)
 clear hf h1 h2 h3 hc
 simp only [cellsConfig]
 go_enter Tryz.func50,Tryz.ntmps50
 go_upto_region 2 with (go_at_call 104;(with_reducible refine (concatLabel_any (S:=S) x.nodes _ _ (HR.out.ext ((Ext.refl _).alloc _)) H0.out (Nat.le_trans HN.out (by decide))).mono ?_);rintro e w1 ⟨u1,F1,rfl,o1,f1,x1⟩;have O1:=Lib.hid o1;have F1h:Hid (∀ b∈F1,w.heap.size≤b):=Lib.hid (fun b hb=>Nat.le_trans ((Ext.refl w).alloc _).size (f1 b hb));have X1:Hid (Ext w w1):=Lib.hid (((Ext.refl w).alloc _).trans x1);clear o1 f1 x1)
 go_upto_region 3 with (go_at_call 105;(with_reducible refine (sortLabels_any x.nodes.flatten _ F1 _ O1.out H0.out (Nat.le_trans HN.out (by decide))).mono ?_);rintro e w2 ⟨rfl,m,o2,p2,s2,k2⟩;have O2:=Lib.hid o2;have P2:=Lib.hid p2;have S2:=Lib.hid s2;have K2:=Lib.hid k2;clear o2 p2 s2 k2)
 go_wp2_with (go_at_call 106;(with_reducible refine (compactLabel_any m _ F1 _ O2.out (P2.out.length_eq ▸ H0.out) (P2.out.length_eq ▸ Nat.le_trans HN.out (by decide))).mono ?_);rintro e w3 ⟨v3',F3,rfl,o3,f3,k3⟩;have O3:=Lib.hid o3;have F3h:=Lib.hid f3;have K3:=Lib.hid k3;clear o3 f3 k3)
 go_ret
 exact ⟨_,F3,rfl,by rw [← compact_labels HC.out P2.out S2.out];exact O3.out,fun b hb=>F1h.out b (F3h.out b hb),(K2.out.trans K3.out).ext X1.out F1h.out⟩
end Go.Proofs.YtoblacfjmcpbmaaGreat
namespace Go.Proofs.YtoblacfjmcpbmaaGreat
open Go.RowKit
attribute [local irreducible] wpQuiet
theorem indexFunc_Pair {S:Nat→Prop} (l:List Pair) (p:Pair→Bool) (v:Value) (f:Nat) (caps:Array Value) (w:World) (h:Rd EPair S w v l) (hcall:∀ (args:Array Value) (W:World),(callFunc f args).run Tryz.prog W=.ok (.enter f args) W)
 (hf:∀ (cs:List Value) (x:Pair) (w1:World),Ext w w1→EPair.rel S w1 cs x→Calls Tryz.prog f (#[.agg cs.toArray] ++ caps) w1 fun e w'=>e=.returned (.bool (p x))∧Ext w1 w') :
 Calls Tryz.prog 145 #[v,.func (.func f) #[] caps] w fun e w'=>e=.returned (.int .i64 (idxOf p l))∧Ext w w':=by
 obtain ⟨A,c,rfl,h1,h2,hk⟩:=h.open_
 unfold maxLen at h2
 have HK:=Lib.hid hk
 have HF:=Lib.hid hf
 clear hk h hf
 go_enter Tryz.func145,Tryz.ntmps145
 go_wp2_with fail
 go_loopw [8] (fun i w'=>∃ k:Nat,k≤l.length∧i=.int .i64 k∧(∀ j,j < k→p (nth l j)=false)∧Ext w w') (fun i _=>l.length - (intOf i).toNat)
 case atStart=>exact ⟨0,by omega,rfl,fun j hj=>by omega,Ext.refl _⟩
 case round =>
  obtain ⟨k,hk1,rfl,hall,hx⟩:=hrel
  have HA:=Lib.hid hall
  have HX:=Lib.hid hx
  clear hall
  by_cases hlt:k < l.length
  · obtain ⟨b,o,cs,rfl,hb,hr,hc⟩:=HK.out k hlt
    have HR:=Lib.hid (EPair.keep (hx.same S) hr)
    have HC:=Lib.hid (hx.range hc)
    have HI:Hid ((Tryz.prog.info? 100).map (·.size)=some cs.length):=Lib.hid (by rw [EPair.len hr];kernel_rfl)
    clear hr hc hx
    by_cases hp:p (nth l k)=true
    · have HE:Hid (idxOf p l=k):=Lib.hid (idxOf_some hlt HA.out hp)
      go_wp2_with (first | (refine wpList_load_mid rfl 100 _ rfl b (o+k * 5) rfl cs _ HC.out Tryz.underlying100 rfl HI.out ?_) | ((with_reducible refine (HF.out cs (nth l k) _ HX.out HR.out).mono ?_);rintro e w1 ⟨rfl,hx1⟩;have HX1:=Lib.hid hx1;clear hx1))
      go_ret
      exact ⟨ret_int HE.out.symm,HX.out.trans HX1.out⟩
    · simp only [Bool.not_eq_true] at hp
      have HE:=Lib.hid (all_succ HA.out hp)
      go_wp2_with (first | (refine wpList_load_mid rfl 100 _ rfl b (o+k * 5) rfl cs _ HC.out Tryz.underlying100 rfl HI.out ?_) | ((with_reducible refine (HF.out cs (nth l k) _ HX.out HR.out).mono ?_);rintro e w1 ⟨rfl,hx1⟩;have HX1:=Lib.hid hx1;clear hx1))
      go_roundw
      case rel=>exact ⟨k+1,by omega,by go_num,HE.out,HX.out.trans HX1.out⟩
      case measure=>simp [intOf];omega
  · have HE:Hid (idxOf p l = -1):=Lib.hid (idxOf_none fun j hj=>HA.out j (by omega))
    go_wp2_with fail
    go_ret
    exact ⟨ret_int HE.out.symm,HX.out⟩
theorem containsFunc_Pair {S:Nat→Prop} (l:List Pair) (p:Pair→Bool) (v:Value) (f:Nat) (caps:Array Value) (w:World) (h:Rd EPair S w v l) (hcall:∀ (args:Array Value) (W:World),(callFunc f args).run Tryz.prog W=.ok (.enter f args) W)
 (hf:∀ (cs:List Value) (x:Pair) (w1:World),Ext w w1→EPair.rel S w1 cs x→Calls Tryz.prog f (#[.agg cs.toArray] ++ caps) w1 fun e w'=>e=.returned (.bool (p x))∧Ext w1 w') :
 Calls Tryz.prog 107 #[v,.func (.func f) #[] caps] w fun e w'=>e=.returned (.bool (l.any p))∧Ext w w':=by
 have HE:=Lib.hid (idxOf_any (p:=p) (l:=l))
 have H:=Lib.hid (indexFunc_Pair l p v f caps w h hcall hf)
 clear h hcall hf
 go_enter Tryz.func107,Tryz.ntmps107
 go_wp2_with (refine H.out.mono ?_;rintro e w1 ⟨rfl,hx1⟩;have HX1:=Lib.hid hx1;clear hx1)
 go_ret
 exact ⟨ret_bool HE.out,HX1.out⟩
theorem containsFunc_Pair_1 {S:Nat→Prop} (l:List Pair) (p:Pair→Bool) (v:Value) (f:Nat) (c1:Value) (w:World) (h:Rd EPair S w v l) (hcall:∀ (args:Array Value) (W:World),(callFunc f args).run Tryz.prog W=.ok (.enter f args) W)
 (hf:∀ (cs:List Value) (x:Pair) (w1:World),Ext w w1→EPair.rel S w1 cs x→Calls Tryz.prog f #[.agg cs.toArray,c1] w1 fun e w'=>e=.returned (.bool (p x))∧Ext w1 w') :
 Calls Tryz.prog 107 #[v,.func (.func f) #[] #[c1]] w fun e w'=>e=.returned (.bool (l.any p))∧Ext w w' :=
 containsFunc_Pair l p v f #[c1] w h hcall fun cs x w1 hx hr=>by rw [show (#[.agg cs.toArray] ++ #[c1]:Array Value) = #[.agg cs.toArray,c1] from rfl];exact hf cs x w1 hx hr
theorem samePair_iff {x y:Pair}:samePair x y=(decide (x.from_.level=y.from_.level) && decide (x.from_.set=y.from_.set) && (decide (x.to_.level=y.to_.level) && decide (x.to_.set=y.to_.set))):=by
 have h:∀ a b:Label,decide (b=a)=(decide (a.level=b.level) && decide (a.set=b.set)):=fun a b=>isLab_iff
 rw [samePair,h,h]
theorem call_pairs1:∀ (args:Array Value) (W:World),(callFunc 108 args).run Tryz.prog W=.ok (.enter 108 args) W:=by
 intro args W
 go_simp
theorem pairs1_any {S:Nat→Prop} (x y:Pair) (cs:List Value) (B:Nat) (w:World) (h:EPair.rel S w cs y) (hb:Blk w B 100 (cellsPair x).toArray) :
 Calls Tryz.prog 108 #[.agg cs.toArray,.pointer (some ⟨B,0,none⟩)] w fun e w'=>e=.returned (.bool (samePair x y))∧Ext w w':=by
 obtain ⟨rfl,hi⟩:=h
 clear hi
 have d0':=fun ob:Obj=>Ext.some ((Ext.refl w).alloc ob) (hb.cell 0)
 have d1':=fun ob:Obj=>Ext.some ((Ext.refl w).alloc ob) (hb.cell 1)
 have d2':=fun ob:Obj=>Ext.some ((Ext.refl w).alloc ob) (hb.cell 2)
 have d3':=fun ob:Obj=>Ext.some ((Ext.refl w).alloc ob) (hb.cell 3)
 clear hb
 have ite__:=@ite_ok
 simp only [cellsPair] at d0' d1' d2' d3' ⊢
 go_enter Tryz.func108,Tryz.ntmps108
 go_wp2_with fail
 all_goals (go_ret;exact ⟨ret_bool (by rw [samePair_iff];simp [*] <;> (rw [Bool.eq_iff_iff];simp)),(Ext.refl _).alloc _⟩)
theorem contains_is {S:Nat→Prop} (l:List Label) (a:Label) (v:Value) (w:World) (h:Rd ELabel S w v l) (r:Bool) (hr:cleared l a=r) :
 Calls Tryz.prog 64 #[v,.agg #[.int .i64 a.level,.int .i64 a.set]] w fun e w'=>e=.returned (.bool r)∧Ext w w':=by
 subst hr
 exact containsLabel_any l a v w h
theorem within_is (n a b:Int) (w:World) (r:Bool) (hr:isB n a b=r) :
 Calls Tryz.prog 30 #[.int .i64 n,.int .i64 a,.int .i64 b] w fun e w'=>e=.returned (.bool r)∧w=w':=by
 subst hr
 exact within_any n a b w
theorem fit_from {x:Pair} (h:FitPair x):FitLabel x.from_:=⟨h.1,h.2.1⟩
theorem fit_to {x:Pair} (h:FitPair x):FitLabel x.to_:=⟨h.2.2.1,h.2.2.2.1⟩
theorem pairsOf_any {S S':Nat→Prop} (x:Config) (cs:List Value) (ls:List Label) (v:Value) (w:World) (h:EConfig.rel S w cs x) (g:Rd ELabel S' w v ls) :
 Calls Tryz.prog 51 #[.agg cs.toArray,v] w fun e w'=>e=.returned (.bool (pairsOk ls x.pairs))∧Ext w w':=by
 obtain ⟨v1,v2,v3,rfl,hf,h1,h2,h3⟩:=h
 have HP:=Lib.hid h2
 obtain ⟨A,c,rfl,l1,l2,hk⟩:=h2.open_
 unfold maxLen at l2
 obtain ⟨A1,c1,rfl,-⟩:=h1.form
 obtain ⟨A3,c3,rfl,-⟩:=h3.form
 have HK:=Lib.hid hk
 have HL:=Lib.hid g
 clear hf h1 h2 h3 g hk
 simp only [cellsConfig]
 go_enter Tryz.func51,Tryz.ntmps51
 go_upto_region 1 with (fail)
 obtain ⟨W,B,hW,hB,hx0,b0⟩:∃ W B,W=w.alloc (.cells #[.slice A1 x.nodes.length c1,.slice A x.pairs.length c,.slice A3 x.quotas.length c3,.int .i64 x.half] 30)∧B=w.heap.size∧Ext w W∧Blk W B 30 #[.slice A1 x.nodes.length c1,.slice A x.pairs.length c,.slice A3 x.quotas.length c3,.int .i64 x.half]:=⟨_,_,rfl,rfl,(Ext.refl w).alloc _,Blk.new _ _ _⟩
 rw [← hW,← hB]
 have HBk:=Lib.hid b0
 have HW:=Lib.hid hx0
 clear hW hB hx0 b0
 have e0:=HBk.out.cell 1
 go_wp2_with fail
 clear e0
 go_loopw [11] (fun i w'=>∃ k:Nat,k≤x.pairs.length∧i=.int .i64 k∧(∀ j,j < k→pairAtB ls x.pairs j=true)∧Ext W w') (fun i _=>x.pairs.length - (intOf i).toNat)
 case atStart=>exact ⟨0,by omega,rfl,fun j hj=>by omega,Ext.refl _⟩
 case round =>
  obtain ⟨k,hk1,rfl,hall,hx⟩:=hrel
  have HA:=Lib.hid hall
  have HX:=Lib.hid hx
  clear hall
  by_cases hlt:k < x.pairs.length
  · obtain ⟨b,o,cs,rfl,_,⟨rfl,hfit⟩,hc⟩:=HK.out k hlt
    have HFit:=Lib.hid hfit
    have hxw:=HW.out.trans hx
    have c0:=Ext.some hxw (hc 0 _ rfl)
    have c1:=Ext.some hxw (hc 1 _ rfl)
    have c2:=Ext.some hxw (hc 2 _ rfl)
    have c3:=Ext.some hxw (hc 3 _ rfl)
    have c4:=Ext.some hxw (hc 4 _ rfl)
    simp only [EPair,Nat.add_zero] at c0 c1 c2 c3 c4
    have e0:=Ext.some hx (HBk.out.cell 1)
    have hkc:k≤c:=by omega
    clear hc hfit hx hxw
    go_upto_region 4 with (fail)
    obtain ⟨W5,B5,hW5,hB5,hx5,b5⟩:∃ W5 B5,W5=wr.alloc (.cells #[.int .i64 (nth x.pairs k).from_.level,.int .i64 (nth x.pairs k).from_.set,.int .i64 (nth x.pairs k).to_.level,.int .i64 (nth x.pairs k).to_.set,.int .i64 (nth x.pairs k).rate] 100)∧B5=wr.heap.size∧Ext wr W5∧Blk W5 B5 100 (cellsPair (nth x.pairs k)).toArray:=⟨_,_,rfl,rfl,(Ext.refl _).alloc _,Blk.new _ _ _⟩
    rw [← hW5,← hB5]
    have X5:=Lib.hid hx5
    have X05:Hid (Ext W W5):=Lib.hid (HX.out.trans hx5)
    have Q5:=Lib.hid b5
    have e1:=Ext.some hx5 e0
    clear hW5 hB5 hx5 b5 e0 c0 c1 c2 c3 c4
    obtain ⟨s,hs⟩:∃ s,(x.pairs.take k).any (samePair (nth x.pairs k))=s:=⟨_,rfl⟩
    have HS:=Lib.hid hs
    clear hs
    go_upto_region 5 with (go_at_call 107;(with_reducible refine (containsFunc_Pair_1 (S:=S) (x.pairs.take k) (samePair (nth x.pairs k)) _ _ _ _ (by have hh:=Rd.take (k:=k) (HP.out.ext (HW.out.trans X05.out)) (by omega);exact hh) call_pairs1 (fun cs y V hx hr=>pairs1_any (S:=S) (nth x.pairs k) y cs B5 V hr (Q5.out.ext hx))).mono ?_);rintro e w6 ⟨rfl,hx6⟩;rw [HS.out];have X6:=Lib.hid (X05.out.trans hx6);have Q6:=Lib.hid (Q5.out.ext hx6);clear hx6)
    have q0:=Q6.out.cell 0
    have q1:=Q6.out.cell 1
    have q2:=Q6.out.cell 2
    have q3:=Q6.out.cell 3
    have q4:=Q6.out.cell 4
    simp only [cellsPair,List.getElem?_toArray,List.getElem?_cons_succ,List.getElem?_cons_zero] at q0 q1 q2 q3 q4
    clear e1
    obtain ⟨t1,ht1⟩:∃ t,cleared ls (nth x.pairs k).from_=t:=⟨_,rfl⟩
    obtain ⟨t2,ht2⟩:∃ t,cleared ls (nth x.pairs k).to_=t:=⟨_,rfl⟩
    obtain ⟨t3,ht3⟩:∃ t,belowB (nth x.pairs k).from_ (nth x.pairs k).to_=t:=⟨_,rfl⟩
    obtain ⟨t4,ht4⟩:∃ t,isB (nth x.pairs k).rate 1 3=t:=⟨_,rfl⟩
    have T1:=Lib.hid ht1
    have T2:=Lib.hid ht2
    have T3:=Lib.hid ht3
    have T4:=Lib.hid ht4
    clear ht1 ht2 ht3 ht4
    cases s
    case' true =>
     have HF:Hid (pairsOk ls x.pairs=false):=Lib.hid (pairsOk_bad hlt (by simp [pairAtB,pairOk,HS.out]))
    case' false =>
     cases t1
     case' false =>
      have HF:Hid (pairsOk ls x.pairs=false):=Lib.hid (pairsOk_bad hlt (by simp [pairAtB,pairOk,T1.out]))
     case' true =>
      cases t2
      case' false =>
       have HF:Hid (pairsOk ls x.pairs=false):=Lib.hid (pairsOk_bad hlt (by simp [pairAtB,pairOk,T2.out]))
      case' true =>
       cases t3
       case' true =>
        have HF:Hid (pairsOk ls x.pairs=false):=Lib.hid (pairsOk_bad hlt (by simp [pairAtB,pairOk,T3.out]))
       case' false =>
        cases t4
        case' false =>
         have HF:Hid (pairsOk ls x.pairs=false):=Lib.hid (pairsOk_bad hlt (by simp [pairAtB,pairOk,T4.out]))
        case' true =>
         have HG:=Lib.hid (all_succ (p:=fun j=>pairAtB ls x.pairs j=true) HA.out (by simp [pairAtB,pairOk,HS.out,T1.out,T2.out,T3.out,T4.out]))
    all_goals go_wp2_with (first | (go_at_call 64;(with_reducible refine (contains_is (S:=S') ls (nth x.pairs k).from_ _ _ (HL.out.ext (HW.out.trans X6.out)) _ T1.out).mono ?_);rintro e w7 ⟨rfl,hx7⟩;replace X6:=Lib.hid (X6.out.trans hx7);replace Q6:=Lib.hid (Q6.out.ext hx7);clear hx7 q0 q1 q2 q3 q4;have q0:=Q6.out.cell 0;have q1:=Q6.out.cell 1;have q2:=Q6.out.cell 2;have q3:=Q6.out.cell 3;have q4:=Q6.out.cell 4;simp only [cellsPair,List.getElem?_toArray,List.getElem?_cons_succ,List.getElem?_cons_zero] at q0 q1 q2 q3 q4) | (go_at_call 64;(with_reducible refine (contains_is (S:=S') ls (nth x.pairs k).to_ _ _ (HL.out.ext (HW.out.trans X6.out)) _ T2.out).mono ?_);rintro e w7 ⟨rfl,hx7⟩;replace X6:=Lib.hid (X6.out.trans hx7);replace Q6:=Lib.hid (Q6.out.ext hx7);clear hx7 q0 q1 q2 q3 q4;have q0:=Q6.out.cell 0;have q1:=Q6.out.cell 1;have q2:=Q6.out.cell 2;have q3:=Q6.out.cell 3;have q4:=Q6.out.cell 4;simp only [cellsPair,List.getElem?_toArray,List.getElem?_cons_succ,List.getElem?_cons_zero] at q0 q1 q2 q3 q4) | (go_at_call 23;(with_reducible refine (below_is (S:=S) (S':=S) (nth x.pairs k).from_ (nth x.pairs k).to_ _ _ _ (rel_Label (fit_from HFit.out)) (rel_Label (fit_to HFit.out)) _ T3.out).mono ?_);rintro e w7 ⟨rfl,hx7⟩;replace X6:=Lib.hid (X6.out.trans hx7);replace Q6:=Lib.hid (Q6.out.ext hx7);clear hx7 q0 q1 q2 q3 q4;have q0:=Q6.out.cell 0;have q1:=Q6.out.cell 1;have q2:=Q6.out.cell 2;have q3:=Q6.out.cell 3;have q4:=Q6.out.cell 4;simp only [cellsPair,List.getElem?_toArray,List.getElem?_cons_succ,List.getElem?_cons_zero] at q0 q1 q2 q3 q4) | (go_at_call 30;(with_reducible refine (within_is _ _ _ _ _ T4.out).mono ?_);rintro e w8 ⟨rfl,rfl⟩))
    all_goals (try (go_ret;exact ⟨ret_bool HF.out.symm,HW.out.trans X6.out⟩))
    go_roundw
    case rel=>exact ⟨k+1,by omega,by go_num,HG.out,X6.out⟩
    case measure=>simp [intOf];omega
  · have HF:Hid (pairsOk ls x.pairs=decide (x.pairs.length≤4)):=Lib.hid (pairsOk_of fun j hj=>HA.out j (by omega))
    have e0:=Ext.some hx (HBk.out.cell 1)
    clear hx
    go_wp2_with fail
    go_ret
    exact ⟨ret_bool (by rw [HF.out];simp;try omega),HW.out.trans HX.out⟩
theorem compare_is {S S':Nat→Prop} (a b:Label) (cs ds:List Value) (w:World) (h:ELabel.rel S w cs a) (g:ELabel.rel S' w ds b) (r:Int) (hr:cmpLabels a b=r) :
 Calls Tryz.prog 75 #[.agg cs.toArray,.agg ds.toArray] w fun e w'=>e=.returned (.int .i64 r)∧Ext w w':=by
 subst hr
 exact compareLabels_any a b cs ds w h g
theorem fit_quota {x:Quota} (h:FitQuota x):FitLabel x.label:=⟨h.1,h.2.1⟩
theorem quota_label {ls:List Label} {qs:List Quota} {k:Nat} (h:quotaAtB ls qs k=true):(nth qs k).label∈ls:=by
 simp only [quotaAtB,Bool.and_eq_true] at h
 exact cleared_mem.1 h.1.1
theorem quotasOf_any {S S':Nat→Prop} (x:Config) (cs:List Value) (ls:List Label) (v:Value) (w:World) (h:EConfig.rel S w cs x) (g:Rd ELabel S' w v ls) (hu:Up ls) (hr:∀ a∈ls,labelRight a=true) (h8:ls.length≤8) :
 Calls Tryz.prog 52 #[.agg cs.toArray,v] w fun e w'=>e=.returned (.bool (quotasOk ls x.quotas))∧Ext w w':=by
 obtain ⟨v1,v2,v3,rfl,hf,h1,h2,h3⟩:=h
 obtain ⟨A,c,rfl,l1,l2,hk⟩:=h3.open_
 unfold maxLen at l2
 obtain ⟨A1,c1,rfl,-⟩:=h1.form
 obtain ⟨A3,c3,rfl,-⟩:=h2.form
 obtain ⟨AL,cL,rfl,-⟩:=g.form
 have HK:=Lib.hid hk
 have HL:=Lib.hid g
 have HU:=Lib.hid hu
 have HRt:=Lib.hid hr
 have H8:=Lib.hid h8
 clear hf h1 h2 h3 g hk hu hr h8
 simp only [cellsConfig]
 go_enter Tryz.func52,Tryz.ntmps52
 go_upto_region 1 with (fail)
 obtain ⟨W,B,hW,hB,hx0,b0⟩:∃ W B,W=w.alloc (.cells #[.slice A1 x.nodes.length c1,.slice A3 x.pairs.length c3,.slice A x.quotas.length c,.int .i64 x.half] 30)∧B=w.heap.size∧Ext w W∧Blk W B 30 #[.slice A1 x.nodes.length c1,.slice A3 x.pairs.length c3,.slice A x.quotas.length c,.int .i64 x.half]:=⟨_,_,rfl,rfl,(Ext.refl w).alloc _,Blk.new _ _ _⟩
 rw [← hW,← hB]
 have HBk:=Lib.hid b0
 have HW:=Lib.hid hx0
 clear hW hB hx0 b0
 have e0:=HBk.out.cell 2
 go_wp2_with fail
 clear e0
 go_loopw [10] (fun i w'=>∃ k:Nat,k≤x.quotas.length∧i=.int .i64 k∧(∀ j,j < k→quotaAtB ls x.quotas j=true)∧Ext W w') (fun i _=>x.quotas.length - (intOf i).toNat)
 case atStart=>exact ⟨0,by omega,rfl,fun j hj=>by omega,Ext.refl _⟩
 case round =>
  obtain ⟨k,hk1,rfl,hall,hx⟩:=hrel
  have HA:=Lib.hid hall
  have HX:=Lib.hid hx
  clear hall
  by_cases hlt:k < x.quotas.length
  · obtain ⟨b,o,cs,rfl,_,⟨rfl,hfit⟩,hc⟩:=HK.out k hlt
    have HFit:=Lib.hid hfit
    have hxw:=HW.out.trans hx
    have c0:=Ext.some hxw (hc 0 _ rfl)
    have c1:=Ext.some hxw (hc 1 _ rfl)
    have c2:=Ext.some hxw (hc 2 _ rfl)
    simp only [EQuota,Nat.add_zero] at c0 c1 c2
    have e0:=Ext.some hx (HBk.out.cell 2)
    clear hc hfit hx hxw
    go_upto_region 4 with (fail)
    obtain ⟨W5,B5,hW5,hB5,hx5,b5⟩:∃ W5 B5,W5=wr.alloc (.cells #[.int .i64 (nth x.quotas k).label.level,.int .i64 (nth x.quotas k).label.set,.int .i64 (nth x.quotas k).most] 103)∧B5=wr.heap.size∧Ext wr W5∧Blk W5 B5 103 #[.int .i64 (nth x.quotas k).label.level,.int .i64 (nth x.quotas k).label.set,.int .i64 (nth x.quotas k).most]:=⟨_,_,rfl,rfl,(Ext.refl _).alloc _,Blk.new _ _ _⟩
    rw [← hW5,← hB5]
    have X05:Hid (Ext W W5):=Lib.hid (HX.out.trans hx5)
    have XK:Hid (Ext wr W5):=Lib.hid hx5
    have q0:=b5.cell 0
    have q1:=b5.cell 1
    have q2:=b5.cell 2
    have e1:=Ext.some hx5 e0
    clear hW5 hB5 hx5 b5 e0 c0 c1 c2
    obtain ⟨t1,ht1⟩:∃ t,cleared ls (nth x.quotas k).label=t:=⟨_,rfl⟩
    obtain ⟨t2,ht2⟩:∃ t,isB (nth x.quotas k).most 1 9=t:=⟨_,rfl⟩
    have T1:=Lib.hid ht1
    have T2:=Lib.hid ht2
    clear ht1 ht2
    cases t1 with
    | false =>
      have HF:Hid (quotasOk ls x.quotas=false):=Lib.hid (quotasOk_bad hlt (by simp [quotaAtB,T1.out]))
      refine wp_region_ext (by kernel_rfl) (by kernel_rfl) ?_
      repeat (
       (refine wpQuiet_step (fun K hK=>?_)
        go_simp
        first
         | (refine hK _ ?_;clear hK K)
         | (apply Exists.intro
            refine ⟨fun w__ hx__=>?_,hK _ ?_⟩
            · have q0__:=Ext.some hx__ q0;have q1__:=Ext.some hx__ q1;have q2__:=Ext.some hx__ q2;have e1__:=Ext.some hx__ e1;first | exact rfl | (go_simp;done) | (go_simp;exact rfl) | (go_at_call 64;exact ext_of hx__ (contains_is (S:=S') ls (nth x.quotas k).label _ _ (HL.out.ext (HW.out.trans (X05.out.trans hx__))) _ T1.out)) | (go_at_call 30;exact ext_of_same hx__ (within_is _ _ _ _ _ T2.out))
            clear hK K)))
      refine wpQuiet_nil ?_
      intro w1 hx1
      have HE:=Lib.hid hx1
      clear q0 q1 q2 e1 hx1
      go_wp2_with fail
      go_ret
      exact ⟨ret_bool HF.out.symm,HW.out.trans (X05.out.trans HE.out)⟩
    | true =>
      cases t2 with
      | false =>
        have HF:Hid (quotasOk ls x.quotas=false):=Lib.hid (quotasOk_bad hlt (by simp [quotaAtB,T2.out]))
        refine wp_region_ext (by kernel_rfl) (by kernel_rfl) ?_
        repeat (
         (refine wpQuiet_step (fun K hK=>?_)
          go_simp
          first
           | (refine hK _ ?_;clear hK K)
           | (apply Exists.intro
              refine ⟨fun w__ hx__=>?_,hK _ ?_⟩
              · have q0__:=Ext.some hx__ q0;have q1__:=Ext.some hx__ q1;have q2__:=Ext.some hx__ q2;have e1__:=Ext.some hx__ e1;first | exact rfl | (go_simp;done) | (go_simp;exact rfl) | (go_at_call 64;exact ext_of hx__ (contains_is (S:=S') ls (nth x.quotas k).label _ _ (HL.out.ext (HW.out.trans (X05.out.trans hx__))) _ T1.out)) | (go_at_call 30;exact ext_of_same hx__ (within_is _ _ _ _ _ T2.out))
              clear hK K)))
        refine wpQuiet_nil ?_
        intro w1 hx1
        have HE:=Lib.hid hx1
        clear q0 q1 q2 e1 hx1
        go_wp2_with fail
        go_ret
        exact ⟨ret_bool HF.out.symm,HW.out.trans (X05.out.trans HE.out)⟩
      | true =>
        by_cases hk0:0 < k
        · obtain ⟨m,rfl⟩:∃ m,k=m+1:=⟨k - 1,by omega⟩
          obtain ⟨b',o',ds,hA',_,⟨rfl,hfm⟩,hd⟩:=HK.out m (by omega)
          injection hA' with hA'
          injection hA' with g1 g2
          subst g1
          subst g2
          have HFm:=Lib.hid hfm
          have hxw:=HW.out.trans X05.out
          have d0:=Ext.some hxw (hd 0 _ rfl)
          have d1:=Ext.some hxw (hd 1 _ rfl)
          have d2:=Ext.some hxw (hd 2 _ rfl)
          simp only [EQuota,Nat.add_zero] at d0 d1 d2
          clear hd hfm hxw d2
          have i0:(0:Int)≤(m:Int)+1:=by omega
          have i1:(m:Int)+1 < (x.quotas.length:Int):=by omega
          have i2:((m:Int)+1).toNat=m+1:=by omega
          have i3:IntKind.i64.wrap (m:Int)=(m:Int):=IntWalk.i64_in _ (by omega)
          have i4:m < x.quotas.length:=by omega
          have KY:=Lib.hid (cmpLabels_key (HRt.out _ (quota_label (HA.out m (by omega)))) (HRt.out _ (cleared_mem.1 T1.out)))
          obtain ⟨z,hz⟩:∃ z,cmpLabels (nth x.quotas m).label (nth x.quotas (m+1)).label=z:=⟨_,rfl⟩
          have TZ:=Lib.hid hz
          clear hz
          by_cases hz0:(0:Int)≤z
          · have HF:Hid (quotasOk ls x.quotas=false):=Lib.hid (quotasOk_bad hlt (by have:=KY.out.1;rw [TZ.out] at this;simp [quotaAtB,T1.out,T2.out];omega))
            refine wp_region_ext (by kernel_rfl) (by kernel_rfl) ?_
            repeat (
             (refine wpQuiet_step (fun K hK=>?_)
              go_simp
              first
               | (refine hK _ ?_;clear hK K)
               | (apply Exists.intro
                  refine ⟨fun w__ hx__=>?_,hK _ ?_⟩
                  · have q0__:=Ext.some hx__ q0;have q1__:=Ext.some hx__ q1;have q2__:=Ext.some hx__ q2;have e1__:=Ext.some hx__ e1;have d0__:=Ext.some hx__ d0;have d1__:=Ext.some hx__ d1;first | exact rfl | (go_simp;done) | (go_simp;exact rfl) | (go_at_call 64;exact ext_of hx__ (contains_is (S:=S') ls (nth x.quotas (m+1)).label _ _ (HL.out.ext (HW.out.trans (X05.out.trans hx__))) _ T1.out)) | (go_at_call 30;exact ext_of_same hx__ (within_is _ _ _ _ _ T2.out)) | (go_at_call 75;exact ext_of hx__ (compare_is (S:=S) (S':=S) (nth x.quotas m).label (nth x.quotas (m+1)).label _ _ _ (rel_Label (fit_quota HFm.out)) (rel_Label (fit_quota HFit.out)) _ TZ.out))
                  clear hK K)))
            refine wpQuiet_nil ?_
            intro w1 hx1
            have HE:=Lib.hid hx1
            clear q0 q1 q2 e1 d0 d1 hx1
            go_wp2_with fail
            go_ret
            exact ⟨ret_bool HF.out.symm,HW.out.trans (X05.out.trans HE.out)⟩
          · have HZ:=Lib.hid hz0
            have HG:=Lib.hid (all_succ (p:=fun j=>quotaAtB ls x.quotas j=true) HA.out (by have:=KY.out.1;have h0:=HZ.out;rw [TZ.out] at this;simp [quotaAtB,T1.out,T2.out];omega))
            refine wp_region_ext (by kernel_rfl) (by kernel_rfl) ?_
            repeat (
             (refine wpQuiet_step (fun K hK=>?_)
              go_simp
              first
               | (refine hK _ ?_;clear hK K)
               | (apply Exists.intro
                  refine ⟨fun w__ hx__=>?_,hK _ ?_⟩
                  · have q0__:=Ext.some hx__ q0;have q1__:=Ext.some hx__ q1;have q2__:=Ext.some hx__ q2;have e1__:=Ext.some hx__ e1;have d0__:=Ext.some hx__ d0;have d1__:=Ext.some hx__ d1;first | exact rfl | (go_simp;done) | (go_simp;exact rfl) | (go_at_call 64;exact ext_of hx__ (contains_is (S:=S') ls (nth x.quotas (m+1)).label _ _ (HL.out.ext (HW.out.trans (X05.out.trans hx__))) _ T1.out)) | (go_at_call 30;exact ext_of_same hx__ (within_is _ _ _ _ _ T2.out)) | (go_at_call 75;exact ext_of hx__ (compare_is (S:=S) (S':=S) (nth x.quotas m).label (nth x.quotas (m+1)).label _ _ _ (rel_Label (fit_quota HFm.out)) (rel_Label (fit_quota HFit.out)) _ TZ.out))
                  clear hK K)))
            refine wpQuiet_nil ?_
            intro w1 hx1
            have HE:=Lib.hid hx1
            clear q0 q1 q2 e1 d0 d1 hx1
            go_wp2_with fail
            go_roundw
            case rel=>exact ⟨m+1+1,by omega,by go_num,HG.out,X05.out.trans HE.out⟩
            case measure=>simp [intOf];omega
        · obtain rfl:k=0:=by omega
          have HG:=Lib.hid (all_succ (p:=fun j=>quotaAtB ls x.quotas j=true) HA.out (by simp [quotaAtB,T1.out,T2.out]))
          refine wp_region_ext (by kernel_rfl) (by kernel_rfl) ?_
          repeat (
           (refine wpQuiet_step (fun K hK=>?_)
            go_simp
            first
             | (refine hK _ ?_;clear hK K)
             | (apply Exists.intro
                refine ⟨fun w__ hx__=>?_,hK _ ?_⟩
                · have q0__:=Ext.some hx__ q0;have q1__:=Ext.some hx__ q1;have q2__:=Ext.some hx__ q2;have e1__:=Ext.some hx__ e1;first | exact rfl | (go_simp;done) | (go_simp;exact rfl) | (go_at_call 64;exact ext_of hx__ (contains_is (S:=S') ls (nth x.quotas 0).label _ _ (HL.out.ext (HW.out.trans (X05.out.trans hx__))) _ T1.out)) | (go_at_call 30;exact ext_of_same hx__ (within_is _ _ _ _ _ T2.out))
                clear hK K)))
          refine wpQuiet_nil ?_
          intro w1 hx1
          have HE:=Lib.hid hx1
          clear q0 q1 q2 e1 hx1
          go_wp2_with fail
          go_roundw
          case rel=>exact ⟨1,by omega,by go_num,HG.out,X05.out.trans HE.out⟩
          case measure=>simp [intOf];omega
  · have HF:Hid (quotasOk ls x.quotas=true):=Lib.hid (quotasOk_of HU.out H8.out fun j hj=>HA.out j (by omega))
    clear hx
    go_wp2_with fail
    go_ret
    exact ⟨ret_bool HF.out.symm,HW.out.trans HX.out⟩
end Go.Proofs.YtoblacfjmcpbmaaGreat
namespace Go.Proofs.YtoblacfjmcpbmaaGreat
open Go.RowKit
attribute [local irreducible] wpQuiet
theorem clearRight_is {S:Nat→Prop} (ns:List (List Label)) (v:Value) (w:World) (h:Rd (ERow ELabel) S w v ns) (r:Bool) (hr:clearOk ns=r) :
 Calls Tryz.prog 49 #[v] w fun e w'=>e=.returned (.bool r)∧Ext w w':=by
 subst hr
 exact clearRight_any ns v w h
theorem pairsOf_is {S S':Nat→Prop} (x:Config) (cs:List Value) (ls:List Label) (v:Value) (w:World) (h:EConfig.rel S w cs x) (g:Rd ELabel S' w v ls) (r:Bool) (hr:pairsOk ls x.pairs=r) :
 Calls Tryz.prog 51 #[.agg cs.toArray,v] w fun e w'=>e=.returned (.bool r)∧Ext w w':=by
 subst hr
 exact pairsOf_any x cs ls v w h g
theorem quotasOf_is {S S':Nat→Prop} (x:Config) (cs:List Value) (ls:List Label) (v:Value) (w:World) (h:EConfig.rel S w cs x) (g:Rd ELabel S' w v ls) (hu:Up ls) (hr:∀ a∈ls,labelRight a=true) (h8:ls.length≤8) (r:Bool) (hq:quotasOk ls x.quotas=r) :
 Calls Tryz.prog 52 #[.agg cs.toArray,v] w fun e w'=>e=.returned (.bool r)∧Ext w w':=by
 subst hq
 exact quotasOf_any x cs ls v w h g hu hr h8
theorem configRight_any {S:Nat→Prop} (x:Config) (cs:List Value) (w:World) (h:EConfig.rel S w cs x) :
 Calls Tryz.prog 17 #[.agg cs.toArray] w fun e w'=>e=.returned (.bool (configRight x))∧Ext w w':=by
 obtain ⟨v1,v2,v3,rfl,hf,h1,h2,h3⟩:=h
 obtain ⟨A1,c1,rfl,-⟩:=h1.form
 obtain ⟨A2,c2,rfl,-⟩:=h2.form
 obtain ⟨A3,c3,rfl,-⟩:=h3.form
 have HF:=Lib.hid hf
 have H1:=Lib.hid h1
 have H2:=Lib.hid h2
 have H3:=Lib.hid h3
 clear hf h1 h2 h3
 simp only [cellsConfig]
 go_enter Tryz.func17,Tryz.ntmps17
 go_upto_region 1 with (fail)
 obtain ⟨W,B,hW,hB,hx0,b0⟩:∃ W B,W=w.alloc (.cells #[.slice A1 x.nodes.length c1,.slice A2 x.pairs.length c2,.slice A3 x.quotas.length c3,.int .i64 x.half] 30)∧B=w.heap.size∧Ext w W∧Blk W B 30 #[.slice A1 x.nodes.length c1,.slice A2 x.pairs.length c2,.slice A3 x.quotas.length c3,.int .i64 x.half]:=⟨_,_,rfl,rfl,(Ext.refl _).alloc _,Blk.new _ _ _⟩
 rw [← hW,← hB]
 have Q:=Lib.hid b0
 have X:=Lib.hid hx0
 clear hW hB hx0 b0
 have q0:=Q.out.cell 0
 have q1:=Q.out.cell 1
 have q2:=Q.out.cell 2
 have q3:=Q.out.cell 3
 simp only [List.getElem?_toArray,List.getElem?_cons_succ,List.getElem?_cons_zero] at q0 q1 q2 q3
 obtain ⟨t1,ht1⟩:∃ t,clearOk x.nodes=t:=⟨_,rfl⟩
 obtain ⟨t2,ht2⟩:∃ t,isB x.half 1 9=t:=⟨_,rfl⟩
 obtain ⟨t3,ht3⟩:∃ t,pairsOk (labelsIn x.nodes) x.pairs=t:=⟨_,rfl⟩
 obtain ⟨t4,ht4⟩:∃ t,quotasOk (labelsIn x.nodes) x.quotas=t:=⟨_,rfl⟩
 have T1:=Lib.hid ht1
 have T2:=Lib.hid ht2
 have T3:=Lib.hid ht3
 have T4:=Lib.hid ht4
 have LR:Hid (∀ a∈labelsIn x.nodes,labelRight a=true):=Lib.hid fun a=>labels_right
 have LU:Hid (Up (labelsIn x.nodes)):=Lib.hid (up_upTo _ _)
 clear ht1 ht2 ht3 ht4
 cases t1 with
 | false =>
   have HN:Hid (configRight x=false):=Lib.hid (by simp [configRight,T1.out])
   go_wp2_with (first | (go_at_call 49;(with_reducible refine (clearRight_is (S:=S) x.nodes _ _ (H1.out.ext X.out) _ T1.out).mono ?_);rintro e w7 ⟨rfl,hx7⟩;replace X:=Lib.hid (X.out.trans hx7);replace Q:=Lib.hid (Q.out.ext hx7);clear hx7 q0 q1 q2 q3;have q0:=Q.out.cell 0;have q1:=Q.out.cell 1;have q2:=Q.out.cell 2;have q3:=Q.out.cell 3;simp only [List.getElem?_toArray,List.getElem?_cons_succ,List.getElem?_cons_zero] at q0 q1 q2 q3) | (go_at_call 30;(with_reducible refine (within_is _ _ _ _ _ T2.out).mono ?_);rintro e w8 ⟨rfl,rfl⟩))
   go_ret
   exact ⟨ret_bool HN.out.symm,X.out⟩
 | true =>
   cases t2 with
   | false =>
     have HN:Hid (configRight x=false):=Lib.hid (by simp [configRight,T1.out,T2.out])
     go_wp2_with (first | (go_at_call 49;(with_reducible refine (clearRight_is (S:=S) x.nodes _ _ (H1.out.ext X.out) _ T1.out).mono ?_);rintro e w7 ⟨rfl,hx7⟩;replace X:=Lib.hid (X.out.trans hx7);replace Q:=Lib.hid (Q.out.ext hx7);clear hx7 q0 q1 q2 q3;have q0:=Q.out.cell 0;have q1:=Q.out.cell 1;have q2:=Q.out.cell 2;have q3:=Q.out.cell 3;simp only [List.getElem?_toArray,List.getElem?_cons_succ,List.getElem?_cons_zero] at q0 q1 q2 q3) | (go_at_call 30;(with_reducible refine (within_is _ _ _ _ _ T2.out).mono ?_);rintro e w8 ⟨rfl,rfl⟩))
     go_ret
     exact ⟨ret_bool HN.out.symm,X.out⟩
   | true =>
     by_cases h8:(labelsIn x.nodes).length≤8
     · have H8:=Lib.hid h8
       cases t3 with
       | false =>
         have HN:Hid (configRight x=false):=Lib.hid (by simp [configRight,T1.out,T2.out,T3.out])
         go_wp2_with (first | (first | (go_at_call 49;(with_reducible refine (clearRight_is (S:=S) x.nodes _ _ (H1.out.ext X.out) _ T1.out).mono ?_);rintro e w7 ⟨rfl,hx7⟩;replace X:=Lib.hid (X.out.trans hx7);replace Q:=Lib.hid (Q.out.ext hx7);clear hx7 q0 q1 q2 q3;have q0:=Q.out.cell 0;have q1:=Q.out.cell 1;have q2:=Q.out.cell 2;have q3:=Q.out.cell 3;simp only [List.getElem?_toArray,List.getElem?_cons_succ,List.getElem?_cons_zero] at q0 q1 q2 q3) | (go_at_call 30;(with_reducible refine (within_is _ _ _ _ _ T2.out).mono ?_);rintro e w8 ⟨rfl,rfl⟩)) | (go_at_call 50;(with_reducible refine (labels_any (S:=S) x [.slice A1 x.nodes.length c1,.slice A2 x.pairs.length c2,.slice A3 x.quotas.length c3,.int .i64 x.half] _ (rel_Config HF.out (H1.out.ext X.out) (H2.out.ext X.out) (H3.out.ext X.out)) T1.out).mono ?_);rintro e w7 ⟨vL,FL,rfl,oL,-,hx7⟩;obtain ⟨AL,cL,rfl,-⟩:=oL.form;have OL:=Lib.hid oL;clear oL;replace X:=Lib.hid (X.out.trans hx7);replace Q:=Lib.hid (Q.out.ext hx7);clear hx7 q0 q1 q2 q3;have q0:=Q.out.cell 0;have q1:=Q.out.cell 1;have q2:=Q.out.cell 2;have q3:=Q.out.cell 3;simp only [List.getElem?_toArray,List.getElem?_cons_succ,List.getElem?_cons_zero] at q0 q1 q2 q3) | (go_at_call 51;(with_reducible refine (pairsOf_is (S:=S) (S':=fun b=>b∈FL) x [.slice A1 x.nodes.length c1,.slice A2 x.pairs.length c2,.slice A3 x.quotas.length c3,.int .i64 x.half] (labelsIn x.nodes) _ _ (rel_Config HF.out (H1.out.ext X.out) (H2.out.ext X.out) (H3.out.ext X.out)) OL.out.rd _ T3.out).mono ?_);rintro e w7 ⟨rfl,hx7⟩;replace OL:=Lib.hid (OL.out.ext hx7);replace X:=Lib.hid (X.out.trans hx7);replace Q:=Lib.hid (Q.out.ext hx7);clear hx7 q0 q1 q2 q3;have q0:=Q.out.cell 0;have q1:=Q.out.cell 1;have q2:=Q.out.cell 2;have q3:=Q.out.cell 3;simp only [List.getElem?_toArray,List.getElem?_cons_succ,List.getElem?_cons_zero] at q0 q1 q2 q3) | (go_at_call 52;(with_reducible refine (quotasOf_is (S:=S) (S':=fun b=>b∈FL) x [.slice A1 x.nodes.length c1,.slice A2 x.pairs.length c2,.slice A3 x.quotas.length c3,.int .i64 x.half] (labelsIn x.nodes) _ _ (rel_Config HF.out (H1.out.ext X.out) (H2.out.ext X.out) (H3.out.ext X.out)) OL.out.rd LU.out LR.out H8.out _ T4.out).mono ?_);rintro e w7 ⟨rfl,hx7⟩;replace OL:=Lib.hid (OL.out.ext hx7);replace X:=Lib.hid (X.out.trans hx7);replace Q:=Lib.hid (Q.out.ext hx7);clear hx7 q0 q1 q2 q3;have q0:=Q.out.cell 0;have q1:=Q.out.cell 1;have q2:=Q.out.cell 2;have q3:=Q.out.cell 3;simp only [List.getElem?_toArray,List.getElem?_cons_succ,List.getElem?_cons_zero] at q0 q1 q2 q3))
         go_ret
         exact ⟨ret_bool HN.out.symm,X.out⟩
       | true =>
         cases t4 with
         | false =>
           have HN:Hid (configRight x=false):=Lib.hid (by simp [configRight,T1.out,T2.out,T3.out,T4.out])
           go_wp2_with (first | (first | (go_at_call 49;(with_reducible refine (clearRight_is (S:=S) x.nodes _ _ (H1.out.ext X.out) _ T1.out).mono ?_);rintro e w7 ⟨rfl,hx7⟩;replace X:=Lib.hid (X.out.trans hx7);replace Q:=Lib.hid (Q.out.ext hx7);clear hx7 q0 q1 q2 q3;have q0:=Q.out.cell 0;have q1:=Q.out.cell 1;have q2:=Q.out.cell 2;have q3:=Q.out.cell 3;simp only [List.getElem?_toArray,List.getElem?_cons_succ,List.getElem?_cons_zero] at q0 q1 q2 q3) | (go_at_call 30;(with_reducible refine (within_is _ _ _ _ _ T2.out).mono ?_);rintro e w8 ⟨rfl,rfl⟩)) | (go_at_call 50;(with_reducible refine (labels_any (S:=S) x [.slice A1 x.nodes.length c1,.slice A2 x.pairs.length c2,.slice A3 x.quotas.length c3,.int .i64 x.half] _ (rel_Config HF.out (H1.out.ext X.out) (H2.out.ext X.out) (H3.out.ext X.out)) T1.out).mono ?_);rintro e w7 ⟨vL,FL,rfl,oL,-,hx7⟩;obtain ⟨AL,cL,rfl,-⟩:=oL.form;have OL:=Lib.hid oL;clear oL;replace X:=Lib.hid (X.out.trans hx7);replace Q:=Lib.hid (Q.out.ext hx7);clear hx7 q0 q1 q2 q3;have q0:=Q.out.cell 0;have q1:=Q.out.cell 1;have q2:=Q.out.cell 2;have q3:=Q.out.cell 3;simp only [List.getElem?_toArray,List.getElem?_cons_succ,List.getElem?_cons_zero] at q0 q1 q2 q3) | (go_at_call 51;(with_reducible refine (pairsOf_is (S:=S) (S':=fun b=>b∈FL) x [.slice A1 x.nodes.length c1,.slice A2 x.pairs.length c2,.slice A3 x.quotas.length c3,.int .i64 x.half] (labelsIn x.nodes) _ _ (rel_Config HF.out (H1.out.ext X.out) (H2.out.ext X.out) (H3.out.ext X.out)) OL.out.rd _ T3.out).mono ?_);rintro e w7 ⟨rfl,hx7⟩;replace OL:=Lib.hid (OL.out.ext hx7);replace X:=Lib.hid (X.out.trans hx7);replace Q:=Lib.hid (Q.out.ext hx7);clear hx7 q0 q1 q2 q3;have q0:=Q.out.cell 0;have q1:=Q.out.cell 1;have q2:=Q.out.cell 2;have q3:=Q.out.cell 3;simp only [List.getElem?_toArray,List.getElem?_cons_succ,List.getElem?_cons_zero] at q0 q1 q2 q3) | (go_at_call 52;(with_reducible refine (quotasOf_is (S:=S) (S':=fun b=>b∈FL) x [.slice A1 x.nodes.length c1,.slice A2 x.pairs.length c2,.slice A3 x.quotas.length c3,.int .i64 x.half] (labelsIn x.nodes) _ _ (rel_Config HF.out (H1.out.ext X.out) (H2.out.ext X.out) (H3.out.ext X.out)) OL.out.rd LU.out LR.out H8.out _ T4.out).mono ?_);rintro e w7 ⟨rfl,hx7⟩;replace OL:=Lib.hid (OL.out.ext hx7);replace X:=Lib.hid (X.out.trans hx7);replace Q:=Lib.hid (Q.out.ext hx7);clear hx7 q0 q1 q2 q3;have q0:=Q.out.cell 0;have q1:=Q.out.cell 1;have q2:=Q.out.cell 2;have q3:=Q.out.cell 3;simp only [List.getElem?_toArray,List.getElem?_cons_succ,List.getElem?_cons_zero] at q0 q1 q2 q3))
           go_ret
           exact ⟨ret_bool HN.out.symm,X.out⟩
         | true =>
           have HN:Hid (configRight x=true):=Lib.hid (by simp [configRight,T1.out,T2.out,T3.out,T4.out,H8.out])
           go_wp2_with (first | (first | (go_at_call 49;(with_reducible refine (clearRight_is (S:=S) x.nodes _ _ (H1.out.ext X.out) _ T1.out).mono ?_);rintro e w7 ⟨rfl,hx7⟩;replace X:=Lib.hid (X.out.trans hx7);replace Q:=Lib.hid (Q.out.ext hx7);clear hx7 q0 q1 q2 q3;have q0:=Q.out.cell 0;have q1:=Q.out.cell 1;have q2:=Q.out.cell 2;have q3:=Q.out.cell 3;simp only [List.getElem?_toArray,List.getElem?_cons_succ,List.getElem?_cons_zero] at q0 q1 q2 q3) | (go_at_call 30;(with_reducible refine (within_is _ _ _ _ _ T2.out).mono ?_);rintro e w8 ⟨rfl,rfl⟩)) | (go_at_call 50;(with_reducible refine (labels_any (S:=S) x [.slice A1 x.nodes.length c1,.slice A2 x.pairs.length c2,.slice A3 x.quotas.length c3,.int .i64 x.half] _ (rel_Config HF.out (H1.out.ext X.out) (H2.out.ext X.out) (H3.out.ext X.out)) T1.out).mono ?_);rintro e w7 ⟨vL,FL,rfl,oL,-,hx7⟩;obtain ⟨AL,cL,rfl,-⟩:=oL.form;have OL:=Lib.hid oL;clear oL;replace X:=Lib.hid (X.out.trans hx7);replace Q:=Lib.hid (Q.out.ext hx7);clear hx7 q0 q1 q2 q3;have q0:=Q.out.cell 0;have q1:=Q.out.cell 1;have q2:=Q.out.cell 2;have q3:=Q.out.cell 3;simp only [List.getElem?_toArray,List.getElem?_cons_succ,List.getElem?_cons_zero] at q0 q1 q2 q3) | (go_at_call 51;(with_reducible refine (pairsOf_is (S:=S) (S':=fun b=>b∈FL) x [.slice A1 x.nodes.length c1,.slice A2 x.pairs.length c2,.slice A3 x.quotas.length c3,.int .i64 x.half] (labelsIn x.nodes) _ _ (rel_Config HF.out (H1.out.ext X.out) (H2.out.ext X.out) (H3.out.ext X.out)) OL.out.rd _ T3.out).mono ?_);rintro e w7 ⟨rfl,hx7⟩;replace OL:=Lib.hid (OL.out.ext hx7);replace X:=Lib.hid (X.out.trans hx7);replace Q:=Lib.hid (Q.out.ext hx7);clear hx7 q0 q1 q2 q3;have q0:=Q.out.cell 0;have q1:=Q.out.cell 1;have q2:=Q.out.cell 2;have q3:=Q.out.cell 3;simp only [List.getElem?_toArray,List.getElem?_cons_succ,List.getElem?_cons_zero] at q0 q1 q2 q3) | (go_at_call 52;(with_reducible refine (quotasOf_is (S:=S) (S':=fun b=>b∈FL) x [.slice A1 x.nodes.length c1,.slice A2 x.pairs.length c2,.slice A3 x.quotas.length c3,.int .i64 x.half] (labelsIn x.nodes) _ _ (rel_Config HF.out (H1.out.ext X.out) (H2.out.ext X.out) (H3.out.ext X.out)) OL.out.rd LU.out LR.out H8.out _ T4.out).mono ?_);rintro e w7 ⟨rfl,hx7⟩;replace OL:=Lib.hid (OL.out.ext hx7);replace X:=Lib.hid (X.out.trans hx7);replace Q:=Lib.hid (Q.out.ext hx7);clear hx7 q0 q1 q2 q3;have q0:=Q.out.cell 0;have q1:=Q.out.cell 1;have q2:=Q.out.cell 2;have q3:=Q.out.cell 3;simp only [List.getElem?_toArray,List.getElem?_cons_succ,List.getElem?_cons_zero] at q0 q1 q2 q3))
           go_ret
           exact ⟨ret_bool HN.out.symm,X.out⟩
     · have H8:=Lib.hid h8
       have HN:Hid (configRight x=false):=Lib.hid (by simp [configRight,T1.out,T2.out,H8.out])
       go_wp2_with (first | (first | (go_at_call 49;(with_reducible refine (clearRight_is (S:=S) x.nodes _ _ (H1.out.ext X.out) _ T1.out).mono ?_);rintro e w7 ⟨rfl,hx7⟩;replace X:=Lib.hid (X.out.trans hx7);replace Q:=Lib.hid (Q.out.ext hx7);clear hx7 q0 q1 q2 q3;have q0:=Q.out.cell 0;have q1:=Q.out.cell 1;have q2:=Q.out.cell 2;have q3:=Q.out.cell 3;simp only [List.getElem?_toArray,List.getElem?_cons_succ,List.getElem?_cons_zero] at q0 q1 q2 q3) | (go_at_call 30;(with_reducible refine (within_is _ _ _ _ _ T2.out).mono ?_);rintro e w8 ⟨rfl,rfl⟩)) | (go_at_call 50;(with_reducible refine (labels_any (S:=S) x [.slice A1 x.nodes.length c1,.slice A2 x.pairs.length c2,.slice A3 x.quotas.length c3,.int .i64 x.half] _ (rel_Config HF.out (H1.out.ext X.out) (H2.out.ext X.out) (H3.out.ext X.out)) T1.out).mono ?_);rintro e w7 ⟨vL,FL,rfl,oL,-,hx7⟩;obtain ⟨AL,cL,rfl,-⟩:=oL.form;have OL:=Lib.hid oL;clear oL;replace X:=Lib.hid (X.out.trans hx7);replace Q:=Lib.hid (Q.out.ext hx7);clear hx7 q0 q1 q2 q3;have q0:=Q.out.cell 0;have q1:=Q.out.cell 1;have q2:=Q.out.cell 2;have q3:=Q.out.cell 3;simp only [List.getElem?_toArray,List.getElem?_cons_succ,List.getElem?_cons_zero] at q0 q1 q2 q3))
       go_ret
       exact ⟨ret_bool HN.out.symm,X.out⟩
theorem configRight_is {S:Nat→Prop} (x:Config) (cs:List Value) (w:World) (h:EConfig.rel S w cs x) (r:Bool) (hr:configRight x=r) :
 Calls Tryz.prog 17 #[.agg cs.toArray] w fun e w'=>e=.returned (.bool r)∧Ext w w':=by
 subst hr
 exact configRight_any x cs w h
theorem config_clear {x:Config} (h:configRight x=true):clearOk x.nodes=true:=by
 simp only [configRight,Bool.and_eq_true] at h
 exact h.1.1
theorem own_new {α:Type} [Inhabited α] {E:Elem α} {O:Own E} {T:TypeId} {w:World} {B:Nat} (hb:Blk w B T #[]):OwS O T w (.slice (some ⟨B,0,none⟩) 0 0) [] [B] :=
 .inr ⟨B,0,#[],[],rfl,hb,Nat.le_refl _,Nat.zero_le _,by simp,rfl,rfl,by simp,fun k hk=>absurd hk (Nat.not_lt_zero _)⟩
theorem clearForC_any {S:Nat→Prop} (x:Config) (cs:List Value) (a:Label) (w:World) (h:EConfig.rel S w cs x) (hn:x.nodes.length≤6) :
 Calls Tryz.prog 22 #[.agg cs.toArray,.agg #[.int .i64 a.level,.int .i64 a.set]] w (RetO OInt 2 (clearOf x.nodes a x.nodes.length) w):=by
 obtain ⟨v1,v2,v3,rfl,hf,h1,h2,h3⟩:=h
 obtain ⟨A1,c1,rfl,l1,l2,hk⟩:=h1.open_
 unfold maxLen at l2
 obtain ⟨A2,c2,rfl,-⟩:=h2.form
 obtain ⟨A3,c3,rfl,-⟩:=h3.form
 have HK:=Lib.hid hk
 have HN:=Lib.hid hn
 clear hf h1 h2 h3 hk hn
 simp only [cellsConfig]
 go_enter Tryz.func22,Tryz.ntmps22
 go_upto_region 2 with (fail)
 obtain ⟨W,B,hW,hB,hx0,a0,b0,d0⟩:∃ W B,W=((w.alloc (.cells #[.slice A1 x.nodes.length c1,.slice A2 x.pairs.length c2,.slice A3 x.quotas.length c3,.int .i64 x.half] 30)).alloc (.cells #[.int .i64 a.level,.int .i64 a.set] 24)).alloc (.cells #[] 2)∧B=w.heap.size∧Ext w W∧Blk W B 30 #[.slice A1 x.nodes.length c1,.slice A2 x.pairs.length c2,.slice A3 x.quotas.length c3,.int .i64 x.half]∧Blk W (B+1) 24 #[.int .i64 a.level,.int .i64 a.set]∧Blk W (B+1+1) 2 #[]:=boxes3 w _ _ _ _ _ _
 rw [← hW,← hB]
 have HBw:Hid (w.heap.size≤B):=Lib.hid (by omega)
 have QA:=Lib.hid a0
 have QB:=Lib.hid b0
 have QD:=Lib.hid d0
 have X:=Lib.hid hx0
 clear hW hB hx0 a0 b0 d0
 have q0:=QA.out.cell 0
 go_wp2_with fail
 clear q0
 go_loopw [5,12] (fun u i w'=>∃ (k:Nat) (F:List Nat),k≤x.nodes.length∧i=.int .i64 k∧OwS OInt 2 w' u (clearOf x.nodes a k) F∧(∀ b∈F,W.heap.size≤b∨b=B+1+1)∧Ext w w'∧Kept [B+1+1] W w') (fun _ i _=>x.nodes.length - (intOf i).toNat)
 case atStart=>exact ⟨0,[B+1+1],by omega,rfl,own_new QD.out,fun b hb=>.inr (List.mem_singleton.1 hb),X.out,Kept.refl _ _⟩
 case round =>
  obtain ⟨k,F,hk1,rfl,ho,hF,hxw,hkp⟩:=hrel
  obtain ⟨AO,cO,rfl,-⟩:=ho.form
  have HO:=Lib.hid ho
  have HFF:=Lib.hid hF
  have HX:=Lib.hid hxw
  have HKp:=Lib.hid hkp
  have hB1:(B+1)∉[B+1+1]:=by simp
  have QB1:Hid (Blk wr (B+1) 24 #[.int .i64 a.level,.int .i64 a.set]):=Lib.hid ((hkp.block (B+1) QB.out.lt hB1).trans QB.out)
  clear ho hF hkp hB1
  by_cases hlt:k < x.nodes.length
  · obtain ⟨b,o,cs,rfl,_,⟨vr,rfl,hr⟩,hc⟩:=HK.out k hlt
    have c0:=Ext.some hxw (hc 0 _ rfl)
    simp only [ERow,Nat.mul_one,Nat.add_zero] at c0
    obtain ⟨A9,c9,rfl,-⟩:=hr.form
    have HR:=Lib.hid (hr.ext hxw)
    have p0:=QB1.out.cell 0
    have p1:=QB1.out.cell 1
    have HE:=Lib.hid (clearOf_succ x.nodes a k)
    have HLe:=Lib.hid (clearOf_length x.nodes a k)
    obtain ⟨t,ht⟩:∃ t,cleared (nth x.nodes k) a=t:=⟨_,rfl⟩
    have T:=Lib.hid ht
    clear hc hr hxw ht
    have hwf:∀ b∈F,w.heap.size≤b:=fun b hb=>by
     rcases HFF.out b hb with h | h
     · exact Nat.le_trans X.out.size h
     · have:=HBw.out;omega
    have HWF:=Lib.hid hwf
    clear hwf
    cases t with
    | false =>
      go_wp2_with (go_at_call 64;(with_reducible refine (contains_is (S:=S) (nth x.nodes k) a _ _ HR.out _ T.out).mono ?_);rintro e w7 ⟨rfl,hx7⟩;have X7:=Lib.hid hx7;clear hx7)
      refine ⟨⟨k+1,F,by omega,by go_num,by rw [HE.out,T.out];simpa using HO.out.ext X7.out,HFF.out,HX.out.trans X7.out,HKp.out.trans (Kept.of_ext X7.out)⟩,by simp [intOf];omega⟩
    | true =>
      go_wp2_with (first
       | (go_at_call 64;(with_reducible refine (contains_is (S:=S) (nth x.nodes k) a _ _ HR.out _ T.out).mono ?_);rintro e w7 ⟨rfl,hx7⟩;have X7:=Lib.hid hx7;clear hx7)
       | (at_builtin;refine wpList_append_one (O:=OInt) (T:=2) (l:=clearOf x.nodes a k) (F:=F) (G:=[]) (y:=(k:Int)) (cs:=[.int .i64 (k:Int)]) rfl _ _ 44 rfl (.int .i64 0) 1 8 Tryz.underlying44 (by kernel_rfl) rfl rfl rfl (HO.out.ext (X7.out.alloc _)) _ 0 1 rfl ⟨⟨rfl,by unfold I64;omega⟩,rfl⟩ (Blk.new _ _ _).range (by simpa using HO.out.nodup) (by have:=HLe.out;have:=HN.out;omega) (by decide) ?_;intro v9 w9 F9 o9 k9 f9;have O9:=Lib.hid o9;have K9:=Lib.hid k9;have G9:=Lib.hid f9;clear o9 k9 f9))
      refine ⟨⟨k+1,F9,by omega,by go_num,by rw [HE.out,T.out];simpa using O9.out,fun b hb=>?_,K9.out.ext ((HX.out.trans X7.out).alloc _) HWF.out,?_⟩,by simp [intOf];omega⟩
      · rcases G9.out b hb with h | h | h
        · exact HFF.out b h
        · cases h
        · exact .inl (Nat.le_trans HKp.out.size (Nat.le_trans X7.out.size (Nat.le_trans ((Ext.refl _).alloc _).size h)))
      · refine Kept.sub (F:=[B+1+1] ++ F) (((HKp.out.trans (Kept.of_ext (X7.out.alloc _))).sub (G:=[B+1+1] ++ F) (fun b _ hm=>List.mem_append_left _ hm)).trans (K9.out.sub (G:=[B+1+1] ++ F) (fun b _ hm=>List.mem_append_right _ hm))) (fun b hb hm=>?_)
        rcases List.mem_append.1 hm with h | h
        · exact h
        · rcases HFF.out b h with h2 | h2
          · omega
          · exact List.mem_singleton.2 h2
  · obtain rfl:k=x.nodes.length:=by omega
    have hwf:∀ b∈F,w.heap.size≤b:=fun b hb=>by
     rcases HFF.out b hb with h | h
     · exact Nat.le_trans X.out.size h
     · have:=HBw.out;omega
    have HWF:=Lib.hid hwf
    clear hwf hxw
    go_wp2_with fail
    go_ret
    exact ⟨_,F,rfl,HO.out,HWF.out,HX.out⟩
end Go.Proofs.YtoblacfjmcpbmaaGreat
