/- compareUses once more: the world that it leaves is the one before with draws and new blocks alone. Printed by wip/cmpg.py. UseAdd in plain Lean. -/
import Derived.Test.YtoblacfjmcpbmaaGreatUsesC
import Derived.Sort.Grow
import Derived.Test.YtoblacfjmcpbmaaGreatOrdU
import Derived.Test.YtoblacfjmcpbmaaGreatLib
import Derived.Laws.BitsAllLaws
set_option maxHeartbeats 4000000
namespace Go.Proofs.YtoblacfjmcpbmaaGreat
open Go.RowKit Go.Sort
attribute [local irreducible] wpQuiet
def Gr (w w':World):Prop:=∃ (q:Nat) (os:Array Obj),w'=grow (w.drewN q) os
theorem Gr.refl (w:World):Gr w w:=⟨0,#[],by simp [grow,World.drewN]⟩
theorem Gr.trans {a b c:World} (h:Gr a b) (k:Gr b c):Gr a c:=by
 obtain ⟨q,os,rfl⟩:=h
 obtain ⟨r,ps,rfl⟩:=k
 exact ⟨q+r,os ++ ps,by simp [grow,World.drewN,Nat.add_assoc]⟩
theorem Gr.alloc {a b:World} (h:Gr a b) (o:Obj):Gr a (b.alloc o):=h.trans ⟨0,#[o],by rw [alloc_eq_grow];simp [grow,World.drewN]⟩
theorem Gr.drew {a b:World} (h:Gr a b):Gr a b.drew:=h.trans ⟨1,#[],by rw [grow_empty];rfl⟩
theorem Gr.ext {a b:World} (h:Gr a b):Ext a b:=by
 obtain ⟨q,os,rfl⟩:=h
 refine ⟨rfl,rfl,rfl,by simp [grow,World.drewN],fun i hi=>?_⟩
 show (a.heap ++ os)[i]? = a.heap[i]?
 rw [Array.getElem?_append_left hi]
theorem or_gr {S:Nat→Prop} (l:List Int) (v:Value) (w:World) (h:Rd EInt S w v l) :
 Calls Tryz.prog 74 #[v] w fun e w'=>e=.returned (.int .i64 (orOf l))∧Gr w w':=by
 obtain ⟨A,c,rfl,h1,h2,hk⟩:=h.open_
 unfold maxLen at h2
 have HK:=Lib.hid hk
 clear hk h
 go_enter Tryz.func74,Tryz.ntmps74
 go_wp2_with fail
 go_loopw [8] (fun i w'=>∃ k:Nat,k≤l.length∧i=.int .i64 k∧(∀ j,j < k→nth l j=0)∧Gr w w') (fun i _=>l.length - (intOf i).toNat)
 case atStart=>exact ⟨0,by omega,rfl,fun j hj=>by omega,Gr.refl _⟩
 case round =>
  obtain ⟨k,hk1,rfl,hall,hx⟩:=hrel
  have HA:=Lib.hid hall
  have HX:=Lib.hid hx
  clear hall
  by_cases hlt:k < l.length
  · obtain ⟨b,o,cs,rfl,_,⟨rfl,_⟩,hc⟩:=HK.out k hlt
    have c0:=Ext.some hx.ext (hc 0 _ rfl)
    simp only [EInt,Nat.mul_one,Nat.add_zero] at c0
    clear hc hx
    by_cases he:nth l k=0
    · have HE:=Lib.hid he
      have e1:(nth l k != 0)=false:=by simp [he]
      clear he
      go_wp2_with fail
      go_roundw
      case rel=>exact ⟨k+1,by omega,by go_num,all_succ HA.out HE.out,HX.out⟩
      case measure=>simp [intOf];omega
    · have HE:=Lib.hid he
      have e1:(nth l k != 0)=true:=by simp [he]
      clear he
      go_wp2_with fail
      go_ret
      exact ⟨ret_int (orOf_first hlt HA.out HE.out).symm,HX.out⟩
  · have HE:=Lib.hid (orOf_none (l:=l) fun j hj=>HA.out j (by omega))
    go_wp2_with fail
    go_ret
    exact ⟨ret_int HE.out.symm,HX.out⟩
theorem compareLabels_gr {S S':Nat→Prop} (a b:Label) (cs ds:List Value) (w:World) (h:ELabel.rel S w cs a) (g:ELabel.rel S' w ds b) :
 Calls Tryz.prog 75 #[.agg cs.toArray,.agg ds.toArray] w fun e w'=>e=.returned (.int .i64 (cmpLabels a b))∧Gr w w':=by
 obtain ⟨rfl,hi⟩:=h
 obtain ⟨rfl,gi⟩:=g
 clear hi gi
 simp only [cellsLabel]
 go_enter Tryz.func75,Tryz.ntmps75
 go_upto_region 1 with (fail)
 obtain ⟨W,B,hW,hB,hx0,a0,b0⟩:=boxes2 w #[.int .i64 a.level,.int .i64 a.set] #[.int .i64 b.level,.int .i64 b.set] 24 24
 rw [← hW,← hB]
 have XX:Hid (Gr w W):=Lib.hid (by rw [hW];exact ((Gr.refl w).alloc _).alloc _)
 clear hW hB
 have al:∀ V,Gr W V→∀ i,V.cell? ⟨B,i,none⟩=_:=fun V hx=>(a0.ext hx.ext).cell
 have bl:∀ V,Gr W V→∀ i,V.cell? ⟨B+1,i,none⟩=_:=fun V hx=>(b0.ext hx.ext).cell
 clear hx0 a0 b0
 go_region_held3 (fun w'=>Gr W w') (first | exact (Gr.refl _).drew | assumption | exact Gr.alloc (by assumption) _ | exact Gr.trans (by assumption) hx9) (first | (go_at_call 76;refine (compare_any _ _ _).mono ?_;rintro e w1 ⟨rfl,rfl⟩) | (go_at_call 74;refine (or_gr [cmp3 a.level b.level,cmp3 a.set b.set] _ _ ((rd_two W _ _ _ (cmp3_i64 _ _) (cmp3_i64 _ _)).ext (Ext.refl _).drew)).mono ?_;rintro e w9 ⟨rfl,hx9⟩))
 all_goals
  clear al bl
  go_wp2_with fail
  go_ret
  exact ⟨rfl,XX.out.trans (by assumption)⟩
theorem compareUses_gr {S S':Nat→Prop} (a b:Use) (cs ds:List Value) (w:World) (h:EUse.rel S w cs a) (g:EUse.rel S' w ds b) :
 Calls Tryz.prog 81 #[.agg cs.toArray,.agg ds.toArray] w fun e w'=>e=.returned (.int .i64 (cmpUses a b))∧Gr w w':=by
 obtain ⟨rfl,hi⟩:=h
 obtain ⟨rfl,gi⟩:=g
 have ha:FitLabel a.label:=⟨hi.1,hi.2.1⟩
 have hb:FitLabel b.label:=⟨gi.1,gi.2.1⟩
 have HA:=Lib.hid ha
 have HB:=Lib.hid hb
 clear hi gi ha hb
 simp only [cellsUse]
 go_enter Tryz.func81,Tryz.ntmps81
 go_upto_region 1 with (fail)
 obtain ⟨W,B,hW,hB,hx0,a0,b0⟩:=boxes2 w #[.int .i64 a.label.level,.int .i64 a.label.set,.string a.owner,.int .i64 a.used] #[.int .i64 b.label.level,.int .i64 b.label.set,.string b.owner,.int .i64 b.used] 75 75
 rw [← hW,← hB]
 have XX:Hid (Gr w W):=Lib.hid (by rw [hW];exact ((Gr.refl w).alloc _).alloc _)
 clear hW hB
 have al:∀ V,Gr W V→∀ i,V.cell? ⟨B,i,none⟩=_:=fun V hx=>(a0.ext hx.ext).cell
 have bl:∀ V,Gr W V→∀ i,V.cell? ⟨B+1,i,none⟩=_:=fun V hx=>(b0.ext hx.ext).cell
 clear hx0 a0 b0
 go_region_held3 (fun w'=>Gr W w') (first | exact (Gr.refl _).drew | assumption | exact Gr.alloc (by assumption) _ | exact Gr.trans (by assumption) hx9 | exact Gr.trans (by assumption) hx8) (first | (go_at_call 75;(refine (compareLabels_gr (S:=fun _=>True) (S':=fun _=>True) a.label b.label _ _ _ (rel_Label HA.out) (rel_Label HB.out)).mono ?_);rintro e w8 ⟨rfl,hx8⟩) | (go_at_call 128;refine (Tryz.strings_Compare _ _ _).mono ?_;rintro e w1 ⟨rfl,rfl⟩) | (go_at_call 74;refine (or_gr [cmpLabels a.label b.label,Lib.compareBytes a.owner.data.toList b.owner.data.toList] _ _ (rd_two _ _ _ _ (cmpLabels_i64 _ _) (compareBytes_i64 _ _))).mono ?_;rintro e w9 ⟨rfl,hx9⟩))
 all_goals
  clear al bl
  go_wp2_with fail
  go_ret
  exact ⟨rfl,XX.out.trans (by assumption)⟩
end Go.Proofs.YtoblacfjmcpbmaaGreat
namespace Go.Proofs.YtoblacfjmcpbmaaGreat
open Go.RowKit
theorem Lin.lt_trans {α:Type} {c:α→α→Int} (h:Lin c) {x y z:α} (h1:c x y < 0) (h2:c y z < 0):c x z < 0:=by
 have h3:=h.trans x y z (by omega) (by omega)
 rcases Int.lt_or_eq_of_le h3 with h4 | h4
 · exact h4
 · have h5:=h.anti x z
   have h6:=h.trans z x y (by omega) (by omega)
   have h7:=h.anti y z
   omega
theorem uses_lt {l:List Use} (hu:usesRight l=true) {i j:Nat} (hij:i < j) (hj:j < l.length):cmpUses (nth l i) (nth l j) < 0:=by
 induction j with
 | zero=>omega
 | succ j ih =>
   have h1:=useAt_less (useAt_true hu hj)
   rcases Nat.lt_or_ge i j with h2 | h2
   · exact lin_uses.lt_trans (ih h2 (by omega)) h1
   · obtain rfl:i=j:=by omega
     exact h1
def insP (l:List Use) (x:Use):Nat:=(l.takeWhile fun y=>!decide (cmpUses x y < 0)).length
def insU (l:List Use) (x:Use):List Use:=l.take (insP l x) ++ x :: l.drop (insP l x)
def addAt (l:List Use) (k:Nat) (n:Int):List Use:=l.set k { nth l k with used:=min 100000 ((nth l k).used+n) }
def useAdd (l:List Use) (a:Label) (o:ByteArray) (n:Int):List Use :=
 if 400 < l.length∨8000 < o.size then []
 else if (usesRight l && labelRight a && nameRight o && isB n 1 100000)=false then l
 else if 0≤idxOf (isUse a o) l then addAt l (idxOf (isUse a o) l).toNat n
 else if l.length=48∨ownersOf l a=6 then l
 else insU l ⟨a,o,n⟩
theorem insP_low:∀ (l:List Use) (x:Use) (k:Nat),k < insP l x→¬ cmpUses x (nth l k) < 0
 | [],x,k,h=>by simp [insP] at h
 | y :: l,x,k,h=>by
   unfold insP at h
   rw [List.takeWhile_cons] at h
   split at h
   · rename_i hy
     rcases k with _ | k
     · simpa [nth] using hy
     · exact insP_low l x k (by unfold insP;simpa using h)
   · simp at h
theorem insP_at:∀ (l:List Use) (x:Use),insP l x < l.length→cmpUses x (nth l (insP l x)) < 0
 | [],x,h=>by simp at h
 | y :: l,x,h=>by
   unfold insP at h ⊢
   rw [List.takeWhile_cons] at h ⊢
   split
   · rename_i hy
     rw [if_pos hy] at h
     exact insP_at l x (by unfold insP;simpa using h)
   · rename_i hy
     simpa [nth] using hy
theorem insP_high {l:List Use} (hu:usesRight l=true) (x:Use) {k:Nat} (h1:insP l x≤k) (hk:k < l.length):cmpUses x (nth l k) < 0:=by
 have h2:=insP_at l x (by omega)
 rcases Nat.lt_or_ge (insP l x) k with h3 | h3
 · exact lin_uses.lt_trans h2 (uses_lt hu h3 hk)
 · obtain rfl:insP l x=k:=by omega
   exact h2
theorem insU_perm (l:List Use) (x:Use):(insU l x).Perm (l ++ [x]):=by
 unfold insU
 have h1:(List.take (insP l x) l ++ x :: List.drop (insP l x) l).Perm (x :: (List.take (insP l x) l ++ List.drop (insP l x) l)):=List.perm_middle
 rw [List.take_append_drop] at h1
 exact h1.trans (List.perm_append_singleton x l).symm
theorem insU_sorted {l:List Use} {x:Use} (hu:usesRight l=true) (hn:∀ j,j < l.length→cmpUses x (nth l j)≠0):(insU l x).Pairwise fun a b=>cmpUses a b < 0:=by
 have hl:l.Pairwise fun a b=>cmpUses a b < 0:=by
  rw [List.pairwise_iff_getElem]
  intro i j hi hj hij
  have:=uses_lt hu hij hj
  rwa [nth_eq hi,nth_eq hj] at this
 unfold insU
 rw [List.pairwise_append]
 refine ⟨hl.sublist (List.take_sublist _ _),List.pairwise_cons.2 ⟨fun y hy=>?_,hl.sublist (List.drop_sublist _ _)⟩,fun a ha b hb=>?_⟩
 · obtain ⟨i,hi,rfl⟩:=List.getElem_of_mem hy
   rw [List.length_drop] at hi
   have:=insP_high hu x (k:=insP l x+i) (by omega) (by omega)
   rw [nth_eq (by omega)] at this
   simpa using this
 · obtain ⟨i,hi,rfl⟩:=List.getElem_of_mem ha
   rw [List.length_take] at hi
   have h1:=insP_low l x i (by omega)
   have h2:=hn i (by omega)
   have h3:=lin_uses.anti x (nth l i)
   have h4:cmpUses (nth l i) x < 0:=by omega
   have e:(List.take (insP l x) l)[i]'(by rw [List.length_take];omega)=nth l i:=by rw [nth_eq (by omega)];simp
   rw [e]
   rcases List.mem_cons.1 hb with rfl | hb
   · exact h4
   · obtain ⟨j,hj,rfl⟩:=List.getElem_of_mem hb
     rw [List.length_drop] at hj
     have:=insP_high hu x (k:=insP l x+j) (by omega) (by omega)
     rw [nth_eq (by omega)] at this
     have e2:(List.drop (insP l x) l)[j]'(by rw [List.length_drop];omega)=l[insP l x+j]'(by omega):=by simp
     rw [e2]
     exact lin_uses.lt_trans h4 this
theorem sort_eq {l m:List Use} {x:Use} (hu:usesRight l=true) (hn:∀ j,j < l.length→cmpUses x (nth l j)≠0) (hp:m.Perm (l ++ [x])) (hs:m.Pairwise fun a b=>cmpUses a b≤0):m=insU l x:=by
 have hi:=insU_sorted hu hn
 have hp2:m.Perm (insU l x):=hp.trans (insU_perm l x).symm
 refine List.Perm.eq_of_pairwise (le:=fun a b=>cmpUses a b≤0) ?_ hs (hi.imp fun h=>Int.le_of_lt h) hp2
 intro a b ha hb h1 h2
 have ha':=hp2.mem_iff.1 ha
 obtain ⟨i,hi1,rfl⟩:=List.getElem_of_mem ha'
 obtain ⟨j,hj1,rfl⟩:=List.getElem_of_mem hb
 rcases Nat.lt_trichotomy i j with h | h | h
 · have:=List.pairwise_iff_getElem.1 hi i j hi1 hj1 h
   have h3:=lin_uses.anti (insU l x)[i] (insU l x)[j]
   omega
 · subst h;rfl
 · have:=List.pairwise_iff_getElem.1 hi j i hj1 hi1 h
   have h3:=lin_uses.anti (insU l x)[j] (insU l x)[i]
   omega
theorem isUse_cmp {a:Label} {o:ByteArray} {n:Int} {y:Use} (h:isUse a o y=false):cmpUses ⟨a,o,n⟩ y≠0:=fun h0=>by
 obtain ⟨h1,h2⟩:=cmpUses_eq h0
 simp only at h1 h2
 rw [isUse,← h1,← h2] at h
 simp at h
end Go.Proofs.YtoblacfjmcpbmaaGreat
/- The walks over lists of node numbers: nodesRight and l04Nodes. -/
namespace Go.Proofs.YtoblacfjmcpbmaaGreat
open Go.RowKit
attribute [local irreducible] wpQuiet
def numAt (l:List Int) (i:Nat):Bool:=isB (nth l i) 0 5 && (decide (i=0) || decide (nth l (i - 1) < nth l i))
def numsOk (l:List Int):Bool:=(List.range l.length).all (numAt l)
theorem numsOk_false {l:List Int} {i:Nat} (hi:i < l.length) (h:numAt l i=false):numsOk l=false:=by
 unfold numsOk
 rw [List.all_eq_false]
 exact ⟨i,List.mem_range.2 hi,by simp [h]⟩
theorem numsOk_of {l:List Int} (h:∀ i,i < l.length→numAt l i=true):numsOk l=true:=List.all_eq_true.2 fun i hi=>h i (List.mem_range.1 hi)
theorem numAt_zero {l:List Int}:numAt l 0=isB (nth l 0) 0 5:=by simp [numAt]
theorem numAt_succ {l:List Int} {m:Nat}:numAt l (m+1)=(isB (nth l (m+1)) 0 5 && decide (nth l m < nth l (m+1))):=by simp [numAt]
theorem numAt_bad {l:List Int} {k:Nat} (h:isB (nth l k) 0 5=false):numAt l k=false:=by simp [numAt,h]
theorem Rd.ints {S:Nat→Prop} {w:World} {v:Value} {l:List Int} (h:Rd EInt S w v l) :
 ∃ A c,v=.slice A l.length c∧l.length≤c∧c≤maxLen∧∀ k,k < l.length→∃ b o,A=some ⟨b,o,none⟩∧w.cell? ⟨b,o+k,none⟩=some (.int .i64 (nth l k)):=by
 obtain ⟨A,c,hv,h1,h2,hk⟩:=h.open_
 refine ⟨A,c,hv,h1,h2,fun k hlt=>?_⟩
 obtain ⟨b,o,cs,hA,_,⟨rfl,_⟩,hc⟩:=hk k hlt
 have h0:=hc 0 _ rfl
 simp only [EInt,Nat.mul_one,Nat.add_zero] at h0
 exact ⟨b,o,hA,h0⟩
theorem nodesRight1_any {S:Nat→Prop} (l:List Int) (need:Int) (v:Value) (w:World) (h:Rd EInt S w v l) :
 Calls Tryz.prog 127 #[v,.int .i64 need] w fun e w'=>e=.returned (.bool (numsOk l && decide ((l.length:Int)=need)))∧Ext w w':=by
 obtain ⟨A,c,rfl,h1,h2,hk⟩:=h.ints
 unfold maxLen at h2
 have HK:=Lib.hid hk
 clear hk h
 go_enter Tryz.func127,Tryz.ntmps127
 go_wp2_with fail
 go_loopw [9] (fun i w'=>∃ k:Nat,k≤l.length∧i=.int .i64 k∧(∀ j,j < k→numAt l j=true)∧Ext w w') (fun i _=>l.length - (intOf i).toNat)
 case atStart=>exact ⟨0,by omega,rfl,fun j hj=>by omega,Ext.refl _⟩
 case round =>
  obtain ⟨k,hk1,rfl,hall,hx⟩:=hrel
  have HA:=Lib.hid hall
  clear hall
  by_cases hlt:k < l.length
  · obtain ⟨b,o,rfl,c0⟩:=HK.out k hlt
    have c0':=Ext.some hx c0
    clear c0
    have HX:=Lib.hid hx
    clear hx
    by_cases hs:isB (nth l k) 0 5=true
    · by_cases h0:0 < k
      · obtain ⟨m,rfl⟩:∃ m,k=m+1:=⟨k - 1,by omega⟩
        obtain ⟨b',o',hbo,d0⟩:=HK.out m (by omega)
        cases hbo
        have d0':=Ext.some HX.out d0
        clear d0
        have i0:(0:Int)≤(m:Int)+1:=by omega
        have i1:(m:Int)+1 < (l.length:Int):=by omega
        have i2:((m:Int)+1).toNat=m+1:=by omega
        have i3:IntKind.i64.wrap (m:Int)=(m:Int):=IntWalk.i64_in _ (by omega)
        have i4:m < l.length:=by omega
        by_cases hle:nth l m < nth l (m+1)
        · go_wp2_with (go_at_call 30;refine (within_any _ _ _ _).mono ?_;rintro e w' ⟨rfl,rfl⟩)
          go_roundw
          case rel=>exact ⟨m+2,by omega,by go_num,all_succ HA.out (by rw [numAt_succ,hs];simpa using hle),HX.out⟩
          case measure=>simp [intOf];omega
        · have hgt:nth l (m+1)≤nth l m:=by omega
          clear hle
          have HF:Hid (numsOk l=false):=Lib.hid (numsOk_false hlt (by rw [numAt_succ,hs];simpa using hgt))
          go_wp2_with (go_at_call 30;refine (within_any _ _ _ _).mono ?_;rintro e w' ⟨rfl,rfl⟩)
          go_ret
          exact ⟨ret_bool (by rw [HF.out];rfl),HX.out⟩
      · obtain rfl:k=0:=by omega
        simp only [Nat.add_zero] at c0'
        go_wp2_with (go_at_call 30;refine (within_any _ _ _ _).mono ?_;rintro e w' ⟨rfl,rfl⟩)
        go_roundw
        case rel=>exact ⟨1,by omega,by go_num,all_succ HA.out (by rw [numAt_zero,hs]),HX.out⟩
        case measure=>simp [intOf];omega
    · have HF:Hid (numsOk l=false):=Lib.hid (numsOk_false hlt (numAt_bad (by simpa using hs)))
      simp only [Bool.not_eq_true] at hs
      go_wp2_with (go_at_call 30;refine (within_any _ _ _ _).mono ?_;rintro e w' ⟨rfl,rfl⟩)
      go_ret
      exact ⟨ret_bool (by rw [HF.out];rfl),HX.out⟩
  · have HF:Hid (numsOk l=true):=Lib.hid (numsOk_of fun i hi=>HA.out i (by omega))
    have HX:=Lib.hid hx
    go_wp2_with fail
    go_ret
    exact ⟨ret_bool (by rw [HF.out,Bool.true_and];simp [Bool.beq_eq_decide_eq]),HX.out⟩
end Go.Proofs.YtoblacfjmcpbmaaGreat
/- Two ways to say that one set of bits lies in another. -/
namespace Go.Proofs.YtoblacfjmcpbmaaGreat
open Go
theorem wrap_inj {m n:Nat} (hm:m < 18446744073709551616) (hn:n < 18446744073709551616) (h:IntKind.i64.wrap (m:Int)=IntKind.i64.wrap (n:Int)):m=n:=by
 rw [IntKind.wrap_i64,IntKind.wrap_i64] at h
 omega
theorem wrap_ofInt {b:Int} (h:I64 b):IntKind.i64.wrap ((BitVec.ofInt 64 b).toNat:Int)=b:=by
 obtain ⟨h1,h2⟩:=h
 rw [BitVec.toNat_ofInt,IntKind.wrap_i64]
 have e:(2:Nat) ^ 64=18446744073709551616:=by decide
 rw [e]
 omega
theorem and_iff (x y:BitVec 64):x &&& y=x↔x &&& ~~~y=0#64:=by
 constructor
 · intro h
   apply BitVec.eq_of_getElem_eq
   intro i hi
   have:=congrArg (fun z=>z[i]) h
   simp at this ⊢
   exact this
 · intro h
   apply BitVec.eq_of_getElem_eq
   intro i hi
   have:=congrArg (fun z=>z[i]) h
   simp at this ⊢
   exact this
theorem bits_sub {b d:Int} (hb:I64 b):(bits .and .i64 b d == b)=(bits .andNot .i64 b d == 0):=by
 rw [Bool.eq_iff_iff,beq_iff_eq,beq_iff_eq]
 show IntKind.i64.wrap ((BitVec.ofInt 64 b &&& BitVec.ofInt 64 d).toNat:Int)=b↔IntKind.i64.wrap ((BitVec.ofInt 64 b &&& ~~~(BitVec.ofInt 64 d)).toNat:Int)=0
 have l1:=(BitVec.ofInt 64 b &&& BitVec.ofInt 64 d).isLt
 have l2:=(BitVec.ofInt 64 b &&& ~~~(BitVec.ofInt 64 d)).isLt
 have l3:=(BitVec.ofInt 64 b).isLt
 have e:(2:Nat) ^ 64=18446744073709551616:=by decide
 rw [e] at l1 l2 l3
 constructor
 · intro h
   have h2:BitVec.ofInt 64 b &&& BitVec.ofInt 64 d=BitVec.ofInt 64 b:=BitVec.eq_of_toNat_eq (wrap_inj l1 l3 (h.trans (wrap_ofInt hb).symm))
   rw [(and_iff _ _).1 h2]
   decide
 · intro h
   have h2:BitVec.ofInt 64 b &&& ~~~(BitVec.ofInt 64 d)=0#64:=BitVec.eq_of_toNat_eq (wrap_inj l2 (by decide) (h.trans (by decide)))
   rw [(and_iff _ _).2 h2]
   exact wrap_ofInt hb
end Go.Proofs.YtoblacfjmcpbmaaGreat
/- The walks of Below and TaskRight,the program's and the reference's. -/
namespace Go.Proofs.YtoblacfjmcpbmaaGreat
open Go.RowKit
attribute [local irreducible] wpQuiet
def belowB (a b:Label):Bool:=decide (a.level≤b.level) && (bits .and .i64 a.set b.set == a.set)
def belowOk (a b:Label):Bool:=labelRight a && labelRight b && belowB a b
theorem below_any {S S':Nat→Prop} (a b:Label) (cs ds:List Value) (w:World) (h:ELabel.rel S w cs a) (g:ELabel.rel S' w ds b) :
 Calls Tryz.prog 23 #[.agg cs.toArray,.agg ds.toArray] w fun e w'=>e=.returned (.bool (belowB a b))∧Ext w w':=by
 obtain ⟨rfl,hi⟩:=h
 obtain ⟨rfl,gi⟩:=g
 have HB:=Lib.hid (bits_sub (b:=a.set) (d:=b.set) (by simp only [FitLabel] at hi;exact hi.2))
 clear hi gi
 simp only [cellsLabel]
 go_enter Tryz.func23,Tryz.ntmps23
 go_wp2
 all_goals (go_ret;exact ⟨ret_bool (by have hb:=HB.out;go_light;simp_all [belowB];try (intro _;omega)),((Ext.refl _).alloc _).alloc _⟩)
theorem implBelow_any {S S':Nat→Prop} (a b:Label) (cs ds:List Value) (w:World) (h:ELabel.rel S w cs a) (g:ELabel.rel S' w ds b) :
 Calls Tryz.prog 125 #[.agg cs.toArray,.agg ds.toArray] w fun e w'=>e=.returned (.bool (belowOk a b))∧Ext w w':=by
 obtain ⟨rfl,hi⟩:=h
 obtain ⟨rfl,gi⟩:=g
 have HI:=Lib.hid hi
 have GI:=Lib.hid gi
 clear hi gi
 simp only [cellsLabel]
 go_enter Tryz.func125,Tryz.ntmps125
 go_upto_region 1 with (fail)
 obtain ⟨W,B,hW,hB,hx0,a0,b0⟩:=boxes2 w #[.int .i64 a.level,.int .i64 a.set] #[.int .i64 b.level,.int .i64 b.set] 24 24
 rw [← hW,← hB]
 clear hW hB
 have XX:=Lib.hid hx0
 have AX:=Lib.hid a0
 have BX:=Lib.hid b0
 clear hx0 a0 b0
 have ac:=AX.out.cell
 have bc:=BX.out.cell
 go_wp2_with (first | (go_at_call 67;(with_reducible refine (labelRight_any (S:=S) a [.int .i64 a.level,.int .i64 a.set] _ (rel_Label HI.out)).mono ?_);rintro e w1 ⟨rfl,hx⟩;replace AX:=Lib.hid (AX.out.ext hx);replace BX:=Lib.hid (BX.out.ext hx);replace XX:=Lib.hid (XX.out.trans hx);clear hx ac bc;have ac:=AX.out.cell;have bc:=BX.out.cell) | (go_at_call 67;(with_reducible refine (labelRight_any (S:=S) b [.int .i64 b.level,.int .i64 b.set] _ (rel_Label GI.out)).mono ?_);rintro e w1 ⟨rfl,hx⟩;replace AX:=Lib.hid (AX.out.ext hx);replace BX:=Lib.hid (BX.out.ext hx);replace XX:=Lib.hid (XX.out.trans hx);clear hx ac bc;have ac:=AX.out.cell;have bc:=BX.out.cell) | (go_at_call 23;(with_reducible refine (below_any (S:=S) (S':=S') a b [.int .i64 a.level,.int .i64 a.set] [.int .i64 b.level,.int .i64 b.set] _ (rel_Label HI.out) (rel_Label GI.out)).mono ?_);rintro e w1 ⟨rfl,hx⟩;replace XX:=Lib.hid (XX.out.trans hx);clear hx ac bc AX BX))
 all_goals (go_ret;exact ⟨ret_bool (by go_light;(try clear ac bc);simp_all [belowOk]),XX.out⟩)
def underOk (x:Task):Bool:=if x.after=0 then decide (x.under=⟨0,0⟩) else isB x.after 1 12 && belowOk x.under x.label && !(decide (x.under=x.label) && decide (x.id≤x.after))
def placeOk (x:Task):Bool:=if x.state=2∨(x.state=1∧0 < x.nodes.length) then timeOk x.start && decide ((x.nodes.length:Int)=x.need) && numsOk x.nodes else decide (x.start=0) && decide (x.nodes.length=0)
def taskRight (x:Task):Bool :=
 labelRight x.label && isB x.id 1 12 && nameRight x.owner && isWorkB x.need x.long x.prio && nowOk x.born && isB x.state 1 6 && underOk x && placeOk x
end Go.Proofs.YtoblacfjmcpbmaaGreat
