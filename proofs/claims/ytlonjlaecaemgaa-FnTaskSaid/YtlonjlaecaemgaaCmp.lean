/- The walks of the comparisons: cmp.Compare, cmp.Or, compareLabels. -/
import Derived.Test.YtlonjlaecaemgaaSmall
import Derived.Deep.RegionHeld3
set_option maxHeartbeats 4000000
namespace Go.Proofs.Ytlonjlaecaemgaa
open Go.RowKit
attribute [local irreducible] wpQuiet
def cmp3 (a b:Int):Int:=if a < b then -1 else if b < a then 1 else 0
def orOf:List Int→Int
 | []=>0
 | x :: l=>if x=0 then orOf l else x
theorem orOf_first {l:List Int} {k:Nat} (hk:k < l.length) (h:∀ j,j < k→nth l j=0) (hp:nth l k≠0):orOf l=nth l k:=by
 induction l generalizing k with
 | nil=>simp at hk
 | cons x l ih =>
   unfold orOf
   cases k with
   | zero=>rw [if_neg (by simpa [nth] using hp)];simp [nth]
   | succ k =>
     have h0:x=0:=by have:=h 0 (by omega);simpa [nth] using this
     rw [if_pos h0]
     have e:nth (x :: l) (k+1)=nth l k:=by simp [nth]
     rw [e] at hp ⊢
     exact ih (by simpa using hk) (fun j hj=>by have:=h (j+1) (by omega);simpa [nth] using this) hp
theorem orOf_none {l:List Int} (h:∀ j,j < l.length→nth l j=0):orOf l=0:=by
 induction l with
 | nil=>rfl
 | cons x l ih =>
   unfold orOf
   have h0:x=0:=by have:=h 0 (by simp);simpa [nth] using this
   rw [if_pos h0]
   exact ih fun j hj=>by have:=h (j+1) (by simp;omega);simpa [nth] using this
theorem cmp3_i64 (a b:Int):I64 (cmp3 a b):=by unfold cmp3 I64;split <;> (try split) <;> omega
theorem isNaN_any (n:Int) (w:World):Calls Try.prog 81 #[.int .i64 n] w fun e w'=>e=.returned (.bool false)∧w=w':=by
 go_enter Try.func81,Try.ntmps81
 go_wp2
 go_ret
 exact ⟨by simp,rfl⟩
theorem compare_any (a b:Int) (w:World):Calls Try.prog 75 #[.int .i64 a,.int .i64 b] w fun e w'=>e=.returned (.int .i64 (cmp3 a b))∧w=w':=by
 go_enter Try.func75,Try.ntmps75
 go_wp2_with (go_at_call 81;refine (isNaN_any _ _).mono ?_;rintro e w' ⟨rfl,rfl⟩)
 all_goals (go_ret;exact ⟨ret_int (by unfold cmp3;(repeat' split) <;> omega),rfl⟩)
theorem or_any {S:Nat→Prop} (l:List Int) (v:Value) (w:World) (h:Rd EInt S w v l) :
 Calls Try.prog 74 #[v] w fun e w'=>e=.returned (.int .i64 (orOf l))∧Ext w w':=by
 obtain ⟨A,c,rfl,h1,h2,hk⟩:=h.open_
 unfold maxLen at h2
 have HK:=Lib.hid hk
 clear hk h
 go_enter Try.func74,Try.ntmps74
 go_wp2_with fail
 go_loopw [8] (fun i w'=>∃ k:Nat,k≤l.length∧i=.int .i64 k∧(∀ j,j < k→nth l j=0)∧Ext w w') (fun i _=>l.length - (intOf i).toNat)
 case atStart=>exact ⟨0,by omega,rfl,fun j hj=>by omega,Ext.refl _⟩
 case round =>
  obtain ⟨k,hk1,rfl,hall,hx⟩:=hrel
  have HA:=Lib.hid hall
  have HX:=Lib.hid hx
  clear hall
  by_cases hlt:k < l.length
  · obtain ⟨b,o,cs,rfl,_,⟨rfl,_⟩,hc⟩:=HK.out k hlt
    have c0:=Ext.some hx (hc 0 _ rfl)
    simp only [EInt,Nat.mul_one,Nat.add_zero] at c0
    clear hc hx
    by_cases he:nth l k=0
    · have HE:=Lib.hid he
      have e1:(nth l k != 0)=false:=by simp [he]
      clear he
      go_wp2_with fail
      go_roundw
      case rel=>exact ⟨k+1,by omega,by go_num,all_succ HA.out HE.out,HX.out⟩
      case measure=>simp [intOf];omega
    · have HE:=Lib.hid he
      have e1:(nth l k != 0)=true:=by simp [he]
      clear he
      go_wp2_with fail
      go_ret
      exact ⟨ret_int (orOf_first hlt HA.out HE.out).symm,HX.out⟩
  · have HE:=Lib.hid (orOf_none (l:=l) fun j hj=>HA.out j (by omega))
    go_wp2_with fail
    go_ret
    exact ⟨ret_int HE.out.symm,HX.out⟩
theorem rd_two (w:World) (a b:Int) (T:TypeId) (ha:I64 a) (hb:I64 b):Rd EInt (fun _=>True) (w.alloc (.cells #[.int .i64 a,.int .i64 b] T)) (.slice (some ⟨w.heap.size,0,none⟩) 2 2) [a,b]:=by
 refine ⟨_,_,rfl,Nat.le_refl _,by decide,fun k x hk=>?_⟩
 have hB:=Blk.new w T #[.int .i64 a,.int .i64 b]
 rcases k with _ | _ | k
 · obtain rfl:a=x:=by simpa using hk
   exact ⟨_,_,_,rfl,trivial,⟨rfl,ha⟩,fun j u hj=>by
    rcases j with _ | j
    · rw [show (0+0 * EInt.size+0:Nat)=0 from rfl,hB.cell 0];simpa using hj
    · simp at hj⟩
 · obtain rfl:b=x:=by simpa using hk
   exact ⟨_,_,_,rfl,trivial,⟨rfl,hb⟩,fun j u hj=>by
    rcases j with _ | j
    · rw [show (0+(0+1) * EInt.size+0:Nat)=1 from rfl,hB.cell 1];simpa using hj
    · simp at hj⟩
 · simp at hk
def cmpLabels (a b:Label):Int:=orOf [cmp3 a.level b.level,cmp3 a.set b.set]
theorem compareLabels_any {S S':Nat→Prop} (a b:Label) (cs ds:List Value) (w:World) (h:ELabel.rel S w cs a) (g:ELabel.rel S' w ds b) :
 Calls Try.prog 55 #[.agg cs.toArray,.agg ds.toArray] w fun e w'=>e=.returned (.int .i64 (cmpLabels a b))∧Ext w w':=by
 obtain ⟨rfl,hi⟩:=h
 obtain ⟨rfl,gi⟩:=g
 clear hi gi
 simp only [cellsLabel]
 go_enter Try.func55,Try.ntmps55
 go_upto_region 1 with (fail)
 obtain ⟨W,B,hW,hB,hx0,a0,b0⟩:=boxes2 w #[.int .i64 a.level,.int .i64 a.set] #[.int .i64 b.level,.int .i64 b.set] 24 24
 rw [← hW,← hB]
 clear hW hB
 have XX:=Lib.hid hx0
 have al:∀ V,Ext W V→∀ i,V.cell? ⟨B,i,none⟩=_:=fun V hx=>(a0.ext hx).cell
 have bl:∀ V,Ext W V→∀ i,V.cell? ⟨B+1,i,none⟩=_:=fun V hx=>(b0.ext hx).cell
 clear hx0 a0 b0
 go_region_held3 (fun w'=>Ext W w') (first | exact (Ext.refl _).drew | assumption | exact Ext.alloc (by assumption) _ | exact Ext.trans (by assumption) hx9) (first | (go_at_call 75;refine (compare_any _ _ _).mono ?_;rintro e w1 ⟨rfl,rfl⟩) | (go_at_call 74;refine (or_any [cmp3 a.level b.level,cmp3 a.set b.set] _ _ ((rd_two W _ _ _ (cmp3_i64 _ _) (cmp3_i64 _ _)).ext (Ext.refl _).drew)).mono ?_;rintro e w9 ⟨rfl,hx9⟩))
 all_goals
  clear al bl
  go_wp2_with fail
  go_ret
  exact ⟨rfl,XX.out.trans (by assumption)⟩
end Go.Proofs.Ytlonjlaecaemgaa
