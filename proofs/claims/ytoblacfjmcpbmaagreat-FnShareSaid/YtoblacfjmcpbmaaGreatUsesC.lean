/- The walks of the small functions that only compute. -/
import Derived.Test.YtoblacfjmcpbmaaGreatRows
import Derived.Test.YtoblacfjmcpbmaaGreatGElems
import Derived.Test.YtoblacfjmcpbmaaGreatLib
import Derived.Deep.RegionHeld3
import Derived.Test.YtoblacfjmcpbmaaGreatShelf
import Derived.Lib.Bytealg
set_option maxHeartbeats 4000000
namespace Go.Proofs.YtoblacfjmcpbmaaGreat
open Go.RowKit
attribute [local irreducible] wpQuiet
theorem within_any (n a b:Int) (w:World) :
 Calls Tryz.prog 30 #[.int .i64 n,.int .i64 a,.int .i64 b] w fun e w'=>e=.returned (.bool (isB n a b))∧w=w':=by
 go_enter Tryz.func30,Tryz.ntmps30
 go_wp2
 all_goals (go_ret;exact ⟨by simp [isB];try omega,rfl⟩)
theorem isTime_any (n:Int) (w:World) :
 Calls Tryz.prog 126 #[.int .i64 n] w fun e w'=>e=.returned (.bool (timeOk n))∧w=w':=by
 go_enter Tryz.func126,Tryz.ntmps126
 go_wp2_with (go_at_call 30;refine (within_any _ _ _ _).mono ?_;rintro e w' ⟨rfl,rfl⟩)
 go_ret
 exact ⟨rfl,rfl⟩
end Go.Proofs.YtoblacfjmcpbmaaGreat
/- The walks of the comparisons: cmp.Compare,cmp.Or,compareLabels. -/
namespace Go.Proofs.YtoblacfjmcpbmaaGreat
open Go.RowKit
attribute [local irreducible] wpQuiet
def cmp3 (a b:Int):Int:=if a < b then -1 else if b < a then 1 else 0
def orOf:List Int→Int
 | []=>0
 | x :: l=>if x=0 then orOf l else x
theorem orOf_first {l:List Int} {k:Nat} (hk:k < l.length) (h:∀ j,j < k→nth l j=0) (hp:nth l k≠0):orOf l=nth l k:=by
 induction l generalizing k with
 | nil=>simp at hk
 | cons x l ih =>
   unfold orOf
   cases k with
   | zero=>rw [if_neg (by simpa [nth] using hp)];simp [nth]
   | succ k =>
     have h0:x=0:=by have:=h 0 (by omega);simpa [nth] using this
     rw [if_pos h0]
     have e:nth (x :: l) (k+1)=nth l k:=by simp [nth]
     rw [e] at hp ⊢
     exact ih (by simpa using hk) (fun j hj=>by have:=h (j+1) (by omega);simpa [nth] using this) hp
theorem orOf_none {l:List Int} (h:∀ j,j < l.length→nth l j=0):orOf l=0:=by
 induction l with
 | nil=>rfl
 | cons x l ih =>
   unfold orOf
   have h0:x=0:=by have:=h 0 (by simp);simpa [nth] using this
   rw [if_pos h0]
   exact ih fun j hj=>by have:=h (j+1) (by simp;omega);simpa [nth] using this
theorem cmp3_i64 (a b:Int):I64 (cmp3 a b):=by unfold cmp3 I64;split <;> (try split) <;> omega
theorem isNaN_any (n:Int) (w:World):Calls Tryz.prog 124 #[.int .i64 n] w fun e w'=>e=.returned (.bool false)∧w=w':=by
 go_enter Tryz.func124,Tryz.ntmps124
 go_wp2
 go_ret
 exact ⟨by simp,rfl⟩
theorem compare_any (a b:Int) (w:World):Calls Tryz.prog 76 #[.int .i64 a,.int .i64 b] w fun e w'=>e=.returned (.int .i64 (cmp3 a b))∧w=w':=by
 go_enter Tryz.func76,Tryz.ntmps76
 go_wp2_with (go_at_call 124;refine (isNaN_any _ _).mono ?_;rintro e w' ⟨rfl,rfl⟩)
 all_goals (go_ret;exact ⟨ret_int (by unfold cmp3;(repeat' split) <;> omega),rfl⟩)
theorem or_any {S:Nat→Prop} (l:List Int) (v:Value) (w:World) (h:Rd EInt S w v l) :
 Calls Tryz.prog 74 #[v] w fun e w'=>e=.returned (.int .i64 (orOf l))∧Ext w w':=by
 obtain ⟨A,c,rfl,h1,h2,hk⟩:=h.open_
 unfold maxLen at h2
 have HK:=Lib.hid hk
 clear hk h
 go_enter Tryz.func74,Tryz.ntmps74
 go_wp2_with fail
 go_loopw [8] (fun i w'=>∃ k:Nat,k≤l.length∧i=.int .i64 k∧(∀ j,j < k→nth l j=0)∧Ext w w') (fun i _=>l.length - (intOf i).toNat)
 case atStart=>exact ⟨0,by omega,rfl,fun j hj=>by omega,Ext.refl _⟩
 case round =>
  obtain ⟨k,hk1,rfl,hall,hx⟩:=hrel
  have HA:=Lib.hid hall
  have HX:=Lib.hid hx
  clear hall
  by_cases hlt:k < l.length
  · obtain ⟨b,o,cs,rfl,_,⟨rfl,_⟩,hc⟩:=HK.out k hlt
    have c0:=Ext.some hx (hc 0 _ rfl)
    simp only [EInt,Nat.mul_one,Nat.add_zero] at c0
    clear hc hx
    by_cases he:nth l k=0
    · have HE:=Lib.hid he
      have e1:(nth l k != 0)=false:=by simp [he]
      clear he
      go_wp2_with fail
      go_roundw
      case rel=>exact ⟨k+1,by omega,by go_num,all_succ HA.out HE.out,HX.out⟩
      case measure=>simp [intOf];omega
    · have HE:=Lib.hid he
      have e1:(nth l k != 0)=true:=by simp [he]
      clear he
      go_wp2_with fail
      go_ret
      exact ⟨ret_int (orOf_first hlt HA.out HE.out).symm,HX.out⟩
  · have HE:=Lib.hid (orOf_none (l:=l) fun j hj=>HA.out j (by omega))
    go_wp2_with fail
    go_ret
    exact ⟨ret_int HE.out.symm,HX.out⟩
theorem rd_two (w:World) (a b:Int) (T:TypeId) (ha:I64 a) (hb:I64 b):Rd EInt (fun _=>True) (w.alloc (.cells #[.int .i64 a,.int .i64 b] T)) (.slice (some ⟨w.heap.size,0,none⟩) 2 2) [a,b]:=by
 refine ⟨_,_,rfl,Nat.le_refl _,by decide,fun k x hk=>?_⟩
 have hB:=Blk.new w T #[.int .i64 a,.int .i64 b]
 rcases k with _ | _ | k
 · obtain rfl:a=x:=by simpa using hk
   exact ⟨_,_,_,rfl,trivial,⟨rfl,ha⟩,fun j u hj=>by
    rcases j with _ | j
    · rw [show (0+0 * EInt.size+0:Nat)=0 from rfl,hB.cell 0];simpa using hj
    · simp at hj⟩
 · obtain rfl:b=x:=by simpa using hk
   exact ⟨_,_,_,rfl,trivial,⟨rfl,hb⟩,fun j u hj=>by
    rcases j with _ | j
    · rw [show (0+(0+1) * EInt.size+0:Nat)=1 from rfl,hB.cell 1];simpa using hj
    · simp at hj⟩
 · simp at hk
def cmpLabels (a b:Label):Int:=orOf [cmp3 a.level b.level,cmp3 a.set b.set]
theorem compareLabels_any {S S':Nat→Prop} (a b:Label) (cs ds:List Value) (w:World) (h:ELabel.rel S w cs a) (g:ELabel.rel S' w ds b) :
 Calls Tryz.prog 75 #[.agg cs.toArray,.agg ds.toArray] w fun e w'=>e=.returned (.int .i64 (cmpLabels a b))∧Ext w w':=by
 obtain ⟨rfl,hi⟩:=h
 obtain ⟨rfl,gi⟩:=g
 clear hi gi
 simp only [cellsLabel]
 go_enter Tryz.func75,Tryz.ntmps75
 go_upto_region 1 with (fail)
 obtain ⟨W,B,hW,hB,hx0,a0,b0⟩:=boxes2 w #[.int .i64 a.level,.int .i64 a.set] #[.int .i64 b.level,.int .i64 b.set] 24 24
 rw [← hW,← hB]
 clear hW hB
 have XX:=Lib.hid hx0
 have al:∀ V,Ext W V→∀ i,V.cell? ⟨B,i,none⟩=_:=fun V hx=>(a0.ext hx).cell
 have bl:∀ V,Ext W V→∀ i,V.cell? ⟨B+1,i,none⟩=_:=fun V hx=>(b0.ext hx).cell
 clear hx0 a0 b0
 go_region_held3 (fun w'=>Ext W w') (first | exact (Ext.refl _).drew | assumption | exact Ext.alloc (by assumption) _ | exact Ext.trans (by assumption) hx9) (first | (go_at_call 76;refine (compare_any _ _ _).mono ?_;rintro e w1 ⟨rfl,rfl⟩) | (go_at_call 74;refine (or_any [cmp3 a.level b.level,cmp3 a.set b.set] _ _ ((rd_two W _ _ _ (cmp3_i64 _ _) (cmp3_i64 _ _)).ext (Ext.refl _).drew)).mono ?_;rintro e w9 ⟨rfl,hx9⟩))
 all_goals
  clear al bl
  go_wp2_with fail
  go_ret
  exact ⟨rfl,XX.out.trans (by assumption)⟩
end Go.Proofs.YtoblacfjmcpbmaaGreat
/- The walks of NameRight,the program's and the reference's: both answer nameRight. The walks of LabelRight,isWork,isNow and WishRight,the program's and the reference's. -/
namespace Go.Proofs.YtoblacfjmcpbmaaGreat
open Go.RowKit
attribute [local irreducible] wpQuiet
def byteAt (s:ByteArray) (k:Nat):Nat:=if h:k < s.size then (s[k]'h).toNat else 0
theorem byteAt_eq {s:ByteArray} {k:Nat} (h:k < s.size):(s[k]'h).toNat=byteAt s k:=by rw [byteAt,dif_pos h]
theorem byteAt_lt (s:ByteArray) (k:Nat):byteAt s k < 256:=by
 unfold byteAt
 split
 · exact (s[k]).toNat_lt
 · decide
def lowB (c:Nat):Bool:=decide (97≤c∧c≤122)
def restB (c:Nat):Bool:=lowB c || decide (48≤c∧c≤57) || decide (c=95)
def nameAt (s:ByteArray) (k:Nat):Bool:=if k=0 then lowB (byteAt s 0) else restB (byteAt s k)
def nameRight (s:ByteArray):Bool:=decide (1≤s.size∧s.size≤20) && (List.range s.size).all (nameAt s)
theorem nameRight_size {s:ByteArray} (h:¬ (1≤s.size∧s.size≤20)):nameRight s=false:=by unfold nameRight;rw [decide_eq_false h];rfl
theorem nameRight_bad {s:ByteArray} {k:Nat} (hk:k < s.size) (h:nameAt s k=false):nameRight s=false:=by
 unfold nameRight
 rw [Bool.and_eq_false_iff]
 right
 rw [List.all_eq_false]
 exact ⟨k,List.mem_range.2 hk,by simp [h]⟩
theorem nameRight_of {s:ByteArray} (h:1≤s.size∧s.size≤20) (ha:∀ k,k < s.size→nameAt s k=true):nameRight s=true:=by
 unfold nameRight
 rw [decide_eq_true h,Bool.true_and]
 exact List.all_eq_true.2 fun i hi=>ha i (List.mem_range.1 hi)
theorem nameRight_any (s:ByteArray) (w:World) (hs:Str s) :
 Calls Tryz.prog 65 #[.string s] w fun e w'=>e=.returned (.bool (nameRight s))∧w=w':=by
 unfold Str maxLen at hs
 by_cases h1:s.size < 1
 · have HF:=Lib.hid (nameRight_size (s:=s) (by omega))
   go_enter Tryz.func65,Tryz.ntmps65
   go_wp2_with fail
   go_ret
   exact ⟨ret_bool HF.out.symm,rfl⟩
 · have h1':1≤s.size:=by omega
   clear h1
   by_cases h2:20 < s.size
   · have HF:=Lib.hid (nameRight_size (s:=s) (by omega))
     go_enter Tryz.func65,Tryz.ntmps65
     go_wp2_with fail
     go_ret
     exact ⟨ret_bool HF.out.symm,rfl⟩
   · have h2':s.size≤20:=by omega
     clear h2
     have hlt0:0 < s.size:=by omega
     have HB0:=Lib.hid (byteAt_eq hlt0)
     by_cases hl:((s[0]'hlt0).toNat:Int) < 97
     · have HF:=Lib.hid (nameRight_bad hlt0 (by rw [nameAt,if_pos rfl,← HB0.out];simp only [lowB,decide_eq_false_iff_not];omega))
       go_enter Tryz.func65,Tryz.ntmps65
       go_wp2_with fail
       go_ret
       exact ⟨ret_bool HF.out.symm,rfl⟩
     · have hl':97≤((s[0]'hlt0).toNat:Int):=by omega
       clear hl
       by_cases hu:122 < ((s[0]'hlt0).toNat:Int)
       · have HF:=Lib.hid (nameRight_bad hlt0 (by rw [nameAt,if_pos rfl,← HB0.out];simp only [lowB,decide_eq_false_iff_not];omega))
         go_enter Tryz.func65,Tryz.ntmps65
         go_wp2_with fail
         go_ret
         exact ⟨ret_bool HF.out.symm,rfl⟩
       · have hu':((s[0]'hlt0).toNat:Int)≤122:=by omega
         clear hu
         have HL:Hid (nameAt s 0=true):=Lib.hid (by rw [nameAt,if_pos rfl,← HB0.out];simp only [lowB,decide_eq_true_iff];omega)
         go_enter Tryz.func65,Tryz.ntmps65
         go_wp2_with fail
         go_loop [25] (fun i=>∃ k:Nat,k≤s.size∧i=.int .i64 k∧(∀ j,j < k→nameAt s j=true)) (fun i=>s.size - (intOf i).toNat)
         case atStart=>exact ⟨0,by omega,rfl,fun j hj=>by omega⟩
         case round =>
          obtain ⟨k,hk1,rfl,hall⟩:=hrel
          have HA:=Lib.hid hall
          clear hall
          by_cases hlt:k < s.size
          · have HB:=Lib.hid (byteAt_eq hlt)
            have hb:=byteAt_lt s k
            rcases Nat.eq_zero_or_pos k with h0 | h0
            · subst h0
              go_wp2_with fail
              all_goals (refine ⟨⟨1,by omega,by go_num,all_succ HA.out HL.out⟩,by simp [intOf];omega⟩)
            · clear hl' hu'
              go_wp2_with fail
              all_goals first
               | (go_ret;refine ⟨ret_bool (nameRight_bad hlt ?_).symm,rfl⟩;have hc:=HB.out;go_light;clear HA;rw [nameAt,if_neg (by omega),← hc];simp_all [restB,lowB];try omega)
               | (refine ⟨⟨k+1,by omega,by go_num,all_succ HA.out ?_⟩,by simp [intOf];omega⟩;have hc:=HB.out;go_light;clear HA;rw [nameAt,if_neg (by omega),← hc];simp_all [restB,lowB];try omega)
          · have HF:=Lib.hid (nameRight_of ⟨h1',h2'⟩ fun j hj=>HA.out j (by omega))
            go_wp2_with fail
            go_ret
            exact ⟨ret_bool HF.out.symm,rfl⟩
end Go.Proofs.YtoblacfjmcpbmaaGreat
namespace Go.Proofs.YtoblacfjmcpbmaaGreat
open Go.RowKit
attribute [local irreducible] wpQuiet
def labelRight (a:Label):Bool:=isB a.level 0 3 && isB a.set 0 7
def isWorkB (need long prio:Int):Bool:=isB need 1 6 && isB long 1 20 && isB prio 0 9
def nowOk (n:Int):Bool:=isB n 0 999900
def wishRight (x:Wish):Bool :=
 nameRight x.owner && isWorkB x.need x.long x.prio && isB x.count 1 4 && (if x.after=0 then decide (x.under=⟨0,0⟩) else isB x.after 1 12 && labelRight x.under)
theorem labelRight_any {S:Nat→Prop} (x:Label) (cs:List Value) (w:World) (h:ELabel.rel S w cs x) :
 Calls Tryz.prog 67 #[.agg cs.toArray] w fun e w'=>e=.returned (.bool (labelRight x))∧Ext w w':=by
 obtain ⟨rfl,hi⟩:=h
 clear hi
 simp only [cellsLabel]
 go_enter Tryz.func67,Tryz.ntmps67
 go_wp2_with (go_at_call 30;refine (within_any _ _ _ _).mono ?_;rintro e w' ⟨rfl,rfl⟩)
 all_goals (go_ret;exact ⟨ret_bool (by simp_all [labelRight]),(Ext.refl _).alloc _⟩)
theorem isWork_any (a b c:Int) (w:World) :
 Calls Tryz.prog 66 #[.int .i64 a,.int .i64 b,.int .i64 c] w fun e w'=>e=.returned (.bool (isWorkB a b c))∧w=w':=by
 go_enter Tryz.func66,Tryz.ntmps66
 go_wp2_with (go_at_call 30;refine (within_any _ _ _ _).mono ?_;rintro e w' ⟨rfl,rfl⟩)
 all_goals (go_ret;exact ⟨ret_bool (by simp_all [isWorkB]),rfl⟩)
theorem isNow_any (n:Int) (w:World) :
 Calls Tryz.prog 58 #[.int .i64 n] w fun e w'=>e=.returned (.bool (nowOk n))∧w=w':=by
 go_enter Tryz.func58,Tryz.ntmps58
 go_wp2_with (go_at_call 30;refine (within_any _ _ _ _).mono ?_;rintro e w' ⟨rfl,rfl⟩)
 go_ret
 exact ⟨rfl,rfl⟩
theorem wishRight_any {S:Nat→Prop} (x:Wish) (cs:List Value) (w:World) (h:EWish.rel S w cs x) :
 Calls Tryz.prog 21 #[.agg cs.toArray] w fun e w'=>e=.returned (.bool (wishRight x))∧Ext w w':=by
 obtain ⟨rfl,hi⟩:=h
 have hs:Str x.owner:=by simp only [FitWish] at hi;simp only [hi]
 have HS:=Lib.hid hs
 have HI:=Lib.hid hi
 clear hi hs
 simp only [cellsWish]
 go_enter Tryz.func21,Tryz.ntmps21
 go_wp2_with (first | (go_at_call 30;refine (within_any _ _ _ _).mono ?_;rintro e w' ⟨rfl,rfl⟩) | (go_at_call 66;refine (isWork_any _ _ _ _).mono ?_;rintro e w' ⟨rfl,rfl⟩) | (go_at_call 65;refine (nameRight_any _ _ HS.out).mono ?_;rintro e w' ⟨rfl,rfl⟩) | (go_at_call 67;(with_reducible refine (labelRight_any (S:=S) x.under [.int .i64 x.under.level,.int .i64 x.under.set] _ (rel_Label (by have hf:=HI.out;simp only [FitWish] at hf;simp only [FitLabel,hf,and_self]))).mono ?_);rintro e w1 ⟨rfl,hx1⟩))
 all_goals (go_ret;exact ⟨ret_bool (by go_light;simp_all [wishRight,Label.ext_iff]),by first | exact (Ext.refl _).alloc _ | exact ((Ext.refl _).alloc _).trans hx1⟩)
end Go.Proofs.YtoblacfjmcpbmaaGreat
/- The walks of compareUses,ownersOf,l09Ord and l11Less. -/
namespace Go.Proofs.YtoblacfjmcpbmaaGreat
open Go.RowKit
attribute [local irreducible] wpQuiet
def cmpUses (a b:Use):Int:=orOf [cmpLabels a.label b.label,Lib.compareBytes a.owner.data.toList b.owner.data.toList]
theorem compareBytes_range:∀ a b:List UInt8,-1≤Lib.compareBytes a b∧Lib.compareBytes a b≤1
 | [],[]=>by simp [Lib.compareBytes]
 | [],_ :: _=>by simp [Lib.compareBytes]
 | _ :: _,[]=>by simp [Lib.compareBytes]
 | a :: l,b :: m=>by
   unfold Lib.compareBytes
   split
   · omega
   · split
     · omega
     · exact compareBytes_range l m
theorem compareBytes_i64 (a b:List UInt8):I64 (Lib.compareBytes a b):=by
 have:=compareBytes_range a b
 unfold I64
 omega
theorem cmp3_range (a b:Int):-1≤cmp3 a b∧cmp3 a b≤1:=by unfold cmp3;split <;> (try split) <;> omega
theorem cmpLabels_i64 (a b:Label):I64 (cmpLabels a b):=by
 have h1:=cmp3_range a.level b.level
 have h2:=cmp3_range a.set b.set
 unfold cmpLabels I64 orOf orOf orOf
 split <;> (try split) <;> omega
theorem compareUses_any {S S':Nat→Prop} (a b:Use) (cs ds:List Value) (w:World) (h:EUse.rel S w cs a) (g:EUse.rel S' w ds b) :
 Calls Tryz.prog 81 #[.agg cs.toArray,.agg ds.toArray] w fun e w'=>e=.returned (.int .i64 (cmpUses a b))∧Ext w w':=by
 obtain ⟨rfl,hi⟩:=h
 obtain ⟨rfl,gi⟩:=g
 have ha:FitLabel a.label:=⟨hi.1,hi.2.1⟩
 have hb:FitLabel b.label:=⟨gi.1,gi.2.1⟩
 have HA:=Lib.hid ha
 have HB:=Lib.hid hb
 clear hi gi ha hb
 simp only [cellsUse]
 go_enter Tryz.func81,Tryz.ntmps81
 go_upto_region 1 with (fail)
 obtain ⟨W,B,hW,hB,hx0,a0,b0⟩:=boxes2 w #[.int .i64 a.label.level,.int .i64 a.label.set,.string a.owner,.int .i64 a.used] #[.int .i64 b.label.level,.int .i64 b.label.set,.string b.owner,.int .i64 b.used] 75 75
 rw [← hW,← hB]
 clear hW hB
 have XX:=Lib.hid hx0
 have al:∀ V,Ext W V→∀ i,V.cell? ⟨B,i,none⟩=_:=fun V hx=>(a0.ext hx).cell
 have bl:∀ V,Ext W V→∀ i,V.cell? ⟨B+1,i,none⟩=_:=fun V hx=>(b0.ext hx).cell
 clear hx0 a0 b0
 go_region_held3 (fun w'=>Ext W w') (first | exact (Ext.refl _).drew | assumption | exact Ext.alloc (by assumption) _ | exact Ext.trans (by assumption) hx9 | exact Ext.trans (by assumption) hx8) (first | (go_at_call 75;(refine (compareLabels_any (S:=fun _=>True) (S':=fun _=>True) a.label b.label _ _ _ (rel_Label HA.out) (rel_Label HB.out)).mono ?_);rintro e w8 ⟨rfl,hx8⟩) | (go_at_call 128;refine (Tryz.strings_Compare _ _ _).mono ?_;rintro e w1 ⟨rfl,rfl⟩) | (go_at_call 74;refine (or_any [cmpLabels a.label b.label,Lib.compareBytes a.owner.data.toList b.owner.data.toList] _ _ (rd_two _ _ _ _ (cmpLabels_i64 _ _) (compareBytes_i64 _ _))).mono ?_;rintro e w9 ⟨rfl,hx9⟩))
 all_goals
  clear al bl
  go_wp2_with fail
  go_ret
  exact ⟨rfl,XX.out.trans (by assumption)⟩
end Go.Proofs.YtoblacfjmcpbmaaGreat
/- The walk of ownersOf. UsesRight as plain Lean. -/
namespace Go.Proofs.YtoblacfjmcpbmaaGreat
open Go.RowKit
attribute [local irreducible] wpQuiet
def ownersOf (l:List Use) (a:Label):Nat:=l.countP fun x=>decide (x.label=a)
theorem ownersOf_succ {l:List Use} {a:Label} {k:Nat} (hk:k < l.length):ownersOf (l.take (k+1)) a=ownersOf (l.take k) a+if (nth l k).label=a then 1 else 0:=by
 have h:l.take (k+1)=l.take k ++ [nth l k]:=by
  rw [List.take_succ_eq_append_getElem hk,nth_eq hk]
 rw [h]
 simp [ownersOf,List.countP_append,List.countP_cons]
theorem ownersOf_le (l:List Use) (a:Label):ownersOf l a≤l.length:=List.countP_le_length
theorem ownersOf_any {S S':Nat→Prop} (l:List Use) (a:Label) (v:Value) (cs:List Value) (w:World) (h:Rd EUse S w v l) (g:ELabel.rel S' w cs a) :
 Calls Tryz.prog 82 #[v,.agg cs.toArray] w fun e w'=>e=.returned (.int .i64 (ownersOf l a))∧Ext w w':=by
 obtain ⟨rfl,hi⟩:=g
 clear hi
 obtain ⟨A,c,rfl,h1,h2,hk⟩:=h.open_
 unfold maxLen at h2
 have HK:=Lib.hid hk
 clear hk h
 simp only [cellsLabel]
 go_enter Tryz.func82,Tryz.ntmps82
 go_wp2_with fail
 obtain ⟨W,B,hW__,hB__,hxW,hbox__⟩:=box_new w #[.int .i64 a.level,.int .i64 a.set] 24
 rw [← hW__,← hB__]
 have b0:=hbox__ 0 _ rfl
 have b1:=hbox__ 1 _ rfl
 clear hW__ hB__ hbox__
 have HB0:=Lib.hid b0
 have HB1:=Lib.hid b1
 have HW:=Lib.hid hxW
 clear b0 b1 hxW
 go_loopw [5,10] (fun n i w'=>∃ k:Nat,k≤l.length∧i=.int .i64 k∧n=.int .i64 (ownersOf (l.take k) a)∧Ext W w') (fun _ i _=>l.length - (intOf i).toNat)
 case atStart=>exact ⟨0,by omega,rfl,rfl,Ext.refl _⟩
 case round =>
  obtain ⟨k,hk1,rfl,rfl,hx⟩:=hrel
  have HX:=Lib.hid hx
  by_cases hlt:k < l.length
  · obtain ⟨b,o,cs,rfl,_,⟨rfl,_⟩,hc⟩:=HK.out k hlt
    have hxx:=HW.out.trans hx
    have c0:=Ext.some hxx (hc 0 _ rfl)
    have c1:=Ext.some hxx (hc 1 _ rfl)
    have c2:=Ext.some hxx (hc 2 _ rfl)
    have c3:=Ext.some hxx (hc 3 _ rfl)
    simp only [EUse,Nat.add_zero] at c0 c1 c2 c3
    have d0:=fun o:Obj=>Ext.some (hx.alloc o) HB0.out
    have d1:=fun o:Obj=>Ext.some (hx.alloc o) HB1.out
    have hs:=ownersOf_succ (a:=a) hlt
    have hle:ownersOf (l.take k) a < 2 ^ 63 - 1:=by have:=ownersOf_le (l.take k) a;have:=List.length_take_le k l;omega
    clear hc hx hxx
    generalize hn:ownersOf (l.take k) a=n at *
    have HN:=Lib.hid hn
    clear hn
    by_cases e0:(nth l k).label.level=a.level
    · by_cases e1:(nth l k).label.set=a.set
      · rw [if_pos (Label.ext e0 e1)] at hs
        have HS:=Lib.hid hs
        clear hs
        go_wp2_with fail
        go_roundw
        case rel=>exact ⟨k+1,by omega,by go_num,by rw [HS.out];go_num,((HX.out.alloc _))⟩
        case measure=>simp [intOf];omega
      · rw [if_neg (fun e=>e1 (congrArg Label.set e))] at hs
        have HS:=Lib.hid hs
        clear hs
        go_wp2_with fail
        go_roundw
        case rel=>exact ⟨k+1,by omega,by go_num,by rw [HS.out];go_num,((HX.out.alloc _))⟩
        case measure=>simp [intOf];omega
    · rw [if_neg (fun e=>e0 (congrArg Label.level e))] at hs
      have HS:=Lib.hid hs
      clear hs
      go_wp2_with fail
      go_roundw
      case rel=>exact ⟨k+1,by omega,by go_num,by rw [HS.out];go_num,((HX.out.alloc _))⟩
      case measure=>simp [intOf];omega
  · have he:k=l.length:=by omega
    subst he
    go_wp2_with fail
    go_ret
    exact ⟨ret_int (by rw [List.take_length]),HW.out.trans HX.out⟩
end Go.Proofs.YtoblacfjmcpbmaaGreat
namespace Go.Proofs.YtoblacfjmcpbmaaGreat
open Go.RowKit
def useOk (x:Use):Bool:=labelRight x.label && nameRight x.owner && isB x.used 1 100000
def useAfter (l:List Use) (k:Nat):Bool:=decide (k=0) || decide (cmpUses (nth l (k - 1)) (nth l k) < 0)
def useAt (l:List Use) (k:Nat):Bool:=useOk (nth l k) && useAfter l k && decide (ownersOf (l.take k) (nth l k).label≠6)
def usesRight (l:List Use):Bool:=decide (l.length≤48) && (List.range l.length).all (useAt l)
theorem usesRight_of {l:List Use} (h:∀ k,k < l.length→useAt l k=true):usesRight l=decide (l.length≤48):=by
 unfold usesRight
 rw [List.all_eq_true.mpr (fun k hk=>h k (List.mem_range.mp hk)),Bool.and_true]
theorem usesRight_false {l:List Use} {k:Nat} (hk:k < l.length) (h:useAt l k=false):usesRight l=false:=by
 unfold usesRight
 rw [List.all_eq_false.mpr ⟨k,List.mem_range.mpr hk,by simp [h]⟩,Bool.and_false]
theorem useAt_bad {l:List Use} {k:Nat} (h:useOk (nth l k)=false):useAt l k=false:=by simp [useAt,h]
theorem useAt_after {l:List Use} {k:Nat} (h:useAfter l k=false):useAt l k=false:=by simp [useAt,h]
theorem useAt_many {l:List Use} {k:Nat} (h:ownersOf (l.take k) (nth l k).label=6):useAt l k=false:=by simp [useAt,h]
theorem useAfter_zero (l:List Use):useAfter l 0=true:=by simp [useAfter]
theorem useAfter_succ (l:List Use) (m:Nat):useAfter l (m+1)=decide (cmpUses (nth l m) (nth l (m+1)) < 0):=by simp [useAfter]
theorem useAt_all {l:List Use} {k:Nat} (h1:labelRight (nth l k).label=true) (h2:nameRight (nth l k).owner=true) (h3:isB (nth l k).used 1 100000=true) (h4:useAfter l k=true) (h5:ownersOf (l.take k) (nth l k).label≠6):useAt l k=true:=by
 simp [useAt,useOk,h1,h2,h3,h4,h5]
theorem Rd.take {α:Type} {E:Elem α} {S:Nat→Prop} {w:World} {A:Option Addr} {n c k:Nat} {l:List α} (h:Rd E S w (.slice A n c) l) (hk:k≤l.length):Rd E S w (.slice A k c) (l.take k):=by
 obtain ⟨A',c',hv,h1,h2,hK⟩:=h
 cases hv
 refine ⟨A,c,by rw [List.length_take,Nat.min_eq_left hk],by rw [List.length_take];omega,h2,fun i x hi=>?_⟩
 exact hK i x (by rw [List.getElem?_take] at hi;split at hi <;> simp_all)
def keyOf (a:Label):Int:=8 * a.level+a.set
theorem key_inj {a b:Label} (ha:labelRight a=true) (hb:labelRight b=true) (h:keyOf a=keyOf b):a=b:=by
 simp only [labelRight,isB,Bool.and_eq_true,decide_eq_true_eq] at ha hb
 unfold keyOf at h
 apply Label.ext <;> omega
theorem useAt_less {l:List Use} {k:Nat} (h:useAt l (k+1)=true):cmpUses (nth l k) (nth l (k+1)) < 0:=by
 simp only [useAt,Bool.and_eq_true,useAfter_succ,decide_eq_true_eq] at h
 exact h.1.2
end Go.Proofs.YtoblacfjmcpbmaaGreat
