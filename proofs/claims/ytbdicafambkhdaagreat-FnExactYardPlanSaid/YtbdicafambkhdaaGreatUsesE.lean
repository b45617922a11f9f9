/- The walks of compareUses, ownersOf, l09Ord and l11Less. -/
import Derived.Test.YtbdicafambkhdaaGreatLabels
import Derived.Test.YtbdicafambkhdaaGreatShelf
import Derived.Lib.Bytealg
set_option maxHeartbeats 8000000
set_option maxRecDepth 50000
namespace Go.Proofs.YtbdicafambkhdaaGreat
open Go.Proofs.Tryz
open Go.RowKit
attribute [local irreducible] wpQuiet
def jJ (a b:Use):Int:=vW [bW a.label b.label,Lib.compareBytes a.owner.data.toList b.owner.data.toList]
theorem uo:∀ a b:List UInt8,-1≤Lib.compareBytes a b∧Lib.compareBytes a b≤1
 | [],[]=>by simp [Lib.compareBytes]
 | [],_ :: _=>by simp [Lib.compareBytes]
 | _ :: _,[]=>by simp [Lib.compareBytes]
 | a :: l,b :: m=>by
   unfold Lib.compareBytes;split
   · omega
   · split
     · omega
     · exact uo l m
theorem wF (a b:List UInt8):I64 (Lib.compareBytes a b):=by
 have:=uo a b;unfold I64;omega
theorem CX (a b:Int):-1≤mQ a b∧mQ a b≤1:=by unfold mQ;split <;> (try split) <;> omega
theorem vT (a b:Label):I64 (bW a b):=by
 have h1:=CX a.level b.level;have h2:=CX a.set b.set;unfold bW I64 vW vW vW;split <;> (try split) <;> omega
theorem rU {S S':Nat→Prop} (a b:Use) (cs ds:List Value) (w:World) (h:dX.rel S w cs a) (g:dX.rel S' w ds b) :
 Calls prog 155 #[.agg cs.toArray,.agg ds.toArray] w fun e w'=>e=.returned (.int .i64 (jJ a b))∧Ext w w':=by
 obtain ⟨rfl,hi⟩:=h;obtain ⟨rfl,gi⟩:=g;have ha:aP a.label:=⟨hi.1,hi.2.1⟩
 have hb:aP b.label:=⟨gi.1,gi.2.1⟩
 have HA:=ah ha;have HB:=ah hb;clear hi gi ha hb;simp only [kN];go_enter func155,ntmps155;go_upto_region 1 with (fail)
 obtain ⟨W,B,hW,hB,hx0,a0,b0⟩:=eY w (Ru a) (Ru b) 138 138;rw [← hW,← hB];clear hW hB;have XX:=ah hx0;have al:∀ V,Ext W V→∀ i,V.cell? ⟨B,i,none⟩=_:=fun V hx=>(a0.ext hx).cell;have bl:∀ V,Ext W V→∀ i,V.cell? ⟨B+1,i,none⟩=_:=fun V hx=>(b0.ext hx).cell;clear hx0 a0 b0;go_region_held3 (fun w'=>Ext W w') (first | exact (Ext.refl _).drew | assumption | exact Ext.alloc (by assumption) _ | exact Ext.trans (by assumption) jO | exact Ext.trans (by assumption) eu) (first | (go_at_call 117;(refine (qg (S:=fun _=>True) (S':=fun _=>True) a.label b.label _ _ _ (aC HA.out) (aC HB.out)).mono ?_);rintro e w8 ⟨rfl,eu⟩) | (go_at_call 238;refine (Tryz.strings_Compare _ _ _).mono ?_;rintro e w1 ⟨rfl,rfl⟩) | (go_at_call 215;refine (ad6 [bW a.label b.label,Lib.compareBytes a.owner.data.toList b.owner.data.toList] _ _ (Tt _ _ _ _ (vT _ _) (wF _ _))).mono ?_;rintro e w9 ⟨rfl,jO⟩));all_goals
  clear al bl;go_wp2_with fail;go_ret;exact ⟨rfl,XX.out.trans (by assumption)⟩
theorem gu (l s:Int) (w:World) (hl:jG l 0 3=true) (hs:jG s 0 7=true) :
 Calls prog 35 #[.agg #[.int .i64 l,.int .i64 s]] w fun e w'=>e=.returned (.int .i64 (8 * l+s))∧Ext w w':=by
 simp only [jG,decide_eq_true_eq] at hl hs;go_enter func35,ntmps35;go_wp2_with fail;go_ret;exact ⟨aI (by omega),(Ext.refl _).alloc _⟩
theorem bytesLess_eq:∀ a b:List UInt8,Op.bytesLess a b=decide (Lib.compareBytes a b < 0)
 | [],[]=>by simp [Op.bytesLess,Lib.compareBytes]
 | [],_ :: _=>by simp [Op.bytesLess,Lib.compareBytes]
 | _ :: _,[]=>by simp [Op.bytesLess,Lib.compareBytes]
 | a :: l,b :: m=>by
   unfold Op.bytesLess Lib.compareBytes;rw [bytesLess_eq l m];by_cases h:a < b
   · simp [h]
   · by_cases h':b < a
     · have hn:a≠b:=fun e=>by subst e;exact h h'
       simp [h,h',hn]
     · have hn:a=b:=UInt8.le_antisymm (UInt8.not_lt.mp h') (UInt8.not_lt.mp h);simp [hn]
theorem toList_data (a:ByteArray):a.toList=a.data.toList:=ByteArray.toList_eq a
theorem abZ (x:Label) (a b:ByteArray) (m n:Int):decide (jJ ⟨x,a,m⟩ ⟨x,b,n⟩ < 0)=Op.bytesLess a.toList b.toList:=by
 have h:bW x x=0:=by simp [bW,vW,mQ]
 rw [bytesLess_eq,toList_data,toList_data];simp only [jJ,h,vW,if_true];split <;> simp_all
theorem MJ {x y:Label} (a b:ByteArray) (m n:Int) (hx:aA x=true) (hy:aA y=true) (hne:x≠y):decide (jJ ⟨x,a,m⟩ ⟨y,b,n⟩ < 0)=decide (8 * x.level+x.set < 8 * y.level+y.set):=by
 obtain ⟨l,s⟩:=x;obtain ⟨l',s'⟩:=y;simp only [aA,jG,Bool.and_eq_true,decide_eq_true_eq] at hx hy;simp only [ne_eq,Label.mk.injEq,not_and] at hne;simp only [jJ,bW,mQ,vW];by_cases h:l=l'
 · subst h;have:=hne rfl;simp only [Int.lt_irrefl,if_false,if_true];by_cases h2:s < s'
   · simp [h2]
   · have h3:s' < s:=by omega
     simp [h2,h3]
 · by_cases h2:l < l'
   · simp only [h2,if_true];simp;omega
   · have h3:l' < l:=by omega
     simp only [h2,h3,if_false,if_true];simp;omega
theorem rJ {S S':Nat→Prop} (a b:Use) (cs ds:List Value) (w:World) (h:dX.rel S w cs a) (g:dX.rel S' w ds b) (hl:aA a.label=true) (hm:aA b.label=true) :
 Calls prog 142 #[.agg cs.toArray,.agg ds.toArray] w fun e w'=>e=.returned (.bool (decide (jJ a b < 0)))∧Ext w w':=by
 obtain ⟨rfl,hi⟩:=h;obtain ⟨rfl,gi⟩:=g;clear hi gi;obtain ⟨⟨l,s⟩,o,u⟩:=a;obtain ⟨⟨m,t⟩,p,v⟩:=b;have hl':=hl;have hm':=hm;simp only [aA,Bool.and_eq_true] at hl' hm';have HA:=ah hl';have HB:=ah hm';clear hl' hm';simp only [kN];by_cases he:(⟨l,s⟩:Label)=⟨m,t⟩
 · obtain ⟨rfl,rfl⟩:=by simpa using he
   have HE:=ah (abZ ⟨l,s⟩ o p u v);clear he hl hm;go_enter func142,ntmps142;go_wp2_with fail;go_ret;exact ⟨au HE.out.symm,((Ext.refl _).alloc _).alloc _⟩
 · have HE:=ah (MJ o p u v hl hm he);simp only [Label.mk.injEq,not_and] at he;clear hl hm;by_cases h1:l=m
   · subst h1;have h2:=he rfl;clear he;go_enter func142,ntmps142;go_wp2_with fail;obtain ⟨W,B,hW,hB,hx0,a0,b0⟩:=eY w #[.int .i64 l,.int .i64 s,.string o,.int .i64 u] #[.int .i64 l,.int .i64 t,.string p,.int .i64 v] 138 138;rw [← hW,← hB];clear hW hB;have XX:=ah hx0;have al:∀ V,Ext W V→∀ i,V.cell? ⟨B,i,none⟩=_:=fun V hx=>(a0.ext hx).cell;have bl:∀ V,Ext W V→∀ i,V.cell? ⟨B+1,i,none⟩=_:=fun V hx=>(b0.ext hx).cell;clear hx0 a0 b0;go_region_held3 (fun w'=>Ext W w') (first | exact Ext.refl _ | exact (Ext.refl _).drew | assumption | exact Ext.trans (by assumption) jO | exact Ext.trans (by assumption) eu) (first | (go_at_call 35;(refine (gu l s _ HA.out.1 HA.out.2).mono ?_);rintro e w8 ⟨rfl,eu⟩) | (go_at_call 35;(refine (gu l t _ HB.out.1 HB.out.2).mono ?_);rintro e w9 ⟨rfl,jO⟩));all_goals
      clear al bl;go_wp2_with fail;go_ret;exact ⟨au (by rw [HE.out];first | done | exact decide_eq_decide.mpr (by omega)),XX.out.trans (by assumption)⟩
   · clear he;go_enter func142,ntmps142;go_wp2_with fail;obtain ⟨W,B,hW,hB,hx0,a0,b0⟩:=eY w #[.int .i64 l,.int .i64 s,.string o,.int .i64 u] #[.int .i64 m,.int .i64 t,.string p,.int .i64 v] 138 138;rw [← hW,← hB];clear hW hB;have XX:=ah hx0;have al:∀ V,Ext W V→∀ i,V.cell? ⟨B,i,none⟩=_:=fun V hx=>(a0.ext hx).cell;have bl:∀ V,Ext W V→∀ i,V.cell? ⟨B+1,i,none⟩=_:=fun V hx=>(b0.ext hx).cell;clear hx0 a0 b0;go_region_held3 (fun w'=>Ext W w') (first | exact Ext.refl _ | exact (Ext.refl _).drew | assumption | exact Ext.trans (by assumption) jO | exact Ext.trans (by assumption) eu) (first | (go_at_call 35;(refine (gu l s _ HA.out.1 HA.out.2).mono ?_);rintro e w8 ⟨rfl,eu⟩) | (go_at_call 35;(refine (gu m t _ HB.out.1 HB.out.2).mono ?_);rintro e w9 ⟨rfl,jO⟩));all_goals
      clear al bl;go_wp2_with fail;go_ret;exact ⟨au (by rw [HE.out];first | done | exact decide_eq_decide.mpr (by omega)),XX.out.trans (by assumption)⟩
end Go.Proofs.YtbdicafambkhdaaGreat
/- The walk of ownersOf. UsesRight as plain Lean. -/
namespace Go.Proofs.YtbdicafambkhdaaGreat
open Go.Proofs.Tryz
open Go.RowKit
attribute [local irreducible] wpQuiet
def dn (l:List Use) (a:Label):Nat:=l.countP fun x=>decide (x.label=a)
theorem oP {l:List Use} {a:Label} {k:Nat} (hk:k < l.length):dn (l.take (k+1)) a=dn (l.take k) a+if (nth l k).label=a then 1 else 0:=by
 have h:l.take (k+1)=l.take k ++ [nth l k]:=by
  rw [List.take_succ_eq_append_getElem hk,aO hk]
 rw [h];simp [dn,List.countP_append,List.countP_cons]
theorem Jb (l:List Use) (a:Label):dn l a≤l.length:=List.countP_le_length
theorem xK {S S':Nat→Prop} (l:List Use) (a:Label) (v:Value) (cs:List Value) (w:World) (h:Rd dX S w v l) (g:aH.rel S' w cs a) :
 Calls prog 153 #[v,.agg cs.toArray] w fun e w'=>e=.returned (.int .i64 (dn l a))∧Ext w w':=by
 obtain ⟨rfl,hi⟩:=g;clear hi;obtain ⟨A,c,rfl,h1,h2,hk⟩:=h.open_;unfold maxLen at h2;have HK:=ah hk;clear hk h;simp only [aQ];go_enter func153,ntmps153;go_wp2_with fail;obtain ⟨W,B,aX,aT,jF,aG⟩:=fH w (Rl a) 47;rw [← aX,← aT];have b0:=aG 0 _ rfl;have b1:=aG 1 _ rfl;clear aX aT aG;have HB0:=ah b0;have HB1:=ah b1;have HW:=ah jF;clear b0 b1 jF;go_loopw [5,10] (fun n i w'=>∃ k:Nat,k≤l.length∧i=.int .i64 k∧n=.int .i64 (dn (l.take k) a)∧Ext W w') (fun _ i _=>l.length - (intOf i).toNat);case atStart=>exact ⟨0,by omega,rfl,rfl,Ext.refl _⟩
 case round =>
  obtain ⟨k,hk1,rfl,rfl,hx⟩:=hrel;have HX:=ah hx;by_cases hlt:k < l.length
  · obtain ⟨b,o,cs,rfl,_,⟨rfl,_⟩,hc⟩:=HK.out k hlt;have hxx:=HW.out.trans hx;have c0:=Ext.some hxx (hc 0 _ rfl);have c1:=Ext.some hxx (hc 1 _ rfl);have c2:=Ext.some hxx (hc 2 _ rfl);have c3:=Ext.some hxx (hc 3 _ rfl);simp only [dX,Nat.add_zero] at c0 c1 c2 c3;have d0:=fun o:Obj=>Ext.some (hx.alloc o) HB0.out;have d1:=fun o:Obj=>Ext.some (hx.alloc o) HB1.out;have hs:=oP (a:=a) hlt;have hle:dn (l.take k) a < 2 ^ 63 - 1:=by have:=Jb (l.take k) a;have:=List.length_take_le k l;omega
    clear hc hx hxx;generalize hn:dn (l.take k) a=n at *;have HN:=ah hn;clear hn;by_cases e0:(nth l k).label.level=a.level
    · by_cases e1:(nth l k).label.set=a.set
      · rw [if_pos (Label.ext e0 e1)] at hs;have HS:=ah hs;clear hs;go_wp2_with fail;go_roundw;case rel=>exact ⟨k+1,by omega,by go_num,by rw [HS.out];go_num,((HX.out.alloc _))⟩
        case measure=>simp [intOf];omega
      · rw [if_neg (fun e=>e1 (congrArg Label.set e))] at hs;have HS:=ah hs;clear hs;go_wp2_with fail;go_roundw;case rel=>exact ⟨k+1,by omega,by go_num,by rw [HS.out];go_num,((HX.out.alloc _))⟩
        case measure=>simp [intOf];omega
    · rw [if_neg (fun e=>e0 (congrArg Label.level e))] at hs;have HS:=ah hs;clear hs;go_wp2_with fail;go_roundw;case rel=>exact ⟨k+1,by omega,by go_num,by rw [HS.out];go_num,((HX.out.alloc _))⟩
      case measure=>simp [intOf];omega
  · have he:k=l.length:=by omega
    subst he;go_wp2_with fail;go_ret;exact ⟨aI (by rw [List.take_length]),HW.out.trans HX.out⟩
end Go.Proofs.YtbdicafambkhdaaGreat
namespace Go.Proofs.YtbdicafambkhdaaGreat
open Go.Proofs.Tryz
open Go.RowKit
def uP (x:Use):Bool:=aA x.label && je x.owner && jG x.used 1 100000
def useAfter (l:List Use) (k:Nat):Bool:=decide (k=0) || decide (jJ (nth l (k - 1)) (nth l k) < 0)
def mP (l:List Use) (k:Nat):Bool:=uP (nth l k) && useAfter l k && decide (dn (l.take k) (nth l k).label≠6)
def bF (l:List Use):Bool:=decide (l.length≤48) && (List.range l.length).all (mP l)
theorem yh {l:List Use} (h:∀ k,k < l.length→mP l k=true):bF l=decide (l.length≤48):=by
 unfold bF;rw [List.all_eq_true.mpr (fun k hk=>h k (List.mem_range.mp hk)),Bool.and_true]
theorem dI {l:List Use} {k:Nat} (hk:k < l.length) (h:mP l k=false):bF l=false:=by
 unfold bF;rw [List.all_eq_false.mpr ⟨k,List.mem_range.mpr hk,by simp [h]⟩,Bool.and_false]
theorem nY {l:List Use} {k:Nat} (h:uP (nth l k)=false):mP l k=false:=by simp [mP,h]
theorem zT {l:List Use} {k:Nat} (h:useAfter l k=false):mP l k=false:=by simp [mP,h]
theorem DV {l:List Use} {k:Nat} (h:dn (l.take k) (nth l k).label=6):mP l k=false:=by simp [mP,h]
theorem wo (l:List Use):useAfter l 0=true:=by simp [useAfter]
theorem lq (l:List Use) (m:Nat):useAfter l (m+1)=decide (jJ (nth l m) (nth l (m+1)) < 0):=by simp [useAfter]
theorem tZ {l:List Use} {k:Nat} (h1:aA (nth l k).label=true) (h2:je (nth l k).owner=true) (h3:jG (nth l k).used 1 100000=true) (h4:useAfter l k=true) (h5:dn (l.take k) (nth l k).label≠6):mP l k=true:=by
 simp [mP,uP,h1,h2,h3,h4,h5]
theorem Rd.take {α:Type} {E:Elem α} {S:Nat→Prop} {w:World} {A:Option Addr} {n c k:Nat} {l:List α} (h:Rd E S w (.slice A n c) l) (hk:k≤l.length):Rd E S w (.slice A k c) (l.take k):=by
 obtain ⟨A',c',hv,h1,h2,hK⟩:=h;cases hv;refine ⟨A,c,by rw [List.length_take,Nat.min_eq_left hk],by rw [List.length_take];omega,h2,fun i x hi=>?_⟩;exact hK i x (by rw [List.getElem?_take] at hi;split at hi <;> simp_all)
def keyOf (a:Label):Int:=8 * a.level+a.set
theorem key_inj {a b:Label} (ha:aA a=true) (hb:aA b=true) (h:keyOf a=keyOf b):a=b:=by
 simp only [aA,jG,Bool.and_eq_true,decide_eq_true_eq] at ha hb;unfold keyOf at h;apply Label.ext <;> omega
theorem adV {x y:Use} (hx:aA x.label=true) (hy:aA y.label=true) (h:jJ x y < 0):keyOf x.label≤keyOf y.label:=by
 by_cases he:x.label=y.label
 · rw [he];exact Int.le_refl _
 · obtain ⟨a,o,n⟩:=x;obtain ⟨b,p,m⟩:=y;have hh:=MJ o p n m hx hy he;rw [decide_eq_true h] at hh;have h8:=of_decide_eq_true hh.symm;simp only [keyOf] at h8 ⊢;omega
theorem vM {l:List Use} {k:Nat} (h:mP l k=true):aA (nth l k).label=true:=by
 simp only [mP,uP,Bool.and_eq_true] at h;exact h.1.1.1.1
theorem aaH {l:List Use} {k:Nat} (h:mP l (k+1)=true):jJ (nth l k) (nth l (k+1)) < 0:=by
 simp only [mP,Bool.and_eq_true,lq,decide_eq_true_eq] at h;exact h.1.2
theorem keys_le {l:List Use} {k:Nat} (h:∀ j,j < k+1→mP l j=true):∀ j,j < k+1→keyOf (nth l j).label≤keyOf (nth l k).label:=by
 induction k with
 | zero=>intro j hj;obtain rfl:j=0:=by omega
         exact Int.le_refl _
 | succ k ih =>
   intro j hj;have hs:=adV (vM (h k (by omega))) (vM (h (k+1) (by omega))) (aaH (h (k+1) (by omega)));rcases Nat.lt_or_ge j (k+1) with h1 | h1
   · exact Int.le_trans (ih (fun i hi=>h i (by omega)) j h1) hs
   · obtain rfl:j=k+1:=by omega
     exact Int.le_refl _
theorem S9 {l:List Use} {m:Nat} (hm:m+1 < l.length) (h:∀ j,j < m+1→mP l j=true) (hl:aA (nth l (m+1)).label=true) (hc:jJ (nth l m) (nth l (m+1)) < 0) (hne:(nth l m).label≠(nth l (m+1)).label):dn (l.take (m+1)) (nth l (m+1)).label=0:=by
 unfold dn;rw [List.countP_eq_zero];intro x hx;obtain ⟨j,hj,rfl⟩:=List.getElem_of_mem hx;rw [List.length_take] at hj;rw [List.getElem_take,← aO];intro he;have he:=of_decide_eq_true he;have h1:=keys_le h j (by omega);have hlm:=vM (h m (by omega));have h2:=adV hlm hl hc;rw [he] at h1;exact hne (key_inj hlm hl (by omega))
end Go.Proofs.YtbdicafambkhdaaGreat
/- The walk of spec.UsesRight. -/
namespace Go.Proofs.YtbdicafambkhdaaGreat
open Go.Proofs.Tryz
open Go.RowKit
attribute [local irreducible] wpQuiet
def sameAt (l:List Use):Nat→Nat
 | 0=>0
 | m+1=>dn (l.take (m+1)) (nth l m).label
theorem aco {l:List Use} {m:Nat} (hm:m+1 < l.length) (he:(nth l m).label=(nth l (m+1)).label):sameAt l (m+2)=sameAt l (m+1)+1:=by
 show dn (l.take (m+1+1)) (nth l (m+1)).label=dn (l.take (m+1)) (nth l m).label+1;rw [oP hm,if_pos rfl,he]
theorem aeo {l:List Use} {m:Nat} (hm:m+1 < l.length) (h0:dn (l.take (m+1)) (nth l (m+1)).label=0):sameAt l (m+2)=1:=by
 show dn (l.take (m+1+1)) (nth l (m+1)).label=1;rw [oP hm,if_pos rfl,h0]
theorem aep {l:List Use} (hm:0 < l.length):sameAt l 1=1:=by
 show dn (l.take (0+1)) (nth l 0).label=1;rw [oP hm,if_pos rfl];simp [dn]
theorem qB {S:Nat→Prop} (l:List Use) (v:Value) (w:World) (h:Rd dX S w v l) :
 Calls prog 84 #[v] w fun e w'=>e=.returned (.bool (bF l))∧Ext w w':=by
 obtain ⟨A,c,rfl,h1,h2,hk⟩:=h.open_;unfold maxLen at h2;have HK:=ah hk;clear hk h;by_cases h48:48 < l.length
 · have HN:Hid (bF l=false):=ah (by unfold bF;rw [decide_eq_false (by omega)];rfl);go_enter func84,ntmps84;go_wp2_with fail;go_ret;exact ⟨au HN.out.symm,Ext.refl _⟩
 have h48':l.length≤48:=by omega
 clear h48;go_enter func84,ntmps84;go_wp2_with fail;go_loopw [3,4] (fun n i w'=>∃ k:Nat,k≤l.length∧i=.int .i64 k∧n=.int .i64 (sameAt l k)∧sameAt l k≤6∧(∀ j,j < k→mP l j=true)∧Ext w w') (fun _ i _=>l.length - (intOf i).toNat);case atStart=>exact ⟨0,by omega,rfl,rfl,Nat.zero_le _,fun j hj=>by omega,Ext.refl _⟩
 case round =>
  obtain ⟨k,hk1,rfl,rfl,hs6,hall,hx⟩:=hrel;have HA:=ah hall;have HX:=ah hx;clear hall;by_cases hlt:k < l.length
  · obtain ⟨b,o,cs,rfl,_,⟨rfl,hfit⟩,hc⟩:=HK.out k hlt;have HL:Hid (aP (nth l k).label):=ah ⟨hfit.1,hfit.2.1⟩;have HS:Hid (Str (nth l k).owner):=ah hfit.2.2.1;have HF0:=ah hfit;have c0:=Ext.some hx (hc 0 _ rfl);have c1:=Ext.some hx (hc 1 _ rfl);have c2:=Ext.some hx (hc 2 _ rfl);have c3:=Ext.some hx (hc 3 _ rfl);simp only [dX,Nat.add_zero] at c0 c1 c2 c3;clear hc hfit;by_cases hl:aA (nth l k).label=true
    · have HLK:=ah hl;by_cases hm:je (nth l k).owner=true
      · by_cases hu:jG (nth l k).used 1 100000=true
        · by_cases h0:0 < k
          · obtain ⟨m,rfl⟩:∃ m,k=m+1:=⟨k - 1,by omega⟩
            obtain ⟨b',o',cs',Ui,_,⟨rfl,I4⟩,hd⟩:=HK.out m (by omega);cases Ui;have FD:=ah I4;have HLM:=ah (vM (HA.out m (by omega)));have d0:=Ext.some hx (hd 0 _ rfl);have d1:=Ext.some hx (hd 1 _ rfl);have d2:=Ext.some hx (hd 2 _ rfl);have d3:=Ext.some hx (hd 3 _ rfl);simp only [dX,Nat.add_zero] at d0 d1 d2 d3;clear hd I4;have i0:(0:Int)≤(m:Int)+1:=by omega
            have i1:(m:Int)+1 < (l.length:Int):=by omega
            have i2:((m:Int)+1).toNat=m+1:=by omega
            have i3:IntKind.i64.wrap (m:Int)=(m:Int):=IntWalk.i64_in _ (by omega);have i4:m < l.length:=by omega
            by_cases hle:jJ (nth l m) (nth l (m+1)) < 0
            · have HC:=ah hle;have HU:∀ hn:dn (l.take (m+1)) (nth l (m+1)).label≠6,Hid (mP l (m+1)=true):=fun hn=>ah (tZ hl hm hu (by rw [lq];exact decide_eq_true hle) hn);by_cases he:(nth l m).label=(nth l (m+1)).label
              · have hmore:=aco hlt he;have HM:=ah hmore;have hval:sameAt l (m+1)=dn (l.take (m+1)) (nth l (m+1)).label:=by rw [← he];rfl
                have E0:Hid ((nth l m).label.level=(nth l (m+1)).label.level):=ah (by rw [he]);have E1:Hid ((nth l m).label.set=(nth l (m+1)).label.set):=ah (by rw [he]);by_cases hn:sameAt l (m+1)=6
                · have HF:Hid (bF l=false):=ah (dI hlt (DV (by rw [← hval];exact hn)));clear hmore hval he HU;go_wp2_with fail;refine ak (by kernel_rfl) (by kernel_rfl) ?_;repeat (
                   (refine wpQuiet_step (fun K hK=>?_)
                    go_simp;first
                     | (refine hK _ ?_;clear hK K)
                     | (apply Exists.intro
                        refine ⟨fun bH aj=>?_,hK _ ?_⟩
                        · have kH:=Ext.some aj c0;have mX:=Ext.some aj c1;have yI:=Ext.some aj c2;have Jy:=Ext.some aj c3;have jH:=Ext.some aj d0;have kJ:=Ext.some aj d1;have KR:=Ext.some aj d2;have XY:=Ext.some aj d3;first | exact rfl | (go_simp;done) | (go_simp;exact rfl) | (go_at_call 139;exact aJ aj (dB (S:=S) (nth l (m+1)).label _ _ (aC HL.out))) | (go_at_call 140;exact aN aj (fE _ _ HS.out)) | (go_at_call 32;exact aN aj (fG _ _ _ _)) | (go_at_call 142;exact aJ aj (rJ (S:=S) (S':=S) (nth l m) (nth l (m+1)) _ _ _ (jh FD.out) (jh HF0.out) HLM.out HLK.out))
                        clear hK K)))
                  refine wpQuiet_nil ?_;intro w1 hx1;go_wp2_with fail;have X1:=ah (HX.out.trans hx1);have c0':=Ext.some hx1 c0;have c1':=Ext.some hx1 c1;have d0':=Ext.some hx1 d0;have d1':=Ext.some hx1 d1;clear hx1 c0 c1 c2 c3 d0 d1 d2 d3
                  rename World=>V
                  have e0:=E0.out;have e1:=E1.out;refine ak (by kernel_rfl) (by kernel_rfl) ?_;repeat (
                   (refine wpQuiet_step (fun K hK=>?_)
                    go_simp;first
                     | (refine hK _ ?_;clear hK K)
                     | (apply Exists.intro
                        refine ⟨fun bH aj=>?_,hK _ ?_⟩
                        · have yt:=Ext.some aj c0';have IG:=Ext.some aj c1';have yO:=Ext.some aj d0';have yP:=Ext.some aj d1';first | exact rfl | (go_simp;done) | (go_simp;exact rfl)
                        clear hK K)))
                  refine wpQuiet_nil ?_;intro w1 hx1;go_wp2_with fail;go_ret;exact ⟨au HF.out.symm,X1.out.trans hx1⟩
                · have HV:=HU (by rw [← hval];exact hn);have hn':sameAt l (m+1) < 6:=by omega
                  clear hmore hval he HU hn hs6;generalize hq:sameAt l (m+1)=q at *;have HQ:=ah hq;clear hq;go_wp2_with fail;refine ak (by kernel_rfl) (by kernel_rfl) ?_;repeat (
                   (refine wpQuiet_step (fun K hK=>?_)
                    go_simp;first
                     | (refine hK _ ?_;clear hK K)
                     | (apply Exists.intro
                        refine ⟨fun bH aj=>?_,hK _ ?_⟩
                        · have kH:=Ext.some aj c0;have mX:=Ext.some aj c1;have yI:=Ext.some aj c2;have Jy:=Ext.some aj c3;have jH:=Ext.some aj d0;have kJ:=Ext.some aj d1;have KR:=Ext.some aj d2;have XY:=Ext.some aj d3;first | exact rfl | (go_simp;done) | (go_simp;exact rfl) | (go_at_call 139;exact aJ aj (dB (S:=S) (nth l (m+1)).label _ _ (aC HL.out))) | (go_at_call 140;exact aN aj (fE _ _ HS.out)) | (go_at_call 32;exact aN aj (fG _ _ _ _)) | (go_at_call 142;exact aJ aj (rJ (S:=S) (S':=S) (nth l m) (nth l (m+1)) _ _ _ (jh FD.out) (jh HF0.out) HLM.out HLK.out))
                        clear hK K)))
                  refine wpQuiet_nil ?_;intro w1 hx1;go_wp2_with fail;have X1:=ah (HX.out.trans hx1);have c0':=Ext.some hx1 c0;have c1':=Ext.some hx1 c1;have d0':=Ext.some hx1 d0;have d1':=Ext.some hx1 d1;clear hx1 c0 c1 c2 c3 d0 d1 d2 d3
                  rename World=>V
                  have e0:=E0.out;have e1:=E1.out;refine ak (by kernel_rfl) (by kernel_rfl) ?_;repeat (
                   (refine wpQuiet_step (fun K hK=>?_)
                    go_simp;first
                     | (refine hK _ ?_;clear hK K)
                     | (apply Exists.intro
                        refine ⟨fun bH aj=>?_,hK _ ?_⟩
                        · have yt:=Ext.some aj c0';have IG:=Ext.some aj c1';have yO:=Ext.some aj d0';have yP:=Ext.some aj d1';first | exact rfl | (go_simp;done) | (go_simp;exact rfl)
                        clear hK K)))
                  refine wpQuiet_nil ?_;intro w1 hx1;go_wp2_with fail;go_roundw;case rel=>exact ⟨m+2,by omega,by go_num,by rw [HM.out];go_num,by rw [HM.out];omega,all_succ HA.out HV.out,X1.out.trans hx1⟩
                  case measure=>simp only [intOf];(try simp);(try omega)
              · have hz:=S9 hlt HA.out hl hle he;have HV:=HU (by rw [hz];decide);have HM:=ah (aeo hlt hz);clear hz HU;by_cases e0:(nth l m).label.level=(nth l (m+1)).label.level
                · have E1:Hid (¬ (nth l m).label.set=(nth l (m+1)).label.set):=ah fun e=>he (Label.ext e0 e);have E0:=ah e0;clear he e0;go_wp2_with fail;refine ak (by kernel_rfl) (by kernel_rfl) ?_;repeat (
                   (refine wpQuiet_step (fun K hK=>?_)
                    go_simp;first
                     | (refine hK _ ?_;clear hK K)
                     | (apply Exists.intro
                        refine ⟨fun bH aj=>?_,hK _ ?_⟩
                        · have kH:=Ext.some aj c0;have mX:=Ext.some aj c1;have yI:=Ext.some aj c2;have Jy:=Ext.some aj c3;have jH:=Ext.some aj d0;have kJ:=Ext.some aj d1;have KR:=Ext.some aj d2;have XY:=Ext.some aj d3;first | exact rfl | (go_simp;done) | (go_simp;exact rfl) | (go_at_call 139;exact aJ aj (dB (S:=S) (nth l (m+1)).label _ _ (aC HL.out))) | (go_at_call 140;exact aN aj (fE _ _ HS.out)) | (go_at_call 32;exact aN aj (fG _ _ _ _)) | (go_at_call 142;exact aJ aj (rJ (S:=S) (S':=S) (nth l m) (nth l (m+1)) _ _ _ (jh FD.out) (jh HF0.out) HLM.out HLK.out))
                        clear hK K)))
                  refine wpQuiet_nil ?_;intro w1 hx1;go_wp2_with fail;have X1:=ah (HX.out.trans hx1);have c0':=Ext.some hx1 c0;have c1':=Ext.some hx1 c1;have d0':=Ext.some hx1 d0;have d1':=Ext.some hx1 d1;clear hx1 c0 c1 c2 c3 d0 d1 d2 d3
                  rename World=>V
                  have e0:=E0.out;have e1:=E1.out;refine ak (by kernel_rfl) (by kernel_rfl) ?_;repeat (
                   (refine wpQuiet_step (fun K hK=>?_)
                    go_simp;first
                     | (refine hK _ ?_;clear hK K)
                     | (apply Exists.intro
                        refine ⟨fun bH aj=>?_,hK _ ?_⟩
                        · have yt:=Ext.some aj c0';have IG:=Ext.some aj c1';have yO:=Ext.some aj d0';have yP:=Ext.some aj d1';first | exact rfl | (go_simp;done) | (go_simp;exact rfl)
                        clear hK K)))
                  refine wpQuiet_nil ?_;intro w1 hx1;go_wp2_with fail;go_roundw;case rel=>exact ⟨m+2,by omega,by go_num,by rw [HM.out];rfl,by rw [HM.out];decide,all_succ HA.out HV.out,X1.out.trans hx1⟩
                  case measure=>simp only [intOf];(try simp);(try omega)
                · have E0:=ah e0;have E1:=ah trivial;clear he e0;go_wp2_with fail;refine ak (by kernel_rfl) (by kernel_rfl) ?_;repeat (
                   (refine wpQuiet_step (fun K hK=>?_)
                    go_simp;first
                     | (refine hK _ ?_;clear hK K)
                     | (apply Exists.intro
                        refine ⟨fun bH aj=>?_,hK _ ?_⟩
                        · have kH:=Ext.some aj c0;have mX:=Ext.some aj c1;have yI:=Ext.some aj c2;have Jy:=Ext.some aj c3;have jH:=Ext.some aj d0;have kJ:=Ext.some aj d1;have KR:=Ext.some aj d2;have XY:=Ext.some aj d3;first | exact rfl | (go_simp;done) | (go_simp;exact rfl) | (go_at_call 139;exact aJ aj (dB (S:=S) (nth l (m+1)).label _ _ (aC HL.out))) | (go_at_call 140;exact aN aj (fE _ _ HS.out)) | (go_at_call 32;exact aN aj (fG _ _ _ _)) | (go_at_call 142;exact aJ aj (rJ (S:=S) (S':=S) (nth l m) (nth l (m+1)) _ _ _ (jh FD.out) (jh HF0.out) HLM.out HLK.out))
                        clear hK K)))
                  refine wpQuiet_nil ?_;intro w1 hx1;go_wp2_with fail;have X1:=ah (HX.out.trans hx1);have c0':=Ext.some hx1 c0;have c1':=Ext.some hx1 c1;have d0':=Ext.some hx1 d0;have d1':=Ext.some hx1 d1;clear hx1 c0 c1 c2 c3 d0 d1 d2 d3
                  rename World=>V
                  have e0:=E0.out;have e1:=E1.out;refine ak (by kernel_rfl) (by kernel_rfl) ?_;repeat (
                   (refine wpQuiet_step (fun K hK=>?_)
                    go_simp;first
                     | (refine hK _ ?_;clear hK K)
                     | (apply Exists.intro
                        refine ⟨fun bH aj=>?_,hK _ ?_⟩
                        · have yt:=Ext.some aj c0';have IG:=Ext.some aj c1';have yO:=Ext.some aj d0';have yP:=Ext.some aj d1';first | exact rfl | (go_simp;done) | (go_simp;exact rfl)
                        clear hK K)))
                  refine wpQuiet_nil ?_;intro w1 hx1;go_wp2_with fail;go_roundw;case rel=>exact ⟨m+2,by omega,by go_num,by rw [HM.out];rfl,by rw [HM.out];decide,all_succ HA.out HV.out,X1.out.trans hx1⟩
                  case measure=>simp only [intOf];(try simp);(try omega)
            · have HF:Hid (bF l=false):=ah (dI hlt (zT (by rw [lq];exact decide_eq_false hle)));have e9:decide (jJ (nth l m) (nth l (m+1)) < 0)=false:=decide_eq_false hle;clear hle;go_wp2_with fail;refine ak (by kernel_rfl) (by kernel_rfl) ?_;repeat (
               (refine wpQuiet_step (fun K hK=>?_)
                go_simp;first
                 | (refine hK _ ?_;clear hK K)
                 | (apply Exists.intro
                    refine ⟨fun bH aj=>?_,hK _ ?_⟩
                    · have kH:=Ext.some aj c0;have mX:=Ext.some aj c1;have yI:=Ext.some aj c2;have Jy:=Ext.some aj c3;have jH:=Ext.some aj d0;have kJ:=Ext.some aj d1;have KR:=Ext.some aj d2;have XY:=Ext.some aj d3;first | exact rfl | (go_simp;done) | (go_simp;exact rfl) | (go_at_call 139;exact aJ aj (dB (S:=S) (nth l (m+1)).label _ _ (aC HL.out))) | (go_at_call 140;exact aN aj (fE _ _ HS.out)) | (go_at_call 32;exact aN aj (fG _ _ _ _)) | (go_at_call 142;exact aJ aj (rJ (S:=S) (S':=S) (nth l m) (nth l (m+1)) _ _ _ (jh FD.out) (jh HF0.out) HLM.out HLK.out))
                    clear hK K)))
              refine wpQuiet_nil ?_;intro w1 hx1;go_wp2_with fail;go_ret;exact ⟨au HF.out.symm,HX.out.trans hx1⟩
          · obtain rfl:k=0:=by omega
            have HV:Hid (mP l 0=true):=ah (tZ hl hm hu (wo l) (by simp [dn]));have HM:=ah (aep hlt);simp only [Nat.zero_mul,Nat.add_zero] at c0 c1 c2 c3;go_wp2_with fail;refine ak (by kernel_rfl) (by kernel_rfl) ?_;repeat (
             (refine wpQuiet_step (fun K hK=>?_)
              go_simp;first
               | (refine hK _ ?_;clear hK K)
               | (apply Exists.intro
                  refine ⟨fun bH aj=>?_,hK _ ?_⟩
                  · have kH:=Ext.some aj c0;have mX:=Ext.some aj c1;have yI:=Ext.some aj c2;have Jy:=Ext.some aj c3;first | exact rfl | (go_simp;done) | (go_simp;exact rfl) | (go_at_call 139;exact aJ aj (dB (S:=S) (nth l 0).label _ _ (aC HL.out))) | (go_at_call 140;exact aN aj (fE _ _ HS.out)) | (go_at_call 32;exact aN aj (fG _ _ _ _))
                  clear hK K)))
            refine wpQuiet_nil ?_;intro w1 hx1;go_wp2_with fail;have X1:=ah (HX.out.trans hx1);have c0':=Ext.some hx1 c0;have c1':=Ext.some hx1 c1;clear hx1 c0 c1 c2 c3
            rename World=>V
            refine ak (by kernel_rfl) (by kernel_rfl) ?_;repeat (
             (refine wpQuiet_step (fun K hK=>?_)
              go_simp;first
               | (refine hK _ ?_;clear hK K)
               | (apply Exists.intro
                  refine ⟨fun bH aj=>?_,hK _ ?_⟩
                  · have yt:=Ext.some aj c0';have IG:=Ext.some aj c1';first | exact rfl | (go_simp;done) | (go_simp;exact rfl)
                  clear hK K)))
            refine wpQuiet_nil ?_;intro w1 hx1;go_wp2_with fail;go_roundw;case rel=>exact ⟨1,by omega,by go_num,by rw [HM.out];rfl,by rw [HM.out];decide,all_succ HA.out HV.out,X1.out.trans hx1⟩
            case measure=>simp only [intOf];(try simp);(try omega)
        · have HF:Hid (bF l=false):=ah (dI hlt (nY (by simp [uP,hu])));simp only [Bool.not_eq_true] at hu;go_wp2_with fail;refine ak (by kernel_rfl) (by kernel_rfl) ?_;repeat (
           (refine wpQuiet_step (fun K hK=>?_)
            go_simp;first
             | (refine hK _ ?_;clear hK K)
             | (apply Exists.intro
                refine ⟨fun bH aj=>?_,hK _ ?_⟩
                · have kH:=Ext.some aj c0;have mX:=Ext.some aj c1;have yI:=Ext.some aj c2;have Jy:=Ext.some aj c3;first | exact rfl | (go_simp;done) | (go_simp;exact rfl) | (go_at_call 139;exact aJ aj (dB (S:=S) (nth l k).label _ _ (aC HL.out))) | (go_at_call 140;exact aN aj (fE _ _ HS.out)) | (go_at_call 32;exact aN aj (fG _ _ _ _))
                clear hK K)))
          refine wpQuiet_nil ?_;intro w1 hx1;go_wp2_with fail;go_ret;exact ⟨au HF.out.symm,HX.out.trans hx1⟩
      · have HF:Hid (bF l=false):=ah (dI hlt (nY (by simp [uP,hm])));simp only [Bool.not_eq_true] at hm;go_wp2_with fail;refine ak (by kernel_rfl) (by kernel_rfl) ?_;repeat (
         (refine wpQuiet_step (fun K hK=>?_)
          go_simp;first
           | (refine hK _ ?_;clear hK K)
           | (apply Exists.intro
              refine ⟨fun bH aj=>?_,hK _ ?_⟩
              · have kH:=Ext.some aj c0;have mX:=Ext.some aj c1;have yI:=Ext.some aj c2;have Jy:=Ext.some aj c3;first | exact rfl | (go_simp;done) | (go_simp;exact rfl) | (go_at_call 139;exact aJ aj (dB (S:=S) (nth l k).label _ _ (aC HL.out))) | (go_at_call 140;exact aN aj (fE _ _ HS.out)) | (go_at_call 32;exact aN aj (fG _ _ _ _))
              clear hK K)))
        refine wpQuiet_nil ?_;intro w1 hx1;go_wp2_with fail;go_ret;exact ⟨au HF.out.symm,HX.out.trans hx1⟩
    · have HF:Hid (bF l=false):=ah (dI hlt (nY (by simp [uP,hl])));simp only [Bool.not_eq_true] at hl;go_wp2_with fail;refine ak (by kernel_rfl) (by kernel_rfl) ?_;repeat (
       (refine wpQuiet_step (fun K hK=>?_)
        go_simp;first
         | (refine hK _ ?_;clear hK K)
         | (apply Exists.intro
            refine ⟨fun bH aj=>?_,hK _ ?_⟩
            · have kH:=Ext.some aj c0;have mX:=Ext.some aj c1;have yI:=Ext.some aj c2;have Jy:=Ext.some aj c3;first | exact rfl | (go_simp;done) | (go_simp;exact rfl) | (go_at_call 139;exact aJ aj (dB (S:=S) (nth l k).label _ _ (aC HL.out))) | (go_at_call 140;exact aN aj (fE _ _ HS.out)) | (go_at_call 32;exact aN aj (fG _ _ _ _))
            clear hK K)))
      refine wpQuiet_nil ?_;intro w1 hx1;go_wp2_with fail;go_ret;exact ⟨au HF.out.symm,HX.out.trans hx1⟩
  · have HF:Hid (bF l=true):=ah (by rw [yh fun i hi=>HA.out i (by omega)];exact decide_eq_true h48');go_wp2_with fail;go_ret;exact ⟨au HF.out.symm,HX.out⟩
end Go.Proofs.YtbdicafambkhdaaGreat
