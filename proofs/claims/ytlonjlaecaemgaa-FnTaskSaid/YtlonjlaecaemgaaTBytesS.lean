/- TaskOf in plain Lean. The bytes of a number, in plain Lean. The walk of the program's PutNum. The walk of the reference's PutNum. The walks of PutText and putNums. The walks of TaskBytes, the program's. The walk of the reference's TaskBytes. Printed by wip/tbs.py. -/
import Derived.Test.YtlonjlaecaemgaaTasksP
import Derived.Test.YtlonjlaecaemgaaTRight
import Derived.Test.YtlonjlaecaemgaaOwn2
import Derived.Laws.IdiomStrings
import Derived.Laws.BytesArg
import Derived.Test.YtlonjlaecaemgaaRows
import Derived.Laws.BitsAllLaws
import Derived.Test.YtlonjlaecaemgaaSmall
import Derived.Test.YtlonjlaecaemgaaTaskRI
import Derived.Deep.RegionHeld3
import Derived.Test.YtlonjlaecaemgaaTaskRS
set_option maxHeartbeats 16000000
set_option maxRecDepth 100000
namespace Go.Proofs.Ytlonjlaecaemgaa
def noTask:Task:=⟨⟨0,0⟩,0,⟨#[]⟩,0,0,0,⟨0,0⟩,0,0,0,0,[]⟩
theorem fit_noTask:FitTask noTask:=by simp [FitTask,noTask,I64,Str,ByteArray.size]
def taskOf (l:List Task) (a:Label) (n:Int):Task:=if tasksRight l=true then (if 0≤taskIx l a n then nth l (taskIx l a n).toNat else noTask) else noTask
end Go.Proofs.Ytlonjlaecaemgaa
namespace Go.Proofs.Ytlonjlaecaemgaa
open Go.RowKit
def EByte:Elem Int where
 size:=1
 rel:=fun _ _ cs x=>cs = [.int .u8 x]∧0≤x∧x < 256
 len:=by rintro _ _ _ _ ⟨rfl,_⟩;rfl
 keep:=fun _ h=>h
 sub:=fun _ h=>h
 one:=by rintro _ _ _ _ ⟨rfl,_⟩ v hv;rw [List.mem_singleton.1 hv];rfl
def OByte:Own EByte:=OFlat EByte fun h=>h
def leb (u:Nat):List Int:=if _h:u < 128 then [(u:Int)] else ((u % 128+128:Nat):Int) :: leb (u / 128)
termination_by u
decreasing_by omega
theorem leb_small {u:Nat} (h:u < 128):leb u = [(u:Int)]:=by rw [leb,dif_pos h]
theorem leb_big {u:Nat} (h:128≤u):leb u=((u % 128+128:Nat):Int) :: leb (u / 128):=by rw [leb,dif_neg (by omega)]
theorem leb_length (k:Nat):∀ u:Nat,u < 128 ^ (k+1)→(leb u).length≤k+1:=by
 induction k with
 | zero=>intro u h;rw [leb_small (by simpa using h)];simp
 | succ k ih =>
   intro u h
   rcases Nat.lt_or_ge u 128 with h1 | h1
   · rw [leb_small h1];simp
   · rw [leb_big h1,List.length_cons]
     have:=ih (u / 128) (by rw [Nat.div_lt_iff_lt_mul (by decide)];rwa [Nat.pow_succ] at h)
     omega
theorem leb_pos (u:Nat):0 < (leb u).length:=by
 rcases Nat.lt_or_ge u 128 with h | h
 · rw [leb_small h];simp
 · rw [leb_big h];simp
def zig (n:Int):Nat:=if n < 0 then (2 * (-(n+1))+1).toNat else (2 * n).toNat
theorem zig_lt {n:Int} (h:I64 n):zig n < 18446744073709551616:=by
 unfold I64 at h
 unfold zig
 split <;> omega
def putNum (n:Int):ByteArray:=strOfNums (leb (zig n))
theorem putNum_size {n:Int} (h:I64 n):(putNum n).size≤10:=by
 unfold putNum
 rw [strOfNums_size]
 exact leb_length 9 _ (Nat.lt_trans (zig_lt h) (by decide))
def putText (t:ByteArray):ByteArray:=if 8000 < t.size then ⟨#[]⟩ else putNum t.size ++ t
def putNumsFrom (a:ByteArray):List Int→ByteArray
 | []=>a
 | x :: l=>putNumsFrom (a ++ putNum x) l
end Go.Proofs.Ytlonjlaecaemgaa
namespace Go.Proofs.Ytlonjlaecaemgaa
open Go.RowKit
attribute [local irreducible] wpQuiet
theorem zig_bits {n:Int} (h:I64 n):bits .xor .u64 (IntKind.u64.wrap (wrap64 (n * 2))) (IntKind.u64.wrap (n / 9223372036854775808))=(zig n:Int):=by
 obtain ⟨h1,h2⟩:=h
 have hw:IntKind.u64.wrap (wrap64 (n * 2))=(n * 2) % 18446744073709551616:=by
  rw [IntKind.wrap_u64]
  unfold wrap64
  omega
 show IntKind.u64.wrap ((BitVec.ofInt 64 (IntKind.u64.wrap (wrap64 (n * 2))) ^^^ BitVec.ofInt 64 (IntKind.u64.wrap (n / 9223372036854775808))).toNat:Int)=_
 rw [hw,IntKind.wrap_u64,IntKind.wrap_u64]
 rcases Int.lt_or_le n 0 with h0 | h0
 · have e:n / 9223372036854775808 = -1:=by omega
   have e2:BitVec.ofInt 64 ((-1:Int) % 18446744073709551616)=BitVec.allOnes 64:=by decide
   rw [e,e2,BitVec.xor_allOnes,BitVec.toNat_not,BitVec.toNat_ofInt]
   have e3:(2:Nat) ^ 64=18446744073709551616:=by decide
   rw [e3]
   unfold zig
   rw [if_pos h0]
   omega
 · have e:n / 9223372036854775808=0:=by omega
   have e2:BitVec.ofInt 64 ((0:Int) % 18446744073709551616)=0#64:=by decide
   rw [e,e2,BitVec.xor_zero,BitVec.toNat_ofInt]
   have e3:(2:Nat) ^ 64=18446744073709551616:=by decide
   rw [e3]
   unfold zig
   rw [if_neg (by omega)]
   omega
theorem or_bits (x:Nat) (h:x < 256):bits .or .u8 (x:Int) 128=((x % 128+128:Nat):Int):=by
 have:∀ y:Fin 256,bits .or .u8 ((y.val:Nat):Int) 128=((y.val % 128+128:Nat):Int):=by decide +kernel
 exact this ⟨x,h⟩
theorem or_byte (u:Nat):bits .or .u8 ((u:Int) % 256) 128=((u % 128+128:Nat):Int):=by
 have:=or_bits (u % 256) (Nat.mod_lt _ (by decide))
 rw [show ((u % 256:Nat):Int)=(u:Int) % 256 from by omega] at this
 rw [this]
 omega
theorem conv_ow {w:World} {v:Value} {l:List Int} {F:List Nat} (h:OwS OByte 5 w v l F) (h0:l≠[]):(convert 22 9 v).run Try.prog w=.ok (.string (strOfNums l)) w:=by
 rcases h with ⟨rfl,_⟩ | ⟨B,c,C,Fs,rfl,hB,h1,h2,h3,hl,rfl,hn,hall⟩
 · exact absurd rfl h0
 · refine run_convert_bytes_arg _ 22 5 Try.underlying22 Try.underlying5 B 0 l.length c l rfl (fun i hi=>?_) 9 Try.underlying9
   obtain ⟨cs,⟨⟨rfl,_⟩,_⟩,hc⟩:=hall i hi
   have:=hc 0 _ rfl
   rw [nth_eq hi] at this
   simpa [EByte,List.getElem?_eq_getElem hi] using this
theorem putNum_any (n:Int) (w:World) (hn:I64 n) :
 Calls Try.prog 63 #[.int .i64 n] w fun e w'=>e=.returned (.string (putNum n))∧Ext w w':=by
 have HZ:=Lib.hid (zig_lt hn)
 have HL:=Lib.hid (leb_length 9 _ (Nat.lt_trans (zig_lt hn) (by decide)))
 have hzb:=zig_bits hn
 clear hn
 go_enter Try.func63,Try.ntmps63
 go_wp2_with fail
 clear hzb
 obtain ⟨W,B,hW,hB,hx0,b0⟩:∃ W B,W=w.alloc (.cells #[] 5)∧B=w.heap.size∧Ext w W∧Blk W B 5 #[]:=⟨_,_,rfl,rfl,(Ext.refl w).alloc _,Blk.new _ _ _⟩
 rw [← hW,← hB]
 have HB:Hid (w.heap.size≤B):=Lib.hid (by omega)
 have B0:=Lib.hid b0
 have X0:=Lib.hid hx0
 clear hW hB hx0 b0
 go_loopw [3,4] (fun a b w'=>∃ (u:Nat) (acc:List Int) (F:List Nat),b=.int .u64 (u:Int)∧u < 18446744073709551616∧acc ++ leb u=leb (zig n)∧OwS OByte 5 w' a acc F∧(∀ b∈F,w.heap.size≤b)∧Ext w w') (fun _ b _=>(intOf b).toNat)
 case atStart=>exact ⟨zig n,[],[B],rfl,HZ.out,rfl,.inr ⟨B,0,#[],[],rfl,B0.out,Nat.le_refl _,Nat.zero_le _,rfl,rfl,rfl,by simp,fun k hk=>absurd hk (Nat.not_lt_zero _)⟩,fun b hb=>by rw [List.mem_singleton.1 hb];exact HB.out,X0.out⟩
 case round =>
  obtain ⟨u,acc,F,rfl,hu,hal,hown,hF,hx⟩:=hrel
  have HO:=Lib.hid hown
  have HF:=Lib.hid hF
  have HX:=Lib.hid hx
  have HA:=Lib.hid hal
  have hacc:acc.length≤10:=by have a:=HL.out;rw [← hal,List.length_append] at a;omega
  clear hown hF hx hal
  by_cases hb:128≤u
  · have hb':(128:Int)≤(u:Int):=by omega
    have HL2:=Lib.hid (leb_big hb)
    go_wp2_with (at_builtin;refine wpList_append_one (O:=OByte) (T:=5) (l:=acc) (F:=F) (G:=[]) (y:=((u % 128+128:Nat):Int)) rfl _ _ 22 rfl (.int .u8 0) 1 1 Try.underlying22 (by kernel_rfl) rfl rfl rfl (HO.out.ext ((Ext.refl _).alloc _)) _ 0 1 rfl ⟨⟨by rw [or_byte],by omega,by omega⟩,rfl⟩ (Blk.new _ _ _).range (by simpa using HO.out.nodup) (by omega) (by decide) ?_;intro v' w9 F' how hkp hF';have HOW:=Lib.hid how;have HKP:=Lib.hid hkp;have HFF:=Lib.hid hF';clear how hkp hF')
    go_roundw
    case rel=>exact ⟨u / 128,acc ++ [((u % 128+128:Nat):Int)],F',by simp,by omega,by rw [List.append_assoc,List.singleton_append,← HL2.out];exact HA.out,HOW.out,fun b hb=>match HFF.out b hb with | .inl h=>HF.out b h | .inr (.inl h)=>absurd h (by simp) | .inr (.inr h)=>Nat.le_trans (HX.out.alloc _).size h,HKP.out.ext (HX.out.alloc _) HF.out⟩
    case measure=>simp [intOf];omega
  · have hb':(u:Int) < 128:=by omega
    have HL2:=Lib.hid (leb_small (u:=u) (by omega))
    have hm:(u:Int) % 256=(u:Int):=by omega
    go_wp2_with (at_builtin;refine wpList_append_one (O:=OByte) (T:=5) (l:=acc) (F:=F) (G:=[]) (y:=(u:Int)) rfl _ _ 22 rfl (.int .u8 0) 1 1 Try.underlying22 (by kernel_rfl) rfl rfl rfl (HO.out.ext ((Ext.refl _).alloc _)) _ 0 1 rfl ⟨⟨rfl,by omega,by omega⟩,rfl⟩ (Blk.new _ _ _).range (by simpa using HO.out.nodup) (by omega) (by decide) ?_;intro v' w9 F' how hkp hF';have HOW:=Lib.hid how;have HKP:=Lib.hid hkp;have HFF:=Lib.hid hF';have hcv:=conv_ow how (by simp);clear how hkp hF')
    go_ret
    exact ⟨by rw [show putNum n=strOfNums (acc ++ [(u:Int)]) from by rw [putNum,← HA.out,HL2.out]];rfl,HKP.out.ext (HX.out.alloc _) HF.out⟩
end Go.Proofs.Ytlonjlaecaemgaa
namespace Go.Proofs.Ytlonjlaecaemgaa
open Go.RowKit
attribute [local irreducible] wpQuiet
theorem l01Fold_any (n:Int) (w:World) (hn:I64 n):Calls Try.prog 69 #[.int .i64 n] w fun e w'=>e=.returned (.int .u64 (zig n:Int))∧Ext w w':=by
 obtain ⟨h1,h2⟩:=hn
 by_cases h0:n < 0
 · have HZ:Hid ((zig n:Int)=2 * (-(n+1))+1):=Lib.hid (by unfold zig;rw [if_pos h0];omega)
   go_enter Try.func69,Try.ntmps69
   go_wp2_with fail
   go_ret
   exact ⟨ret_int (by rw [HZ.out]),Ext.refl _⟩
 · have h0':0≤n:=by omega
   have HZ:Hid ((zig n:Int)=2 * n):=Lib.hid (by unfold zig;rw [if_neg h0];omega)
   clear h0
   go_enter Try.func69,Try.ntmps69
   go_wp2_with fail
   go_ret
   exact ⟨ret_int (by rw [HZ.out]),Ext.refl _⟩
theorem byte_big (u:Nat):((u:Int) % 128+128)=((u % 128+128:Nat):Int):=by omega
theorem specPutNum_any (n:Int) (w:World) (hn:I64 n) :
 Calls Try.prog 33 #[.int .i64 n] w fun e w'=>e=.returned (.string (putNum n))∧Ext w w':=by
 have HZ:=Lib.hid (zig_lt hn)
 have HL:=Lib.hid (leb_length 9 _ (Nat.lt_trans (zig_lt hn) (by decide)))
 have HN:=Lib.hid hn
 clear hn
 go_enter Try.func33,Try.ntmps33
 go_wp2_with fail
 refine (l01Fold_any n _ HN.out).mono ?_
 rintro e w0 ⟨rfl,hx0⟩
 have XX:=Lib.hid hx0
 clear hx0
 go_wp2_with fail
 obtain ⟨W,B,hW,hB,hx0,b0⟩:∃ W B,W=w0.alloc (.cells #[] 5)∧B=w0.heap.size∧Ext w0 W∧Blk W B 5 #[]:=⟨_,_,rfl,rfl,(Ext.refl _).alloc _,Blk.new _ _ _⟩
 rw [← hW,← hB]
 have HB:Hid (w.heap.size≤B):=Lib.hid (by have:=XX.out.size;omega)
 have B0:=Lib.hid b0
 have X0:=Lib.hid (XX.out.trans hx0)
 clear hW hB hx0 b0
 go_loopw [3,4] (fun b a w'=>∃ (u:Nat) (acc:List Int) (F:List Nat),b=.int .u64 (u:Int)∧u < 18446744073709551616∧acc ++ leb u=leb (zig n)∧OwS OByte 5 w' a acc F∧(∀ b∈F,w.heap.size≤b)∧Ext w w') (fun b _ _=>(intOf b).toNat)
 case atStart=>exact ⟨zig n,[],[B],rfl,HZ.out,rfl,.inr ⟨B,0,#[],[],rfl,B0.out,Nat.le_refl _,Nat.zero_le _,rfl,rfl,rfl,by simp,fun k hk=>absurd hk (Nat.not_lt_zero _)⟩,fun b hb=>by rw [List.mem_singleton.1 hb];exact HB.out,X0.out⟩
 case round =>
  obtain ⟨u,acc,F,rfl,hu,hal,hown,hF,hx⟩:=hrel
  have HO:=Lib.hid hown
  have HF:=Lib.hid hF
  have HX:=Lib.hid hx
  have HA:=Lib.hid hal
  have hacc:acc.length≤10:=by have a:=HL.out;rw [← hal,List.length_append] at a;omega
  clear hown hF hx hal
  by_cases hb:128≤u
  · have hb':(128:Int)≤(u:Int):=by omega
    have HL2:=Lib.hid (leb_big hb)
    go_wp2_with (at_builtin;refine wpList_append_one (O:=OByte) (T:=5) (l:=acc) (F:=F) (G:=[]) (y:=((u % 128+128:Nat):Int)) rfl _ _ 22 rfl (.int .u8 0) 1 1 Try.underlying22 (by kernel_rfl) rfl rfl rfl (HO.out.ext ((Ext.refl _).alloc _)) _ 0 1 rfl ⟨⟨by rw [byte_big],by omega,by omega⟩,rfl⟩ (Blk.new _ _ _).range (by simpa using HO.out.nodup) (by omega) (by decide) ?_;intro v' w9 F' how hkp hF';have HOW:=Lib.hid how;have HKP:=Lib.hid hkp;have HFF:=Lib.hid hF';clear how hkp hF')
    go_roundw
    case rel=>exact ⟨u / 128,acc ++ [((u % 128+128:Nat):Int)],F',by simp,by omega,by rw [List.append_assoc,List.singleton_append,← HL2.out];exact HA.out,HOW.out,fun b hb=>match HFF.out b hb with | .inl h=>HF.out b h | .inr (.inl h)=>absurd h (by simp) | .inr (.inr h)=>Nat.le_trans (HX.out.alloc _).size h,HKP.out.ext (HX.out.alloc _) HF.out⟩
    case measure=>simp [intOf];omega
  · have hb':(u:Int) < 128:=by omega
    have HL2:=Lib.hid (leb_small (u:=u) (by omega))
    have hm:(u:Int) % 256=(u:Int):=by omega
    go_wp2_with (at_builtin;refine wpList_append_one (O:=OByte) (T:=5) (l:=acc) (F:=F) (G:=[]) (y:=(u:Int)) rfl _ _ 22 rfl (.int .u8 0) 1 1 Try.underlying22 (by kernel_rfl) rfl rfl rfl (HO.out.ext ((Ext.refl _).alloc _)) _ 0 1 rfl ⟨⟨rfl,by omega,by omega⟩,rfl⟩ (Blk.new _ _ _).range (by simpa using HO.out.nodup) (by omega) (by decide) ?_;intro v' w9 F' how hkp hF';have HOW:=Lib.hid how;have HKP:=Lib.hid hkp;have HFF:=Lib.hid hF';have hcv:=conv_ow how (by simp);clear how hkp hF')
    go_ret
    exact ⟨by rw [show putNum n=strOfNums (acc ++ [(u:Int)]) from by rw [putNum,← HA.out,HL2.out]];rfl,HKP.out.ext (HX.out.alloc _) HF.out⟩
end Go.Proofs.Ytlonjlaecaemgaa
namespace Go.Proofs.Ytlonjlaecaemgaa
open Go.RowKit
attribute [local irreducible] wpQuiet
theorem bytes_assoc (a b c:ByteArray):a ++ b ++ c=a ++ (b ++ c):=by
 apply ByteArray.ext
 simp [Array.append_assoc]
theorem bytes_nil (a:ByteArray):(⟨#[]⟩:ByteArray) ++ a=a:=by
 apply ByteArray.ext
 simp
theorem from_assoc:∀ (l:List Int) (a b:ByteArray),a ++ putNumsFrom b l=putNumsFrom (a ++ b) l
 | [],_,_=>rfl
 | x :: l,a,b=>by
   simp only [putNumsFrom]
   rw [from_assoc l a (b ++ putNum x),bytes_assoc]
theorem from_app:∀ (l m:List Int) (a:ByteArray),putNumsFrom a (l ++ m)=putNumsFrom (putNumsFrom a l) m
 | [],_,_=>rfl
 | x :: l,m,a=>by simp only [List.cons_append,putNumsFrom];exact from_app l m _
theorem size_app (a b:ByteArray):(a ++ b).size=a.size+b.size:=ByteArray.size_append
theorem from_size:∀ (l:List Int) (a:ByteArray),(∀ x∈l,I64 x)→(putNumsFrom a l).size≤a.size+10 * l.length
 | [],_,_=>by simp [putNumsFrom]
 | x :: l,a,h=>by
   have h1:=from_size l (a ++ putNum x) fun y hy=>h y (List.mem_cons_of_mem _ hy)
   have h2:=putNum_size (h x (List.mem_cons_self ..))
   rw [size_app] at h1
   simp only [putNumsFrom,List.length_cons]
   omega
theorem text_size {t:ByteArray}:(putText t).size≤8010:=by
 unfold putText
 split
 · simp [ByteArray.size]
 · rename_i h
   rw [size_app]
   have:=putNum_size (n:=(t.size:Int)) (by unfold I64;omega)
   omega
theorem isLongText_any (t:ByteArray) (w:World) (_ht:t.size≤maxLen):Calls Try.prog 64 #[.string t] w fun e w'=>e=.returned (.bool (decide (8000 < t.size)))∧w=w':=by
 unfold maxLen at _ht
 go_enter Try.func64,Try.ntmps64
 go_wp2_with fail
 go_ret
 exact ⟨ret_bool (by rw [Bool.eq_iff_iff];simp;omega),rfl⟩
theorem putText_any (t:ByteArray) (w:World) (ht:Str t) :
 Calls Try.prog 24 #[.string t] w fun e w'=>e=.returned (.string (putText t))∧Ext w w':=by
 have HT:=Lib.hid ht
 unfold Str maxLen at ht
 by_cases h:8000 < t.size
 · have HE:Hid (putText t=⟨#[]⟩):=Lib.hid (by rw [putText,if_pos h])
   go_enter Try.func24,Try.ntmps24
   go_wp2_with (go_at_call 64;refine (isLongText_any _ _ HT.out).mono ?_;rintro e w' ⟨rfl,rfl⟩)
   go_ret
   exact ⟨by rw [HE.out];rfl,Ext.refl _⟩
 · have HE:Hid (putText t=putNum t.size ++ t):=Lib.hid (by rw [putText,if_neg h])
   have h':t.size≤8000:=by omega
   have HP:=putNum_size (n:=(t.size:Int)) (by unfold I64;omega)
   have HI:Hid (I64 (t.size:Int)):=Lib.hid (by unfold I64;omega)
   clear h
   go_enter Try.func24,Try.ntmps24
   go_wp2_with (first | (go_at_call 64;refine (isLongText_any _ _ HT.out).mono ?_;rintro e w' ⟨rfl,rfl⟩) | (go_at_call 63;refine (putNum_any _ _ HI.out).mono ?_;rintro e w1 ⟨rfl,hx1⟩))
   go_ret
   exact ⟨by rw [HE.out];rfl,hx1⟩
theorem specPutText_any (t:ByteArray) (w:World) (ht:Str t) :
 Calls Try.prog 34 #[.string t] w fun e w'=>e=.returned (.string (putText t))∧Ext w w':=by
 unfold Str maxLen at ht
 by_cases h:8000 < t.size
 · have HE:Hid (putText t=⟨#[]⟩):=Lib.hid (by rw [putText,if_pos h])
   go_enter Try.func34,Try.ntmps34
   go_wp2_with fail
   go_ret
   exact ⟨by rw [HE.out];rfl,Ext.refl _⟩
 · have HE:Hid (putText t=putNum t.size ++ t):=Lib.hid (by rw [putText,if_neg h])
   have h':t.size≤8000:=by omega
   have HP:=putNum_size (n:=(t.size:Int)) (by unfold I64;omega)
   have HI:Hid (I64 (t.size:Int)):=Lib.hid (by unfold I64;omega)
   clear h
   go_enter Try.func34,Try.ntmps34
   go_wp2_with (go_at_call 33;refine (specPutNum_any _ _ HI.out).mono ?_;rintro e w1 ⟨rfl,hx1⟩)
   go_ret
   exact ⟨by rw [HE.out];rfl,hx1⟩
theorem putNums_any {S:Nat→Prop} (l:List Int) (v:Value) (w:World) (h:Rd EInt S w v l) (hl:l.length≤1000) :
 Calls Try.prog 23 #[v] w fun e w'=>e=.returned (.string (putNumsFrom ⟨#[]⟩ l))∧Ext w w':=by
 obtain ⟨A,c,rfl,h1,h2,hk⟩:=h.open_
 unfold maxLen at h2
 have HK:=Lib.hid hk
 clear hk h
 go_enter Try.func23,Try.ntmps23
 go_wp2_with fail
 go_loopw [3,8] (fun s i w'=>∃ k:Nat,k≤l.length∧i=.int .i64 k∧s=.string (putNumsFrom ⟨#[]⟩ (l.take k))∧(putNumsFrom ⟨#[]⟩ (l.take k)).size≤10 * k∧Ext w w') (fun _ i _=>l.length - (intOf i).toNat)
 case atStart=>exact ⟨0,by omega,rfl,rfl,by simp [putNumsFrom,ByteArray.size],Ext.refl _⟩
 case round =>
  obtain ⟨k,hk1,rfl,rfl,hs,hx⟩:=hrel
  have HX:=Lib.hid hx
  by_cases hlt:k < l.length
  · obtain ⟨b,q,cs,rfl,_,⟨rfl,hi⟩,hc⟩:=HK.out k hlt
    have c0:=Ext.some hx (hc 0 _ rfl)
    simp only [EInt,Nat.add_zero,Nat.mul_one] at c0
    have HI:=Lib.hid hi
    have HP:=putNum_size hi
    have HE:Hid (putNumsFrom ⟨#[]⟩ (l.take (k+1))=putNumsFrom ⟨#[]⟩ (l.take k) ++ putNum (nth l k)):=Lib.hid (by rw [take_succ_nth hlt,from_app];rfl)
    clear hc hi hx
    go_wp2_with (go_at_call 63;refine (putNum_any _ _ HI.out).mono ?_;rintro e w1 ⟨rfl,hx1⟩;have X1:=Lib.hid hx1;clear hx1)
    refine ⟨⟨k+1,by omega,by go_num,by rw [HE.out],by rw [HE.out,size_app];omega,HX.out.trans X1.out⟩,?_⟩
    simp [intOf]
    omega
  · obtain rfl:k=l.length:=by omega
    have HE:Hid (putNumsFrom ⟨#[]⟩ (l.take l.length)=putNumsFrom ⟨#[]⟩ l):=Lib.hid (by rw [List.take_length])
    go_wp2_with fail
    go_ret
    exact ⟨by rw [← HE.out];rfl,HX.out⟩
end Go.Proofs.Ytlonjlaecaemgaa
namespace Go.Proofs.Ytlonjlaecaemgaa
open Go.RowKit
attribute [local irreducible] wpQuiet
def headNums (x:Task):List Int:=[x.label.level,x.label.set,x.id]
def restNums (x:Task):List Int:=[x.need,x.long,x.prio,x.under.level,x.under.set,x.after,x.born,x.state,x.start,(x.nodes.length:Int)]
def taskHead (x:Task):ByteArray:=putNumsFrom ⟨#[]⟩ (headNums x) ++ putText x.owner
def taskText (x:Task):ByteArray:=putNumsFrom (putNumsFrom (taskHead x) (restNums x)) x.nodes
def taskBytes (x:Task):ByteArray:=if taskRight x=true then taskText x else ⟨#[]⟩
theorem head_fit {x:Task} (h:FitTask x):∀ y∈headNums x,I64 y:=by
 obtain ⟨h1,h2,h3,_⟩:=h
 simp only [headNums,List.mem_cons,List.not_mem_nil,or_false]
 rintro y (rfl | rfl | rfl) <;> assumption
theorem rest_fit {x:Task} (h:FitTask x) (hn:x.nodes.length≤6):∀ y∈restNums x,I64 y:=by
 obtain ⟨_,_,_,_,h5,h6,h7,h8,h9,h10,h11,h12,h13⟩:=h
 simp only [restNums,List.mem_cons,List.not_mem_nil,or_false]
 have hl:I64 (x.nodes.length:Int):=by unfold I64;omega
 rintro y (rfl | rfl | rfl | rfl | rfl | rfl | rfl | rfl | rfl | rfl) <;> assumption
theorem rd_ints (T:TypeId) (V:World) (l:List Int) (cs:Array Value) (hc:cs=(l.map (Value.int .i64)).toArray) (hl:∀ x∈l,I64 x) (h:l.length≤1000):Rd EInt (fun _=>True) (V.alloc (.cells cs T)) (.slice (some ⟨V.heap.size,0,none⟩) l.length l.length) l:=by
 refine ⟨_,_,rfl,Nat.le_refl _,by unfold maxLen;omega,fun k x hk=>⟨_,0,[.int .i64 x],rfl,trivial,⟨rfl,hl x (List.mem_of_getElem? hk)⟩,fun j u hj=>?_⟩⟩
 subst hc
 obtain ⟨rfl,rfl⟩:j=0∧u=.int .i64 x:=by
  rcases j with _ | j
  · simpa using hj.symm
  · simp at hj
 rw [(Blk.new V T _).cell]
 simp [EInt,hk]
theorem taskBytes_any {S:Nat→Prop} (x:Task) (cs:List Value) (w:World) (h:ETask.rel S w cs x) :
 Calls Try.prog 5 #[.agg cs.toArray] w fun e w'=>e=.returned (.string (taskBytes x))∧Ext w w':=by
 obtain ⟨v1,rfl,hfit,hrd⟩:=h
 obtain ⟨A1,d1,rfl,-⟩:=hrd.form
 have HF:=Lib.hid hfit
 have HD:=Lib.hid hrd
 clear hfit hrd
 simp only [cellsTask]
 go_enter Try.func5,Try.ntmps5
 go_upto_region 1 with (fail)
 obtain ⟨W,B,hW,hB,hx0,b0⟩:∃ W B,W=w.alloc (.cells #[.int .i64 x.label.level,.int .i64 x.label.set,.int .i64 x.id,.string x.owner,.int .i64 x.need,.int .i64 x.long,.int .i64 x.prio,.int .i64 x.under.level,.int .i64 x.under.set,.int .i64 x.after,.int .i64 x.born,.int .i64 x.state,.int .i64 x.start,.slice A1 x.nodes.length d1] 27)∧B=w.heap.size∧Ext w W∧Blk W B 27 #[.int .i64 x.label.level,.int .i64 x.label.set,.int .i64 x.id,.string x.owner,.int .i64 x.need,.int .i64 x.long,.int .i64 x.prio,.int .i64 x.under.level,.int .i64 x.under.set,.int .i64 x.after,.int .i64 x.born,.int .i64 x.state,.int .i64 x.start,.slice A1 x.nodes.length d1]:=⟨_,_,rfl,rfl,(Ext.refl w).alloc _,Blk.new _ _ _⟩
 rw [← hW,← hB]
 have B0:=Lib.hid b0
 have X0:=Lib.hid hx0
 clear hW hB hx0 b0
 have ac:=B0.out.cell
 go_wp2_with fail
 refine (taskRight_any (S:=S) x _ _ (rel_Task HF.out (HD.out.ext X0.out))).mono ?_
 rintro e w1 ⟨rfl,hx⟩
 have X1:=Lib.hid (X0.out.trans hx)
 have B1:=Lib.hid (B0.out.ext hx)
 clear hx ac
 cases ht:taskRight x with
 | false =>
   have HE:Hid (taskBytes x=⟨#[]⟩):=Lib.hid (by rw [taskBytes,ht];rfl)
   clear ht
   go_wp2_with fail
   go_ret
   exact ⟨by rw [HE.out];rfl,X1.out⟩
 | true =>
   have HE:Hid (taskBytes x=taskText x):=Lib.hid (by rw [taskBytes,if_pos ht])
   have hn6:=taskRight_nodes ht
   have HH:=Lib.hid (head_fit HF.out)
   have HR:=Lib.hid (rest_fit HF.out hn6)
   have HO:Hid (Str x.owner):=Lib.hid HF.out.2.2.2.1
   have s1:=from_size (headNums x) ⟨#[]⟩ HH.out
   have s2:=text_size (t:=x.owner)
   have hz:(⟨#[]⟩:ByteArray).size=0:=rfl
   have hl3:(headNums x).length=3:=rfl
   rw [hz,hl3] at s1
   have s3:(taskHead x).size≤8040:=by unfold taskHead;rw [size_app];omega
   have z1:(putNumsFrom ⟨#[]⟩ (headNums x)).size≤30:=by omega
   clear hz hl3
   have k2:¬ (9223372036854775807 < ((putNumsFrom ⟨#[]⟩ (headNums x)).size:Int)+((putText x.owner).size:Int)):=by omega
   have k3:¬ (9223372036854775807 < (putNumsFrom ⟨#[]⟩ (headNums x)).size+(putText x.owner).size):=by omega
   have k4:(putNumsFrom ⟨#[]⟩ (headNums x)).size+(putText x.owner).size≤9223372036854775807:=by omega
   have k1:(((putNumsFrom ⟨#[]⟩ (headNums x)).size:Nat):Int)+(((putText x.owner).size:Nat):Int)≤9223372036854775807:=by omega
   have R3:Hid (∀ V V':World,Ext (V.alloc (.cells #[.int .i64 x.label.level,.int .i64 x.label.set,.int .i64 x.id] 2)) V'→Rd EInt (fun _=>True) V' (.slice (some ⟨V.heap.size,0,none⟩) 3 3) (headNums x)):=Lib.hid fun V V' hV=>(rd_ints 2 V (headNums x) _ rfl HH.out (by simp [headNums])).ext hV
   have R10:Hid (∀ V V':World,Ext (V.alloc (.cells #[.int .i64 x.need,.int .i64 x.long,.int .i64 x.prio,.int .i64 x.under.level,.int .i64 x.under.set,.int .i64 x.after,.int .i64 x.born,.int .i64 x.state,.int .i64 x.start,.int .i64 (x.nodes.length:Int)] 2)) V'→Rd EInt (fun _=>True) V' (.slice (some ⟨V.heap.size,0,none⟩) 10 10) (restNums x)):=Lib.hid fun V V' hV=>(rd_ints 2 V (restNums x) _ rfl HR.out (by simp [restNums])).ext hV
   clear ht s1
   go_wp2_with fail
   have al:∀ V,Ext w1 V→∀ i,V.cell? ⟨B,i,none⟩=_:=fun V hV=>(B1.out.ext hV).cell
   go_region_held3 (fun w'=>Ext w1 w') (first | exact Ext.refl _ | exact (Ext.refl _).drew | assumption | exact Ext.alloc (by assumption) _ | exact Ext.trans (by assumption) hx1 | exact Ext.trans (by assumption) hx2) (first | (go_at_call 23;(with_reducible refine (putNums_any (S:=fun _=>True) (headNums x) _ _ (R3.out w1 _ (by repeat (first | with_reducible exact Ext.refl _ | with_reducible refine Ext.drew ?_))) (by simp [headNums])).mono ?_);rintro e wA ⟨rfl,hx1⟩) | (go_at_call 24;(with_reducible refine (putText_any _ _ HO.out).mono ?_);rintro e wB ⟨rfl,hx2⟩))
   clear al
   have X2:Hid (Ext w wB):=Lib.hid (X1.out.trans (by first | assumption | exact Ext.drew (by assumption)))
   have B2:=Lib.hid (B1.out.ext (show Ext w1 wB by first | assumption | exact Ext.drew (by assumption)))
   have HT:Hid (taskHead x=putNumsFrom ⟨#[]⟩ (headNums x) ++ putText x.owner):=Lib.hid rfl
   have s4:=from_size (restNums x) ⟨#[]⟩ HR.out
   have hz:(⟨#[]⟩:ByteArray).size=0:=rfl
   have hl:(restNums x).length=10:=rfl
   rw [hz,hl] at s4
   have HNI:Hid (∀ y∈x.nodes,I64 y):=Lib.hid fun y hy=>by
    obtain ⟨k,hk⟩:=List.getElem?_of_mem hy
    obtain ⟨_,_,_,_,_,hkk⟩:=HD.out
    obtain ⟨_,_,_,_,_,⟨_,h64⟩,_⟩:=hkk k y hk
    exact h64
   have s5:=from_size x.nodes ⟨#[]⟩ HNI.out
   rw [hz] at s5
   have HTT:Hid (taskText x=(taskHead x ++ putNumsFrom ⟨#[]⟩ (restNums x)) ++ putNumsFrom ⟨#[]⟩ x.nodes):=Lib.hid (by
    rw [from_assoc,from_assoc]
    unfold taskText
    rw [show taskHead x ++ ⟨#[]⟩=taskHead x from by apply ByteArray.ext;simp]
    rw [show putNumsFrom (taskHead x) (restNums x) ++ ⟨#[]⟩=putNumsFrom (taskHead x) (restNums x) from by apply ByteArray.ext;simp])
   have s6:(taskHead x ++ putNumsFrom ⟨#[]⟩ (restNums x)).size≤8200:=by rw [size_app];omega
   rw [← HT.out]
   clear hz hl
   have ac:=B2.out.cell
   go_wp2_with (first | (go_at_call 23;(with_reducible refine (putNums_any (S:=fun _=>True) (restNums x) _ _ (R10.out wB _ (by repeat (first | with_reducible exact Ext.refl _ | with_reducible refine Ext.drew ?_))) (by simp [restNums])).mono ?_);rintro e wC ⟨rfl,hxC⟩;have XC:=Lib.hid (X2.out.trans (((Ext.refl _).alloc _).trans hxC));have BC:=Lib.hid (B2.out.ext (((Ext.refl _).alloc _).trans hxC));clear hxC ac;have ac:=BC.out.cell))
   refine (putNums_any (S:=S) x.nodes _ _ (HD.out.ext XC.out) (by omega)).mono ?_
   rintro e wD ⟨rfl,hxD⟩
   have XD:=Lib.hid (XC.out.trans hxD)
   clear hxD ac
   rw [size_app] at s6
   go_wp2_with fail
   go_ret
   exact ⟨by rw [HE.out,HTT.out];rfl,XD.out⟩
end Go.Proofs.Ytlonjlaecaemgaa
namespace Go.Proofs.Ytlonjlaecaemgaa
open Go.RowKit
attribute [local irreducible] wpQuiet
theorem specTaskBytes_any {S:Nat→Prop} (x:Task) (cs:List Value) (w:World) (h:ETask.rel S w cs x) :
 Calls Try.prog 9 #[.agg cs.toArray] w fun e w'=>e=.returned (.string (taskBytes x))∧Ext w w':=by
 obtain ⟨v1,rfl,hfit,hrd⟩:=h
 obtain ⟨A1,d1,rfl,nn1,mm1,hk⟩:=hrd.open_
 unfold maxLen at mm1
 have HK:=Lib.hid hk
 have HF:=Lib.hid hfit
 have HD:=Lib.hid hrd
 clear hfit hrd hk
 simp only [cellsTask]
 go_enter Try.func9,Try.ntmps9
 go_upto_region 1 with (fail)
 obtain ⟨W,B,hW,hB,hx0,b0⟩:∃ W B,W=w.alloc (.cells #[.int .i64 x.label.level,.int .i64 x.label.set,.int .i64 x.id,.string x.owner,.int .i64 x.need,.int .i64 x.long,.int .i64 x.prio,.int .i64 x.under.level,.int .i64 x.under.set,.int .i64 x.after,.int .i64 x.born,.int .i64 x.state,.int .i64 x.start,.slice A1 x.nodes.length d1] 27)∧B=w.heap.size∧Ext w W∧Blk W B 27 #[.int .i64 x.label.level,.int .i64 x.label.set,.int .i64 x.id,.string x.owner,.int .i64 x.need,.int .i64 x.long,.int .i64 x.prio,.int .i64 x.under.level,.int .i64 x.under.set,.int .i64 x.after,.int .i64 x.born,.int .i64 x.state,.int .i64 x.start,.slice A1 x.nodes.length d1]:=⟨_,_,rfl,rfl,(Ext.refl w).alloc _,Blk.new _ _ _⟩
 rw [← hW,← hB]
 have B0:=Lib.hid b0
 have X0:=Lib.hid hx0
 clear hW hB hx0 b0
 have ac:=B0.out.cell
 go_wp2_with fail
 refine (specTaskRight_any (S:=S) x _ _ (rel_Task HF.out (HD.out.ext X0.out))).mono ?_
 rintro e w1 ⟨rfl,hx⟩
 have X1:=Lib.hid (X0.out.trans hx)
 have B1:=Lib.hid (B0.out.ext hx)
 clear hx ac
 cases ht:taskRight x with
 | false =>
   have HE:Hid (taskBytes x=⟨#[]⟩):=Lib.hid (by rw [taskBytes,ht];rfl)
   clear ht
   go_wp2_with fail
   go_ret
   exact ⟨by rw [HE.out];rfl,X1.out⟩
 | true =>
   have HE:Hid (taskBytes x=putNumsFrom (((((((((((((putNum x.label.level ++ putNum x.label.set) ++ putNum x.id) ++ putText x.owner) ++ putNum x.need) ++ putNum x.long) ++ putNum x.prio) ++ putNum x.under.level) ++ putNum x.under.set) ++ putNum x.after) ++ putNum x.born) ++ putNum x.state) ++ putNum x.start) ++ putNum (x.nodes.length:Int)) x.nodes):=Lib.hid (by
    rw [taskBytes,if_pos ht]
    simp only [taskText,taskHead,headNums,restNums,putNumsFrom,bytes_nil])
   have hn6:=taskRight_nodes ht
   clear ht
   have HI0:Hid (I64 x.label.level):=Lib.hid (HF.out.1)
   have HI1:Hid (I64 x.label.set):=Lib.hid (HF.out.2.1)
   have HI2:Hid (I64 x.id):=Lib.hid (HF.out.2.2.1)
   have HI4:Hid (I64 x.need):=Lib.hid (HF.out.2.2.2.2.1)
   have HI5:Hid (I64 x.long):=Lib.hid (HF.out.2.2.2.2.2.1)
   have HI6:Hid (I64 x.prio):=Lib.hid (HF.out.2.2.2.2.2.2.1)
   have HI7:Hid (I64 x.under.level):=Lib.hid (HF.out.2.2.2.2.2.2.2.1)
   have HI8:Hid (I64 x.under.set):=Lib.hid (HF.out.2.2.2.2.2.2.2.2.1)
   have HI9:Hid (I64 x.after):=Lib.hid (HF.out.2.2.2.2.2.2.2.2.2.1)
   have HI10:Hid (I64 x.born):=Lib.hid (HF.out.2.2.2.2.2.2.2.2.2.2.1)
   have HI11:Hid (I64 x.state):=Lib.hid (HF.out.2.2.2.2.2.2.2.2.2.2.2.1)
   have HI12:Hid (I64 x.start):=Lib.hid (HF.out.2.2.2.2.2.2.2.2.2.2.2.2)
   have HI13:Hid (I64 (x.nodes.length:Int)):=Lib.hid (by unfold I64;omega)
   have HO:Hid (Str x.owner):=Lib.hid (HF.out.2.2.2.1)
   have p0:=putNum_size HI0.out
   have p1:=putNum_size HI1.out
   have p2:=putNum_size HI2.out
   have p4:=putNum_size HI4.out
   have p5:=putNum_size HI5.out
   have p6:=putNum_size HI6.out
   have p7:=putNum_size HI7.out
   have p8:=putNum_size HI8.out
   have p9:=putNum_size HI9.out
   have p10:=putNum_size HI10.out
   have p11:=putNum_size HI11.out
   have p12:=putNum_size HI12.out
   have p13:=putNum_size HI13.out
   have p3:=text_size (t:=x.owner)
   have z0:(putNum x.label.level).size≤10:=p0
   have k0:¬ (9223372036854775807 < ((putNum x.label.level).size:Int)+((putNum x.label.set).size:Int)):=by omega
   have l0:((putNum x.label.level).size:Int)+((putNum x.label.set).size:Int)≤9223372036854775807:=by omega
   have m0:¬ (9223372036854775807 < (putNum x.label.level).size+(putNum x.label.set).size):=by omega
   have n0:(putNum x.label.level).size+(putNum x.label.set).size≤9223372036854775807:=by omega
   have z1:((putNum x.label.level ++ putNum x.label.set)).size≤20:=by rw [size_app];omega
   have k1:¬ (9223372036854775807 < ((putNum x.label.level).size:Int)+((putNum x.label.set).size:Int)+((putNum x.id).size:Int)):=by omega
   have l1:((putNum x.label.level).size:Int)+((putNum x.label.set).size:Int)+((putNum x.id).size:Int)≤9223372036854775807:=by omega
   have m1:¬ (9223372036854775807 < (putNum x.label.level).size+(putNum x.label.set).size+(putNum x.id).size):=by omega
   have n1:(putNum x.label.level).size+(putNum x.label.set).size+(putNum x.id).size≤9223372036854775807:=by omega
   have z2:(((putNum x.label.level ++ putNum x.label.set) ++ putNum x.id)).size≤30:=by rw [size_app];omega
   have k2:¬ (9223372036854775807 < ((putNum x.label.level).size:Int)+((putNum x.label.set).size:Int)+((putNum x.id).size:Int)+((putText x.owner).size:Int)):=by omega
   have l2:((putNum x.label.level).size:Int)+((putNum x.label.set).size:Int)+((putNum x.id).size:Int)+((putText x.owner).size:Int)≤9223372036854775807:=by omega
   have m2:¬ (9223372036854775807 < (putNum x.label.level).size+(putNum x.label.set).size+(putNum x.id).size+(putText x.owner).size):=by omega
   have n2:(putNum x.label.level).size+(putNum x.label.set).size+(putNum x.id).size+(putText x.owner).size≤9223372036854775807:=by omega
   have z3:((((putNum x.label.level ++ putNum x.label.set) ++ putNum x.id) ++ putText x.owner)).size≤8050:=by rw [size_app];omega
   have k3:¬ (9223372036854775807 < ((putNum x.label.level).size:Int)+((putNum x.label.set).size:Int)+((putNum x.id).size:Int)+((putText x.owner).size:Int)+((putNum x.need).size:Int)):=by omega
   have l3:((putNum x.label.level).size:Int)+((putNum x.label.set).size:Int)+((putNum x.id).size:Int)+((putText x.owner).size:Int)+((putNum x.need).size:Int)≤9223372036854775807:=by omega
   have m3:¬ (9223372036854775807 < (putNum x.label.level).size+(putNum x.label.set).size+(putNum x.id).size+(putText x.owner).size+(putNum x.need).size):=by omega
   have n3:(putNum x.label.level).size+(putNum x.label.set).size+(putNum x.id).size+(putText x.owner).size+(putNum x.need).size≤9223372036854775807:=by omega
   have z4:(((((putNum x.label.level ++ putNum x.label.set) ++ putNum x.id) ++ putText x.owner) ++ putNum x.need)).size≤8060:=by rw [size_app];omega
   have k4:¬ (9223372036854775807 < ((putNum x.label.level).size:Int)+((putNum x.label.set).size:Int)+((putNum x.id).size:Int)+((putText x.owner).size:Int)+((putNum x.need).size:Int)+((putNum x.long).size:Int)):=by omega
   have l4:((putNum x.label.level).size:Int)+((putNum x.label.set).size:Int)+((putNum x.id).size:Int)+((putText x.owner).size:Int)+((putNum x.need).size:Int)+((putNum x.long).size:Int)≤9223372036854775807:=by omega
   have m4:¬ (9223372036854775807 < (putNum x.label.level).size+(putNum x.label.set).size+(putNum x.id).size+(putText x.owner).size+(putNum x.need).size+(putNum x.long).size):=by omega
   have n4:(putNum x.label.level).size+(putNum x.label.set).size+(putNum x.id).size+(putText x.owner).size+(putNum x.need).size+(putNum x.long).size≤9223372036854775807:=by omega
   have z5:((((((putNum x.label.level ++ putNum x.label.set) ++ putNum x.id) ++ putText x.owner) ++ putNum x.need) ++ putNum x.long)).size≤8070:=by rw [size_app];omega
   have k5:¬ (9223372036854775807 < ((putNum x.label.level).size:Int)+((putNum x.label.set).size:Int)+((putNum x.id).size:Int)+((putText x.owner).size:Int)+((putNum x.need).size:Int)+((putNum x.long).size:Int)+((putNum x.prio).size:Int)):=by omega
   have l5:((putNum x.label.level).size:Int)+((putNum x.label.set).size:Int)+((putNum x.id).size:Int)+((putText x.owner).size:Int)+((putNum x.need).size:Int)+((putNum x.long).size:Int)+((putNum x.prio).size:Int)≤9223372036854775807:=by omega
   have m5:¬ (9223372036854775807 < (putNum x.label.level).size+(putNum x.label.set).size+(putNum x.id).size+(putText x.owner).size+(putNum x.need).size+(putNum x.long).size+(putNum x.prio).size):=by omega
   have n5:(putNum x.label.level).size+(putNum x.label.set).size+(putNum x.id).size+(putText x.owner).size+(putNum x.need).size+(putNum x.long).size+(putNum x.prio).size≤9223372036854775807:=by omega
   have z6:(((((((putNum x.label.level ++ putNum x.label.set) ++ putNum x.id) ++ putText x.owner) ++ putNum x.need) ++ putNum x.long) ++ putNum x.prio)).size≤8080:=by rw [size_app];omega
   have k6:¬ (9223372036854775807 < ((putNum x.label.level).size:Int)+((putNum x.label.set).size:Int)+((putNum x.id).size:Int)+((putText x.owner).size:Int)+((putNum x.need).size:Int)+((putNum x.long).size:Int)+((putNum x.prio).size:Int)+((putNum x.under.level).size:Int)):=by omega
   have l6:((putNum x.label.level).size:Int)+((putNum x.label.set).size:Int)+((putNum x.id).size:Int)+((putText x.owner).size:Int)+((putNum x.need).size:Int)+((putNum x.long).size:Int)+((putNum x.prio).size:Int)+((putNum x.under.level).size:Int)≤9223372036854775807:=by omega
   have m6:¬ (9223372036854775807 < (putNum x.label.level).size+(putNum x.label.set).size+(putNum x.id).size+(putText x.owner).size+(putNum x.need).size+(putNum x.long).size+(putNum x.prio).size+(putNum x.under.level).size):=by omega
   have n6:(putNum x.label.level).size+(putNum x.label.set).size+(putNum x.id).size+(putText x.owner).size+(putNum x.need).size+(putNum x.long).size+(putNum x.prio).size+(putNum x.under.level).size≤9223372036854775807:=by omega
   have z7:((((((((putNum x.label.level ++ putNum x.label.set) ++ putNum x.id) ++ putText x.owner) ++ putNum x.need) ++ putNum x.long) ++ putNum x.prio) ++ putNum x.under.level)).size≤8090:=by rw [size_app];omega
   have k7:¬ (9223372036854775807 < ((putNum x.label.level).size:Int)+((putNum x.label.set).size:Int)+((putNum x.id).size:Int)+((putText x.owner).size:Int)+((putNum x.need).size:Int)+((putNum x.long).size:Int)+((putNum x.prio).size:Int)+((putNum x.under.level).size:Int)+((putNum x.under.set).size:Int)):=by omega
   have l7:((putNum x.label.level).size:Int)+((putNum x.label.set).size:Int)+((putNum x.id).size:Int)+((putText x.owner).size:Int)+((putNum x.need).size:Int)+((putNum x.long).size:Int)+((putNum x.prio).size:Int)+((putNum x.under.level).size:Int)+((putNum x.under.set).size:Int)≤9223372036854775807:=by omega
   have m7:¬ (9223372036854775807 < (putNum x.label.level).size+(putNum x.label.set).size+(putNum x.id).size+(putText x.owner).size+(putNum x.need).size+(putNum x.long).size+(putNum x.prio).size+(putNum x.under.level).size+(putNum x.under.set).size):=by omega
   have n7:(putNum x.label.level).size+(putNum x.label.set).size+(putNum x.id).size+(putText x.owner).size+(putNum x.need).size+(putNum x.long).size+(putNum x.prio).size+(putNum x.under.level).size+(putNum x.under.set).size≤9223372036854775807:=by omega
   have z8:(((((((((putNum x.label.level ++ putNum x.label.set) ++ putNum x.id) ++ putText x.owner) ++ putNum x.need) ++ putNum x.long) ++ putNum x.prio) ++ putNum x.under.level) ++ putNum x.under.set)).size≤8100:=by rw [size_app];omega
   have k8:¬ (9223372036854775807 < ((putNum x.label.level).size:Int)+((putNum x.label.set).size:Int)+((putNum x.id).size:Int)+((putText x.owner).size:Int)+((putNum x.need).size:Int)+((putNum x.long).size:Int)+((putNum x.prio).size:Int)+((putNum x.under.level).size:Int)+((putNum x.under.set).size:Int)+((putNum x.after).size:Int)):=by omega
   have l8:((putNum x.label.level).size:Int)+((putNum x.label.set).size:Int)+((putNum x.id).size:Int)+((putText x.owner).size:Int)+((putNum x.need).size:Int)+((putNum x.long).size:Int)+((putNum x.prio).size:Int)+((putNum x.under.level).size:Int)+((putNum x.under.set).size:Int)+((putNum x.after).size:Int)≤9223372036854775807:=by omega
   have m8:¬ (9223372036854775807 < (putNum x.label.level).size+(putNum x.label.set).size+(putNum x.id).size+(putText x.owner).size+(putNum x.need).size+(putNum x.long).size+(putNum x.prio).size+(putNum x.under.level).size+(putNum x.under.set).size+(putNum x.after).size):=by omega
   have n8:(putNum x.label.level).size+(putNum x.label.set).size+(putNum x.id).size+(putText x.owner).size+(putNum x.need).size+(putNum x.long).size+(putNum x.prio).size+(putNum x.under.level).size+(putNum x.under.set).size+(putNum x.after).size≤9223372036854775807:=by omega
   have z9:((((((((((putNum x.label.level ++ putNum x.label.set) ++ putNum x.id) ++ putText x.owner) ++ putNum x.need) ++ putNum x.long) ++ putNum x.prio) ++ putNum x.under.level) ++ putNum x.under.set) ++ putNum x.after)).size≤8110:=by rw [size_app];omega
   have k9:¬ (9223372036854775807 < ((putNum x.label.level).size:Int)+((putNum x.label.set).size:Int)+((putNum x.id).size:Int)+((putText x.owner).size:Int)+((putNum x.need).size:Int)+((putNum x.long).size:Int)+((putNum x.prio).size:Int)+((putNum x.under.level).size:Int)+((putNum x.under.set).size:Int)+((putNum x.after).size:Int)+((putNum x.born).size:Int)):=by omega
   have l9:((putNum x.label.level).size:Int)+((putNum x.label.set).size:Int)+((putNum x.id).size:Int)+((putText x.owner).size:Int)+((putNum x.need).size:Int)+((putNum x.long).size:Int)+((putNum x.prio).size:Int)+((putNum x.under.level).size:Int)+((putNum x.under.set).size:Int)+((putNum x.after).size:Int)+((putNum x.born).size:Int)≤9223372036854775807:=by omega
   have m9:¬ (9223372036854775807 < (putNum x.label.level).size+(putNum x.label.set).size+(putNum x.id).size+(putText x.owner).size+(putNum x.need).size+(putNum x.long).size+(putNum x.prio).size+(putNum x.under.level).size+(putNum x.under.set).size+(putNum x.after).size+(putNum x.born).size):=by omega
   have n9:(putNum x.label.level).size+(putNum x.label.set).size+(putNum x.id).size+(putText x.owner).size+(putNum x.need).size+(putNum x.long).size+(putNum x.prio).size+(putNum x.under.level).size+(putNum x.under.set).size+(putNum x.after).size+(putNum x.born).size≤9223372036854775807:=by omega
   have z10:(((((((((((putNum x.label.level ++ putNum x.label.set) ++ putNum x.id) ++ putText x.owner) ++ putNum x.need) ++ putNum x.long) ++ putNum x.prio) ++ putNum x.under.level) ++ putNum x.under.set) ++ putNum x.after) ++ putNum x.born)).size≤8120:=by rw [size_app];omega
   have k10:¬ (9223372036854775807 < ((putNum x.label.level).size:Int)+((putNum x.label.set).size:Int)+((putNum x.id).size:Int)+((putText x.owner).size:Int)+((putNum x.need).size:Int)+((putNum x.long).size:Int)+((putNum x.prio).size:Int)+((putNum x.under.level).size:Int)+((putNum x.under.set).size:Int)+((putNum x.after).size:Int)+((putNum x.born).size:Int)+((putNum x.state).size:Int)):=by omega
   have l10:((putNum x.label.level).size:Int)+((putNum x.label.set).size:Int)+((putNum x.id).size:Int)+((putText x.owner).size:Int)+((putNum x.need).size:Int)+((putNum x.long).size:Int)+((putNum x.prio).size:Int)+((putNum x.under.level).size:Int)+((putNum x.under.set).size:Int)+((putNum x.after).size:Int)+((putNum x.born).size:Int)+((putNum x.state).size:Int)≤9223372036854775807:=by omega
   have m10:¬ (9223372036854775807 < (putNum x.label.level).size+(putNum x.label.set).size+(putNum x.id).size+(putText x.owner).size+(putNum x.need).size+(putNum x.long).size+(putNum x.prio).size+(putNum x.under.level).size+(putNum x.under.set).size+(putNum x.after).size+(putNum x.born).size+(putNum x.state).size):=by omega
   have n10:(putNum x.label.level).size+(putNum x.label.set).size+(putNum x.id).size+(putText x.owner).size+(putNum x.need).size+(putNum x.long).size+(putNum x.prio).size+(putNum x.under.level).size+(putNum x.under.set).size+(putNum x.after).size+(putNum x.born).size+(putNum x.state).size≤9223372036854775807:=by omega
   have z11:((((((((((((putNum x.label.level ++ putNum x.label.set) ++ putNum x.id) ++ putText x.owner) ++ putNum x.need) ++ putNum x.long) ++ putNum x.prio) ++ putNum x.under.level) ++ putNum x.under.set) ++ putNum x.after) ++ putNum x.born) ++ putNum x.state)).size≤8130:=by rw [size_app];omega
   have k11:¬ (9223372036854775807 < ((putNum x.label.level).size:Int)+((putNum x.label.set).size:Int)+((putNum x.id).size:Int)+((putText x.owner).size:Int)+((putNum x.need).size:Int)+((putNum x.long).size:Int)+((putNum x.prio).size:Int)+((putNum x.under.level).size:Int)+((putNum x.under.set).size:Int)+((putNum x.after).size:Int)+((putNum x.born).size:Int)+((putNum x.state).size:Int)+((putNum x.start).size:Int)):=by omega
   have l11:((putNum x.label.level).size:Int)+((putNum x.label.set).size:Int)+((putNum x.id).size:Int)+((putText x.owner).size:Int)+((putNum x.need).size:Int)+((putNum x.long).size:Int)+((putNum x.prio).size:Int)+((putNum x.under.level).size:Int)+((putNum x.under.set).size:Int)+((putNum x.after).size:Int)+((putNum x.born).size:Int)+((putNum x.state).size:Int)+((putNum x.start).size:Int)≤9223372036854775807:=by omega
   have m11:¬ (9223372036854775807 < (putNum x.label.level).size+(putNum x.label.set).size+(putNum x.id).size+(putText x.owner).size+(putNum x.need).size+(putNum x.long).size+(putNum x.prio).size+(putNum x.under.level).size+(putNum x.under.set).size+(putNum x.after).size+(putNum x.born).size+(putNum x.state).size+(putNum x.start).size):=by omega
   have n11:(putNum x.label.level).size+(putNum x.label.set).size+(putNum x.id).size+(putText x.owner).size+(putNum x.need).size+(putNum x.long).size+(putNum x.prio).size+(putNum x.under.level).size+(putNum x.under.set).size+(putNum x.after).size+(putNum x.born).size+(putNum x.state).size+(putNum x.start).size≤9223372036854775807:=by omega
   have z12:(((((((((((((putNum x.label.level ++ putNum x.label.set) ++ putNum x.id) ++ putText x.owner) ++ putNum x.need) ++ putNum x.long) ++ putNum x.prio) ++ putNum x.under.level) ++ putNum x.under.set) ++ putNum x.after) ++ putNum x.born) ++ putNum x.state) ++ putNum x.start)).size≤8140:=by rw [size_app];omega
   have k12:¬ (9223372036854775807 < ((putNum x.label.level).size:Int)+((putNum x.label.set).size:Int)+((putNum x.id).size:Int)+((putText x.owner).size:Int)+((putNum x.need).size:Int)+((putNum x.long).size:Int)+((putNum x.prio).size:Int)+((putNum x.under.level).size:Int)+((putNum x.under.set).size:Int)+((putNum x.after).size:Int)+((putNum x.born).size:Int)+((putNum x.state).size:Int)+((putNum x.start).size:Int)+((putNum (x.nodes.length:Int)).size:Int)):=by omega
   have l12:((putNum x.label.level).size:Int)+((putNum x.label.set).size:Int)+((putNum x.id).size:Int)+((putText x.owner).size:Int)+((putNum x.need).size:Int)+((putNum x.long).size:Int)+((putNum x.prio).size:Int)+((putNum x.under.level).size:Int)+((putNum x.under.set).size:Int)+((putNum x.after).size:Int)+((putNum x.born).size:Int)+((putNum x.state).size:Int)+((putNum x.start).size:Int)+((putNum (x.nodes.length:Int)).size:Int)≤9223372036854775807:=by omega
   have m12:¬ (9223372036854775807 < (putNum x.label.level).size+(putNum x.label.set).size+(putNum x.id).size+(putText x.owner).size+(putNum x.need).size+(putNum x.long).size+(putNum x.prio).size+(putNum x.under.level).size+(putNum x.under.set).size+(putNum x.after).size+(putNum x.born).size+(putNum x.state).size+(putNum x.start).size+(putNum (x.nodes.length:Int)).size):=by omega
   have n12:(putNum x.label.level).size+(putNum x.label.set).size+(putNum x.id).size+(putText x.owner).size+(putNum x.need).size+(putNum x.long).size+(putNum x.prio).size+(putNum x.under.level).size+(putNum x.under.set).size+(putNum x.after).size+(putNum x.born).size+(putNum x.state).size+(putNum x.start).size+(putNum (x.nodes.length:Int)).size≤9223372036854775807:=by omega
   have z13:((((((((((((((putNum x.label.level ++ putNum x.label.set) ++ putNum x.id) ++ putText x.owner) ++ putNum x.need) ++ putNum x.long) ++ putNum x.prio) ++ putNum x.under.level) ++ putNum x.under.set) ++ putNum x.after) ++ putNum x.born) ++ putNum x.state) ++ putNum x.start) ++ putNum (x.nodes.length:Int))).size≤8150:=by rw [size_app];omega
   have Z13:=Lib.hid z13
   have c0:=B1.out.cell 0
   have c1:=B1.out.cell 1
   have c2:=B1.out.cell 2
   have c3:=B1.out.cell 3
   have c4:=B1.out.cell 4
   have c5:=B1.out.cell 5
   have c6:=B1.out.cell 6
   have c7:=B1.out.cell 7
   have c8:=B1.out.cell 8
   have c9:=B1.out.cell 9
   have c10:=B1.out.cell 10
   have c11:=B1.out.cell 11
   have c12:=B1.out.cell 12
   have c13:=B1.out.cell 13
   simp only [List.getElem?_toArray,List.getElem?_cons_succ,List.getElem?_cons_zero] at c0 c1 c2 c3 c4 c5 c6 c7 c8 c9 c10 c11 c12 c13
   go_wp2_with fail
   refine wp_region_ext (by kernel_rfl) (by kernel_rfl) ?_
   repeat (
    (refine wpQuiet_step (fun K hK=>?_)
     go_simp
     first
      | (refine hK _ ?_;clear hK K)
      | (apply Exists.intro
         refine ⟨fun w__ hx__=>?_,hK _ ?_⟩
         · have c0__:=Ext.some hx__ c0;have c1__:=Ext.some hx__ c1;have c2__:=Ext.some hx__ c2;have c3__:=Ext.some hx__ c3;have c4__:=Ext.some hx__ c4;have c5__:=Ext.some hx__ c5;have c6__:=Ext.some hx__ c6;have c7__:=Ext.some hx__ c7;have c8__:=Ext.some hx__ c8;have c9__:=Ext.some hx__ c9;have c10__:=Ext.some hx__ c10;have c11__:=Ext.some hx__ c11;have c12__:=Ext.some hx__ c12;have c13__:=Ext.some hx__ c13;first | exact rfl | (go_simp;done) | (go_simp;exact rfl) | (go_at_call 33;exact ext_of hx__ (specPutNum_any _ _ (by first | exact HI0.out | exact HI1.out | exact HI2.out | exact HI4.out | exact HI5.out | exact HI6.out | exact HI7.out | exact HI8.out | exact HI9.out | exact HI10.out | exact HI11.out | exact HI12.out | exact HI13.out))) | (go_at_call 34;exact ext_of hx__ (specPutText_any _ _ HO.out))
         clear hK K)))
   refine wpQuiet_nil ?_
   intro w1 hx1
   have X2:=Lib.hid (X1.out.trans hx1)
   have B2:=Lib.hid (B1.out.ext hx1)
   clear hx1 c0 c1 c2 c3 c4 c5 c6 c7 c8 c9 c10 c11 c12 c13 k0 l0 m0 n0 z0 k1 l1 m1 n1 z1 k2 l2 m2 n2 z2 k3 l3 m3 n3 z3 k4 l4 m4 n4 z4 k5 l5 m5 n5 z5 k6 l6 m6 n6 z6 k7 l7 m7 n7 z7 k8 l8 m8 n8 z8 k9 l9 m9 n9 z9 k10 l10 m10 n10 z10 k11 l11 m11 n11 z11 k12 l12 m12 n12 z12 z13 p0 p1 p2 p3 p4 p5 p6 p7 p8 p9 p10 p11 p12 p13
   have z14:=Z13.out
   go_wp2_with fail
   go_loopw [3,4] (fun s i w'=>∃ k:Nat,k≤x.nodes.length∧i=.int .i64 k∧s=.string (putNumsFrom (((((((((((((putNum x.label.level ++ putNum x.label.set) ++ putNum x.id) ++ putText x.owner) ++ putNum x.need) ++ putNum x.long) ++ putNum x.prio) ++ putNum x.under.level) ++ putNum x.under.set) ++ putNum x.after) ++ putNum x.born) ++ putNum x.state) ++ putNum x.start) ++ putNum (x.nodes.length:Int)) (x.nodes.take k))∧(putNumsFrom (((((((((((((putNum x.label.level ++ putNum x.label.set) ++ putNum x.id) ++ putText x.owner) ++ putNum x.need) ++ putNum x.long) ++ putNum x.prio) ++ putNum x.under.level) ++ putNum x.under.set) ++ putNum x.after) ++ putNum x.born) ++ putNum x.state) ++ putNum x.start) ++ putNum (x.nodes.length:Int)) (x.nodes.take k)).size≤8150+10 * k∧Ext w w'∧Blk w' B 27 #[.int .i64 x.label.level,.int .i64 x.label.set,.int .i64 x.id,.string x.owner,.int .i64 x.need,.int .i64 x.long,.int .i64 x.prio,.int .i64 x.under.level,.int .i64 x.under.set,.int .i64 x.after,.int .i64 x.born,.int .i64 x.state,.int .i64 x.start,.slice A1 x.nodes.length d1]) (fun _ i _=>x.nodes.length - (intOf i).toNat)
   case atStart=>exact ⟨0,by omega,rfl,rfl,by simpa [putNumsFrom] using z14,X2.out,B2.out⟩
   case round =>
    obtain ⟨k,hk1,rfl,rfl,hs,hx,hb⟩:=hrel
    have HX:=Lib.hid hx
    have HBk:=Lib.hid hb
    have c13:=hb.cell 13
    simp only [List.getElem?_toArray,List.getElem?_cons_succ,List.getElem?_cons_zero] at c13
    by_cases hlt:k < x.nodes.length
    · obtain ⟨b,q,cs,rfl,_,⟨rfl,hi⟩,hc⟩:=HK.out k hlt
      have c0:=Ext.some hx (hc 0 _ rfl)
      simp only [EInt,Nat.add_zero,Nat.mul_one] at c0
      have HI:=Lib.hid hi
      have HP:=putNum_size hi
      have HEk:Hid (putNumsFrom (((((((((((((putNum x.label.level ++ putNum x.label.set) ++ putNum x.id) ++ putText x.owner) ++ putNum x.need) ++ putNum x.long) ++ putNum x.prio) ++ putNum x.under.level) ++ putNum x.under.set) ++ putNum x.after) ++ putNum x.born) ++ putNum x.state) ++ putNum x.start) ++ putNum (x.nodes.length:Int)) (x.nodes.take (k+1))=putNumsFrom (((((((((((((putNum x.label.level ++ putNum x.label.set) ++ putNum x.id) ++ putText x.owner) ++ putNum x.need) ++ putNum x.long) ++ putNum x.prio) ++ putNum x.under.level) ++ putNum x.under.set) ++ putNum x.after) ++ putNum x.born) ++ putNum x.state) ++ putNum x.start) ++ putNum (x.nodes.length:Int)) (x.nodes.take k) ++ putNum (nth x.nodes k)):=Lib.hid (by rw [take_succ_nth hlt,from_app];rfl)
      clear hc hi hx hb
      generalize putNumsFrom (((((((((((((putNum x.label.level ++ putNum x.label.set) ++ putNum x.id) ++ putText x.owner) ++ putNum x.need) ++ putNum x.long) ++ putNum x.prio) ++ putNum x.under.level) ++ putNum x.under.set) ++ putNum x.after) ++ putNum x.born) ++ putNum x.state) ++ putNum x.start) ++ putNum (x.nodes.length:Int)) (x.nodes.take k)=acc at *
      go_wp2_with (go_at_call 33;refine (specPutNum_any _ _ HI.out).mono ?_;rintro e w3 ⟨rfl,hx1⟩;have X3:=Lib.hid hx1;clear hx1)
      refine ⟨⟨k+1,by omega,by go_num,by rw [HEk.out],by rw [HEk.out,size_app];omega,HX.out.trans X3.out,HBk.out.ext X3.out⟩,?_⟩
      simp [intOf]
      omega
    · obtain rfl:k=x.nodes.length:=by omega
      have HEk:Hid (putNumsFrom (((((((((((((putNum x.label.level ++ putNum x.label.set) ++ putNum x.id) ++ putText x.owner) ++ putNum x.need) ++ putNum x.long) ++ putNum x.prio) ++ putNum x.under.level) ++ putNum x.under.set) ++ putNum x.after) ++ putNum x.born) ++ putNum x.state) ++ putNum x.start) ++ putNum (x.nodes.length:Int)) (x.nodes.take x.nodes.length)=putNumsFrom (((((((((((((putNum x.label.level ++ putNum x.label.set) ++ putNum x.id) ++ putText x.owner) ++ putNum x.need) ++ putNum x.long) ++ putNum x.prio) ++ putNum x.under.level) ++ putNum x.under.set) ++ putNum x.after) ++ putNum x.born) ++ putNum x.state) ++ putNum x.start) ++ putNum (x.nodes.length:Int)) x.nodes):=Lib.hid (by rw [List.take_length])
      clear hx hb
      go_wp2_with fail
      go_ret
      exact ⟨by rw [HE.out,← HEk.out];rfl,HX.out⟩
end Go.Proofs.Ytlonjlaecaemgaa
