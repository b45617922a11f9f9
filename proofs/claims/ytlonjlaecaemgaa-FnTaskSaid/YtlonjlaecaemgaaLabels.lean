/- The walks of NameRight, the program's and the reference's: both answer nameRight. The walks of LabelRight, isWork, isNow and WishRight, the program's and the reference's. -/
import Derived.Test.YtlonjlaecaemgaaSmall
set_option maxHeartbeats 4000000
namespace Go.Proofs.Ytlonjlaecaemgaa
open Go.RowKit
attribute [local irreducible] wpQuiet
def byteAt (s:ByteArray) (k:Nat):Nat:=if h:k < s.size then (s[k]'h).toNat else 0
theorem byteAt_eq {s:ByteArray} {k:Nat} (h:k < s.size):(s[k]'h).toNat=byteAt s k:=by rw [byteAt,dif_pos h]
theorem byteAt_lt (s:ByteArray) (k:Nat):byteAt s k < 256:=by
 unfold byteAt
 split
 · exact (s[k]).toNat_lt
 · decide
def lowB (c:Nat):Bool:=decide (97≤c∧c≤122)
def restB (c:Nat):Bool:=lowB c || decide (48≤c∧c≤57) || decide (c=95)
def nameAt (s:ByteArray) (k:Nat):Bool:=if k=0 then lowB (byteAt s 0) else restB (byteAt s k)
def nameRight (s:ByteArray):Bool:=decide (1≤s.size∧s.size≤20) && (List.range s.size).all (nameAt s)
theorem nameRight_size {s:ByteArray} (h:¬ (1≤s.size∧s.size≤20)):nameRight s=false:=by unfold nameRight;rw [decide_eq_false h];rfl
theorem nameRight_bad {s:ByteArray} {k:Nat} (hk:k < s.size) (h:nameAt s k=false):nameRight s=false:=by
 unfold nameRight
 rw [Bool.and_eq_false_iff]
 right
 rw [List.all_eq_false]
 exact ⟨k,List.mem_range.2 hk,by simp [h]⟩
theorem nameRight_of {s:ByteArray} (h:1≤s.size∧s.size≤20) (ha:∀ k,k < s.size→nameAt s k=true):nameRight s=true:=by
 unfold nameRight
 rw [decide_eq_true h,Bool.true_and]
 exact List.all_eq_true.2 fun i hi=>ha i (List.mem_range.1 hi)
theorem specNameRight_any (s:ByteArray) (w:World) (hs:Str s) :
 Calls Try.prog 46 #[.string s] w fun e w'=>e=.returned (.bool (nameRight s))∧w=w':=by
 unfold Str maxLen at hs
 by_cases h1:s.size < 1
 · have HF:=Lib.hid (nameRight_size (s:=s) (by omega))
   go_enter Try.func46,Try.ntmps46
   go_wp2_with fail
   go_ret
   exact ⟨ret_bool HF.out.symm,rfl⟩
 · have h1':1≤s.size:=by omega
   clear h1
   by_cases h2:20 < s.size
   · have HF:=Lib.hid (nameRight_size (s:=s) (by omega))
     go_enter Try.func46,Try.ntmps46
     go_wp2_with fail
     go_ret
     exact ⟨ret_bool HF.out.symm,rfl⟩
   · have h2':s.size≤20:=by omega
     clear h2
     go_enter Try.func46,Try.ntmps46
     go_wp2_with fail
     go_loop [3,4] (fun i _=>∃ k:Nat,k≤s.size∧i=.int .i64 k∧(∀ j,j < k→nameAt s j=true)) (fun i _=>s.size - (intOf i).toNat)
     case atStart=>exact ⟨0,by omega,rfl,fun j hj=>by omega⟩
     case round =>
      obtain ⟨k,hk1,rfl,hall⟩:=hrel
      have HA:=Lib.hid hall
      clear hall
      by_cases hlt:k < s.size
      · have HB:=Lib.hid (byteAt_eq hlt)
        have hb:=byteAt_lt s k
        rcases Nat.eq_zero_or_pos k with h0 | h0
        · subst h0
          go_wp2_with fail
          all_goals first
           | (go_ret;refine ⟨ret_bool (nameRight_bad hlt ?_).symm,rfl⟩;have hc:=HB.out;go_light;clear HA;simp only [nameAt,if_true,lowB];rw [← hc];simp_all;try omega)
           | (refine ⟨⟨1,by omega,by go_num,all_succ HA.out ?_⟩,by simp [intOf];omega⟩;have hc:=HB.out;go_light;clear HA;simp only [nameAt,if_true,lowB];rw [← hc];simp_all;try omega)
        · have e0:((k:Int) == 0)=false:=by simp;omega
          go_wp2_with fail
          all_goals first
           | (go_ret;refine ⟨ret_bool (nameRight_bad hlt ?_).symm,rfl⟩;have hc:=HB.out;go_light;clear HA;rw [nameAt,if_neg (by omega),← hc];simp_all [restB,lowB];try omega)
           | (refine ⟨⟨k+1,by omega,by go_num,all_succ HA.out ?_⟩,by simp [intOf];omega⟩;have hc:=HB.out;go_light;clear HA;rw [nameAt,if_neg (by omega),← hc];simp_all [restB,lowB];try omega)
      · have HF:=Lib.hid (nameRight_of ⟨h1',h2'⟩ fun j hj=>HA.out j (by omega))
        go_wp2_with fail
        go_ret
        exact ⟨ret_bool HF.out.symm,rfl⟩
theorem nameRight_any (s:ByteArray) (w:World) (hs:Str s) :
 Calls Try.prog 38 #[.string s] w fun e w'=>e=.returned (.bool (nameRight s))∧w=w':=by
 unfold Str maxLen at hs
 by_cases h1:s.size < 1
 · have HF:=Lib.hid (nameRight_size (s:=s) (by omega))
   go_enter Try.func38,Try.ntmps38
   go_wp2_with fail
   go_ret
   exact ⟨ret_bool HF.out.symm,rfl⟩
 · have h1':1≤s.size:=by omega
   clear h1
   by_cases h2:20 < s.size
   · have HF:=Lib.hid (nameRight_size (s:=s) (by omega))
     go_enter Try.func38,Try.ntmps38
     go_wp2_with fail
     go_ret
     exact ⟨ret_bool HF.out.symm,rfl⟩
   · have h2':s.size≤20:=by omega
     clear h2
     have hlt0:0 < s.size:=by omega
     have HB0:=Lib.hid (byteAt_eq hlt0)
     by_cases hl:((s[0]'hlt0).toNat:Int) < 97
     · have HF:=Lib.hid (nameRight_bad hlt0 (by rw [nameAt,if_pos rfl,← HB0.out];simp only [lowB,decide_eq_false_iff_not];omega))
       go_enter Try.func38,Try.ntmps38
       go_wp2_with fail
       go_ret
       exact ⟨ret_bool HF.out.symm,rfl⟩
     · have hl':97≤((s[0]'hlt0).toNat:Int):=by omega
       clear hl
       by_cases hu:122 < ((s[0]'hlt0).toNat:Int)
       · have HF:=Lib.hid (nameRight_bad hlt0 (by rw [nameAt,if_pos rfl,← HB0.out];simp only [lowB,decide_eq_false_iff_not];omega))
         go_enter Try.func38,Try.ntmps38
         go_wp2_with fail
         go_ret
         exact ⟨ret_bool HF.out.symm,rfl⟩
       · have hu':((s[0]'hlt0).toNat:Int)≤122:=by omega
         clear hu
         have HL:Hid (nameAt s 0=true):=Lib.hid (by rw [nameAt,if_pos rfl,← HB0.out];simp only [lowB,decide_eq_true_iff];omega)
         go_enter Try.func38,Try.ntmps38
         go_wp2_with fail
         go_loop [25] (fun i=>∃ k:Nat,k≤s.size∧i=.int .i64 k∧(∀ j,j < k→nameAt s j=true)) (fun i=>s.size - (intOf i).toNat)
         case atStart=>exact ⟨0,by omega,rfl,fun j hj=>by omega⟩
         case round =>
          obtain ⟨k,hk1,rfl,hall⟩:=hrel
          have HA:=Lib.hid hall
          clear hall
          by_cases hlt:k < s.size
          · have HB:=Lib.hid (byteAt_eq hlt)
            have hb:=byteAt_lt s k
            rcases Nat.eq_zero_or_pos k with h0 | h0
            · subst h0
              go_wp2_with fail
              all_goals (refine ⟨⟨1,by omega,by go_num,all_succ HA.out HL.out⟩,by simp [intOf];omega⟩)
            · clear hl' hu'
              go_wp2_with fail
              all_goals first
               | (go_ret;refine ⟨ret_bool (nameRight_bad hlt ?_).symm,rfl⟩;have hc:=HB.out;go_light;clear HA;rw [nameAt,if_neg (by omega),← hc];simp_all [restB,lowB];try omega)
               | (refine ⟨⟨k+1,by omega,by go_num,all_succ HA.out ?_⟩,by simp [intOf];omega⟩;have hc:=HB.out;go_light;clear HA;rw [nameAt,if_neg (by omega),← hc];simp_all [restB,lowB];try omega)
          · have HF:=Lib.hid (nameRight_of ⟨h1',h2'⟩ fun j hj=>HA.out j (by omega))
            go_wp2_with fail
            go_ret
            exact ⟨ret_bool HF.out.symm,rfl⟩
end Go.Proofs.Ytlonjlaecaemgaa
namespace Go.Proofs.Ytlonjlaecaemgaa
open Go.RowKit
attribute [local irreducible] wpQuiet
def labelRight (a:Label):Bool:=isB a.level 0 3 && isB a.set 0 7
def isWorkB (need long prio:Int):Bool:=isB need 1 6 && isB long 1 20 && isB prio 0 9
def nowOk (n:Int):Bool:=isB n 0 999900
theorem specLabelRight_any {S:Nat→Prop} (x:Label) (cs:List Value) (w:World) (h:ELabel.rel S w cs x) :
 Calls Try.prog 45 #[.agg cs.toArray] w fun e w'=>e=.returned (.bool (labelRight x))∧Ext w w':=by
 obtain ⟨rfl,hi⟩:=h
 clear hi
 simp only [cellsLabel]
 go_enter Try.func45,Try.ntmps45
 go_wp2_with (go_at_call 32;refine (l02Is_any _ _ _ _).mono ?_;rintro e w' ⟨rfl,rfl⟩)
 all_goals (go_ret;exact ⟨ret_bool (by simp_all [labelRight]),(Ext.refl _).alloc _⟩)
theorem labelRight_any {S:Nat→Prop} (x:Label) (cs:List Value) (w:World) (h:ELabel.rel S w cs x) :
 Calls Try.prog 36 #[.agg cs.toArray] w fun e w'=>e=.returned (.bool (labelRight x))∧Ext w w':=by
 obtain ⟨rfl,hi⟩:=h
 clear hi
 simp only [cellsLabel]
 go_enter Try.func36,Try.ntmps36
 go_wp2_with (go_at_call 37;refine (within_any _ _ _ _).mono ?_;rintro e w' ⟨rfl,rfl⟩)
 all_goals (go_ret;exact ⟨ret_bool (by simp_all [labelRight]),(Ext.refl _).alloc _⟩)
theorem isWork_any (a b c:Int) (w:World) :
 Calls Try.prog 39 #[.int .i64 a,.int .i64 b,.int .i64 c] w fun e w'=>e=.returned (.bool (isWorkB a b c))∧w=w':=by
 go_enter Try.func39,Try.ntmps39
 go_wp2_with (go_at_call 37;refine (within_any _ _ _ _).mono ?_;rintro e w' ⟨rfl,rfl⟩)
 all_goals (go_ret;exact ⟨ret_bool (by simp_all [isWorkB]),rfl⟩)
theorem l03Now_any (n:Int) (w:World) :
 Calls Try.prog 47 #[.int .i64 n] w fun e w'=>e=.returned (.bool (nowOk n))∧w=w':=by
 go_enter Try.func47,Try.ntmps47
 go_wp2_with (go_at_call 32;refine (l02Is_any _ _ _ _).mono ?_;rintro e w' ⟨rfl,rfl⟩)
 go_ret
 exact ⟨rfl,rfl⟩
theorem isNow_any (n:Int) (w:World) :
 Calls Try.prog 40 #[.int .i64 n] w fun e w'=>e=.returned (.bool (nowOk n))∧w=w':=by
 go_enter Try.func40,Try.ntmps40
 go_wp2_with (go_at_call 37;refine (within_any _ _ _ _).mono ?_;rintro e w' ⟨rfl,rfl⟩)
 go_ret
 exact ⟨rfl,rfl⟩
end Go.Proofs.Ytlonjlaecaemgaa
