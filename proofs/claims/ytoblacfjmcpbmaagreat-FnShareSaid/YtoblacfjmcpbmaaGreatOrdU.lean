/- The walks of UseOf, the program's and the reference's. The order of uses is linear up to the label and the owner; adding a use, in plain Lean. -/
import Derived.Test.YtoblacfjmcpbmaaGreatUsesC
import Derived.Test.YtoblacfjmcpbmaaGreatUsesD
import Derived.Sort.Statements
set_option maxHeartbeats 4000000
namespace Go.Proofs.YtoblacfjmcpbmaaGreat
open Go.RowKit
attribute [local irreducible] wpQuiet
set_option maxRecDepth 50000 in
theorem indexFunc_Use {S:Nat→Prop} (l:List Use) (p:Use→Bool) (v:Value) (f:Nat) (caps:Array Value) (w:World) (h:Rd EUse S w v l) (hcall:∀ (args:Array Value) (W:World),(callFunc f args).run Tryz.prog W=.ok (.enter f args) W)
 (hf:∀ (cs:List Value) (x:Use) (w1:World),Ext w w1→EUse.rel S w1 cs x→Calls Tryz.prog f (#[.agg cs.toArray] ++ caps) w1 fun e w'=>e=.returned (.bool (p x))∧Ext w1 w') :
 Calls Tryz.prog 79 #[v,.func (.func f) #[] caps] w fun e w'=>e=.returned (.int .i64 (idxOf p l))∧Ext w w':=by
 obtain ⟨A,c,rfl,h1,h2,hk⟩:=h.open_
 unfold maxLen at h2
 have HK:=Lib.hid hk
 have HF:=Lib.hid hf
 clear hk h hf
 go_enter Tryz.func79,Tryz.ntmps79
 go_wp2_with fail
 go_loopw [8] (fun i w'=>∃ k:Nat,k≤l.length∧i=.int .i64 k∧(∀ j,j < k→p (nth l j)=false)∧Ext w w') (fun i _=>l.length - (intOf i).toNat)
 case atStart=>exact ⟨0,by omega,rfl,fun j hj=>by omega,Ext.refl _⟩
 case round =>
  obtain ⟨k,hk1,rfl,hall,hx⟩:=hrel
  have HA:=Lib.hid hall
  have HX:=Lib.hid hx
  clear hall
  by_cases hlt:k < l.length
  · obtain ⟨b,o,cs,rfl,hb,hr,hc⟩:=HK.out k hlt
    have HR:=Lib.hid (EUse.keep (hx.same S) hr)
    have HC:=Lib.hid (hx.range hc)
    have HI:Hid ((Tryz.prog.info? 75).map (·.size)=some cs.length):=Lib.hid (by rw [EUse.len hr];kernel_rfl)
    clear hr hc hx
    by_cases hp:p (nth l k)=true
    · have HE:Hid (idxOf p l=k):=Lib.hid (idxOf_some hlt HA.out hp)
      go_wp2_with (first | (refine wpList_load_mid rfl 75 _ rfl b (o+k * 4) rfl cs _ HC.out Tryz.underlying75 rfl HI.out ?_) | ((with_reducible refine (HF.out cs (nth l k) _ HX.out HR.out).mono ?_);rintro e w1 ⟨rfl,hx1⟩;have HX1:=Lib.hid hx1;clear hx1))
      go_ret
      exact ⟨ret_int HE.out.symm,HX.out.trans HX1.out⟩
    · simp only [Bool.not_eq_true] at hp
      have HE:=Lib.hid (all_succ HA.out hp)
      go_wp2_with (first | (refine wpList_load_mid rfl 75 _ rfl b (o+k * 4) rfl cs _ HC.out Tryz.underlying75 rfl HI.out ?_) | ((with_reducible refine (HF.out cs (nth l k) _ HX.out HR.out).mono ?_);rintro e w1 ⟨rfl,hx1⟩;have HX1:=Lib.hid hx1;clear hx1))
      go_roundw
      case rel=>exact ⟨k+1,by omega,by go_num,HE.out,HX.out.trans HX1.out⟩
      case measure=>simp [intOf];omega
  · have HE:Hid (idxOf p l = -1):=Lib.hid (idxOf_none fun j hj=>HA.out j (by omega))
    go_wp2_with fail
    go_ret
    exact ⟨ret_int HE.out.symm,HX.out⟩
theorem containsFunc_Use {S:Nat→Prop} (l:List Use) (p:Use→Bool) (v:Value) (f:Nat) (caps:Array Value) (w:World) (h:Rd EUse S w v l) (hcall:∀ (args:Array Value) (W:World),(callFunc f args).run Tryz.prog W=.ok (.enter f args) W)
 (hf:∀ (cs:List Value) (x:Use) (w1:World),Ext w w1→EUse.rel S w1 cs x→Calls Tryz.prog f (#[.agg cs.toArray] ++ caps) w1 fun e w'=>e=.returned (.bool (p x))∧Ext w1 w') :
 Calls Tryz.prog 62 #[v,.func (.func f) #[] caps] w fun e w'=>e=.returned (.bool (l.any p))∧Ext w w':=by
 have HE:=Lib.hid (idxOf_any (p:=p) (l:=l))
 have H:=Lib.hid (indexFunc_Use l p v f caps w h hcall hf)
 clear h hcall hf
 go_enter Tryz.func62,Tryz.ntmps62
 go_wp2_with (refine H.out.mono ?_;rintro e w1 ⟨rfl,hx1⟩;have HX1:=Lib.hid hx1;clear hx1)
 go_ret
 exact ⟨ret_bool HE.out,HX1.out⟩
theorem containsFunc_Use_1 {S:Nat→Prop} (l:List Use) (p:Use→Bool) (v:Value) (f:Nat) (c1:Value) (w:World) (h:Rd EUse S w v l) (hcall:∀ (args:Array Value) (W:World),(callFunc f args).run Tryz.prog W=.ok (.enter f args) W)
 (hf:∀ (cs:List Value) (x:Use) (w1:World),Ext w w1→EUse.rel S w1 cs x→Calls Tryz.prog f #[.agg cs.toArray,c1] w1 fun e w'=>e=.returned (.bool (p x))∧Ext w1 w') :
 Calls Tryz.prog 62 #[v,.func (.func f) #[] #[c1]] w fun e w'=>e=.returned (.bool (l.any p))∧Ext w w' :=
 containsFunc_Use l p v f #[c1] w h hcall fun cs x w1 hx hr=>by rw [show (#[.agg cs.toArray] ++ #[c1]:Array Value) = #[.agg cs.toArray,c1] from rfl];exact hf cs x w1 hx hr
theorem indexFunc_Use_2 {S:Nat→Prop} (l:List Use) (p:Use→Bool) (v:Value) (f:Nat) (c1 c2:Value) (w:World) (h:Rd EUse S w v l) (hcall:∀ (args:Array Value) (W:World),(callFunc f args).run Tryz.prog W=.ok (.enter f args) W)
 (hf:∀ (cs:List Value) (x:Use) (w1:World),Ext w w1→EUse.rel S w1 cs x→Calls Tryz.prog f #[.agg cs.toArray,c1,c2] w1 fun e w'=>e=.returned (.bool (p x))∧Ext w1 w') :
 Calls Tryz.prog 79 #[v,.func (.func f) #[] #[c1,c2]] w fun e w'=>e=.returned (.int .i64 (idxOf p l))∧Ext w w' :=
 indexFunc_Use l p v f #[c1,c2] w h hcall fun cs x w1 hx hr=>by rw [show (#[.agg cs.toArray] ++ #[c1,c2]:Array Value) = #[.agg cs.toArray,c1,c2] from rfl];exact hf cs x w1 hx hr
def isUse (a:Label) (o:ByteArray) (x:Use):Bool:=decide (x.label=a) && decide (x.owner=o)
def useOf (l:List Use) (a:Label) (o:ByteArray):Int:=if o.size≤8000∧usesRight l=true then ((l.find? (isUse a o)).map (·.used)).getD 0 else 0
theorem useOf_some {l:List Use} {a:Label} {o:ByteArray} {k:Nat} (h0:o.size≤8000) (hr:usesRight l=true) (hk:k < l.length) (h:∀ j,j < k→isUse a o (nth l j)=false) (hp:isUse a o (nth l k)=true):useOf l a o=(nth l k).used:=by
 have:l.find? (isUse a o)=some (nth l k):=by
  rw [List.find?_eq_some_iff_getElem]
  refine ⟨hp,k,hk,(nth_eq hk).symm,fun j hj=>?_⟩
  have:=h j hj
  rw [nth_eq (by omega)] at this
  simpa using this
 rw [useOf,if_pos ⟨h0,hr⟩,this];rfl
theorem useOf_none {l:List Use} {a:Label} {o:ByteArray} (h:∀ j,j < l.length→isUse a o (nth l j)=false):useOf l a o=0:=by
 have:l.find? (isUse a o)=none:=List.find?_eq_none.2 fun x hx=>by
  obtain ⟨i,hi,rfl⟩:=List.getElem_of_mem hx
  have:=h i hi
  rw [nth_eq hi] at this
  simpa using this
 rw [useOf,this]
 split <;> rfl
theorem isUse_iff {a:Label} {o:ByteArray} {x:Use}:isUse a o x=(decide (x.label.level=a.level) && decide (x.label.set=a.set) && decide (x.owner.toList=o.toList)):=by
 obtain ⟨⟨l,s⟩,p,u⟩:=x
 obtain ⟨m,t⟩:=a
 simp [isUse,bytes_iff]
theorem call_useAt1:∀ (args:Array Value) (W:World),(callFunc 80 args).run Tryz.prog W=.ok (.enter 80 args) W:=by
 intro args W
 go_simp
theorem useAt1_any {S:Nat→Prop} (x:Use) (a:Label) (o:ByteArray) (cs:List Value) (B:Nat) (w:World) (h:EUse.rel S w cs x) (d0:w.cell? ⟨B,0,none⟩=some (.int .i64 a.level)) (d1:w.cell? ⟨B,1,none⟩=some (.int .i64 a.set)) (d2:w.cell? ⟨B+1,0,none⟩=some (.string o)) :
 Calls Tryz.prog 80 #[.agg cs.toArray,.pointer (some ⟨B,0,none⟩),.pointer (some ⟨B+1,0,none⟩)] w fun e w'=>e=.returned (.bool (isUse a o x))∧Ext w w':=by
 obtain ⟨rfl,hi⟩:=h
 clear hi
 have d0':=fun ob:Obj=>Ext.some ((Ext.refl w).alloc ob) d0
 have d1':=fun ob:Obj=>Ext.some ((Ext.refl w).alloc ob) d1
 have d2':=fun ob:Obj=>Ext.some ((Ext.refl w).alloc ob) d2
 have ite__:=@ite_ok
 simp only [cellsUse]
 go_enter Tryz.func80,Tryz.ntmps80
 go_wp2_with fail
 all_goals (go_ret;exact ⟨ret_bool (by rw [isUse_iff];simp [*] <;> (rw [Bool.eq_iff_iff];simp)),(Ext.refl _).alloc _⟩)
def useIx (l:List Use) (a:Label) (o:ByteArray):Int:=idxOf (isUse a o) l
theorem useAt_any {S:Nat→Prop} (l:List Use) (a:Label) (o:ByteArray) (v:Value) (w:World) (h:Rd EUse S w v l) :
 Calls Tryz.prog 33 #[v,.agg #[.int .i64 a.level,.int .i64 a.set],.string o] w fun e w'=>e=.returned (.int .i64 (useIx l a o))∧Ext w w':=by
 have HR:=Lib.hid h
 clear h
 go_enter Tryz.func33,Tryz.ntmps33
 go_wp2_with fail
 obtain ⟨W,B,hW,hB,hx0,a0,b0⟩:=boxes2 w #[.int .i64 a.level,.int .i64 a.set] #[.string o] 24 9
 rw [← hW,← hB]
 clear hW hB
 refine (indexFunc_Use_2 l (isUse a o) v _ _ _ _ (HR.out.ext hx0) call_useAt1 (fun cs x w1 hx hr=>useAt1_any x a o cs B w1 hr ((a0.ext hx).cell 0) ((a0.ext hx).cell 1) ((b0.ext hx).cell 0))).mono ?_
 rintro e w1 ⟨rfl,hx1⟩
 clear a0 b0
 have HX:=Lib.hid (hx0.trans hx1)
 clear hx0 hx1
 go_wp2_with fail
 go_ret
 exact ⟨rfl,HX.out⟩
theorem idxOf_cases {α:Type} [Inhabited α] (p:α→Bool) (l:List α):(idxOf p l = -1∧∀ j,j < l.length→p (nth l j)=false)∨∃ k:Nat,k < l.length∧idxOf p l=k∧p (nth l k)=true∧∀ j,j < k→p (nth l j)=false:=by
 unfold idxOf
 cases h:l.findIdx? p with
 | none =>
   rw [List.findIdx?_eq_none_iff] at h
   exact .inl ⟨rfl,fun j hj=>h _ (nth_mem hj)⟩
 | some i =>
   obtain ⟨hi,hp,hb⟩:=List.findIdx?_eq_some_iff_getElem.1 h
   refine .inr ⟨i,hi,rfl,by rw [nth_eq hi];exact hp,fun j hj=>?_⟩
   have:=hb j hj
   rw [nth_eq (by omega)]
   simpa using this
theorem useAt_true {l:List Use} (hu:usesRight l=true) {k:Nat} (hk:k < l.length):useAt l k=true:=by
 simp only [usesRight,Bool.and_eq_true,List.all_eq_true] at hu
 exact hu.2 k (List.mem_range.mpr hk)
theorem useOk_true {l:List Use} (hu:usesRight l=true) {k:Nat} (hk:k < l.length):useOk (nth l k)=true:=by
 have:=useAt_true hu hk
 simp only [useAt,Bool.and_eq_true] at this
 exact this.1.1
theorem name_short {s:ByteArray} (h:nameRight s=true):s.size≤20:=by
 simp only [nameRight,Bool.and_eq_true,decide_eq_true_eq] at h
 omega
theorem short_of {l:List Use} {a:Label} {o:ByteArray} (hu:usesRight l=true) {k:Nat} (hk:k < l.length) (hp:isUse a o (nth l k)=true):o.size≤8000:=by
 have h1:=useOk_true hu hk
 simp only [useOk,Bool.and_eq_true] at h1
 simp only [isUse,Bool.and_eq_true,decide_eq_true_eq] at hp
 have:=name_short h1.1.2
 rw [hp.2] at this
 omega
theorem useOfI_any {S:Nat→Prop} (l:List Use) (a:Label) (o:ByteArray) (v:Value) (w:World) (h:Rd EUse S w v l) :
 Calls Tryz.prog 10 #[v,.agg #[.int .i64 a.level,.int .i64 a.set],.string o] w fun e w'=>e=.returned (.int .i64 (useOf l a o))∧Ext w w':=by
 have HR:=Lib.hid h
 obtain ⟨A,c,rfl,h1,h2,hk⟩:=h.open_
 unfold maxLen at h2
 have HK:=Lib.hid hk
 clear hk h
 by_cases hu:usesRight l=true
 · rcases idxOf_cases (isUse a o) l with ⟨hi,hn⟩ | ⟨k,hlt,hi,hp,hn⟩
   · have HI:Hid (useIx l a o = -1):=Lib.hid hi
     have HE:=Lib.hid (useOf_none (a:=a) (o:=o) hn)
     clear hi hn
     go_enter Tryz.func10,Tryz.ntmps10
     go_wp2_with (first | (go_at_call 33;refine (useAt_any (S:=S) l a o _ _ (HR.out.ext ((Ext.refl _).alloc _))).mono ?_;rintro e w1 ⟨rfl,hx1⟩;rw [HI.out];have HX1:=Lib.hid (((Ext.refl w).alloc _).trans hx1);clear hx1) | (go_at_call 34;refine (usesRight_any (S:=S) l _ _ (HR.out.ext HX1.out)).mono ?_;rintro e w2 ⟨rfl,hx2⟩))
     go_ret
     exact ⟨ret_int HE.out.symm,HX1.out.trans hx2⟩
   · have HI:Hid (useIx l a o=k):=Lib.hid hi
     have HE:=Lib.hid (useOf_some (short_of hu hlt hp) hu hlt hn hp)
     clear hi hn hp
     obtain ⟨b,q,cs,rfl,_,⟨rfl,hfit⟩,hc⟩:=HK.out k hlt
     have HC:=Lib.hid (hc 3 _ rfl)
     clear hc hfit
     go_enter Tryz.func10,Tryz.ntmps10
     go_wp2_with (first | (go_at_call 33;refine (useAt_any (S:=S) l a o _ _ (HR.out.ext ((Ext.refl _).alloc _))).mono ?_;rintro e w1 ⟨rfl,hx1⟩;rw [HI.out];have HX1:=Lib.hid (((Ext.refl w).alloc _).trans hx1);clear hx1) | (go_at_call 34;refine (usesRight_any (S:=S) l _ _ (HR.out.ext HX1.out)).mono ?_;rintro e w2 ⟨rfl,hx2⟩;have c3:=Ext.some (HX1.out.trans hx2) HC.out;simp only [EUse] at c3))
     go_ret
     exact ⟨ret_int HE.out.symm,HX1.out.trans hx2⟩
 · have HE:Hid (useOf l a o=0):=Lib.hid (by unfold useOf;rw [if_neg (fun h=>hu h.2)])
   simp only [Bool.not_eq_true] at hu
   go_enter Tryz.func10,Tryz.ntmps10
   go_wp2_with (first | (go_at_call 33;refine (useAt_any (S:=S) l a o _ _ (HR.out.ext ((Ext.refl _).alloc _))).mono ?_;rintro e w1 ⟨rfl,hx1⟩;have HX1:=Lib.hid (((Ext.refl w).alloc _).trans hx1);clear hx1) | (go_at_call 34;refine (usesRight_any (S:=S) l _ _ (HR.out.ext HX1.out)).mono ?_;rintro e w2 ⟨rfl,hx2⟩))
   go_ret
   exact ⟨ret_int HE.out.symm,HX1.out.trans hx2⟩
end Go.Proofs.YtoblacfjmcpbmaaGreat
namespace Go.Proofs.YtoblacfjmcpbmaaGreat
open Go.RowKit
structure Lin {α:Type} (c:α→α→Int):Prop where
 anti:∀ x y,c y x = - c x y
 trans:∀ x y z,c x y≤0→c y z≤0→c x z≤0
theorem Lin.comap {α β:Type} {c:α→α→Int} (h:Lin c) (f:β→α):Lin fun x y=>c (f x) (f y):=⟨fun _ _=>h.anti _ _,fun _ _ _=>h.trans _ _ _⟩
theorem Lin.self {α:Type} {c:α→α→Int} (h:Lin c) (x:α):c x x=0:=by have:=h.anti x x;omega
theorem Lin.lex {α:Type} {c d:α→α→Int} (h:Lin c) (k:Lin d):Lin fun x y=>if c x y=0 then d x y else c x y:=by
 refine ⟨fun x y=>?_,fun x y z=>?_⟩
 · have h1:=h.anti x y
   have h2:=k.anti x y
   split <;> split <;> omega
 · have a1:=h.anti x y
   have a2:=h.anti y z
   have a3:=h.anti x z
   have t1:=h.trans x y z
   have t2:=h.trans z x y
   have t3:=h.trans y z x
   have k1:=k.trans x y z
   split <;> split <;> split <;> omega
theorem lin_cmp3:Lin cmp3:=by
 refine ⟨fun x y=>?_,fun x y z=>?_⟩ <;> unfold cmp3
 · (repeat' split) <;> omega
 · (repeat' split) <;> omega
theorem bytes_anti:∀ a b:List UInt8,Lib.compareBytes b a = - Lib.compareBytes a b
 | [],[]=>rfl
 | [],_ :: _=>rfl
 | _ :: _,[]=>rfl
 | a :: l,b :: m=>by
   have ih:=bytes_anti l m
   unfold Lib.compareBytes
   by_cases h1:a < b
   · have h2:¬ b < a:=fun h=>absurd (UInt8.lt_trans h1 h) (UInt8.lt_irrefl _)
     simp [h1,h2]
   · by_cases h2:b < a
     · simp [h1,h2]
     · simp [h1,h2,ih]
theorem bytes_trans:∀ a b c:List UInt8,Lib.compareBytes a b≤0→Lib.compareBytes b c≤0→Lib.compareBytes a c≤0
 | [],_,[],_,_=>by simp [Lib.compareBytes]
 | [],_,_ :: _,_,_=>by simp [Lib.compareBytes]
 | _ :: _,[],_,h,_=>by simp [Lib.compareBytes] at h
 | _ :: _,_ :: _,[],_,h=>by simp [Lib.compareBytes] at h
 | a :: l,b :: m,c :: n,h,k=>by
   have ih:=bytes_trans l m n
   unfold Lib.compareBytes at h k ⊢
   by_cases h1:a < b
   · by_cases k1:b < c
     · simp [UInt8.lt_trans h1 k1]
     · by_cases k2:c < b
       · simp [k1,k2] at k
       · obtain rfl:b=c:=UInt8.le_antisymm (UInt8.not_lt.mp k2) (UInt8.not_lt.mp k1)
         simp [h1]
   · by_cases h2:b < a
     · simp [h1,h2] at h
     · obtain rfl:a=b:=UInt8.le_antisymm (UInt8.not_lt.mp h2) (UInt8.not_lt.mp h1)
       simp only [h1,if_false] at h
       by_cases k1:a < c
       · simp [k1]
       · by_cases k2:c < a
         · simp [k1,k2] at k
         · simp only [k1,k2,if_false] at k ⊢
           exact ih h k
theorem bytes_eq:∀ a b:List UInt8,Lib.compareBytes a b=0→a=b
 | [],[],_=>rfl
 | [],_ :: _,h=>by simp [Lib.compareBytes] at h
 | _ :: _,[],h=>by simp [Lib.compareBytes] at h
 | a :: l,b :: m,h=>by
   unfold Lib.compareBytes at h
   by_cases h1:a < b
   · simp [h1] at h
   · by_cases h2:b < a
     · simp [h1,h2] at h
     · simp only [h1,h2,if_false] at h
       obtain rfl:a=b:=UInt8.le_antisymm (UInt8.not_lt.mp h2) (UInt8.not_lt.mp h1)
       rw [bytes_eq l m h]
theorem orOf_two (a b:Int):orOf [a,b]=if a=0 then b else a:=by
 simp only [orOf]
 split <;> (try split) <;> simp_all
theorem lin_uses:Lin cmpUses:=by
 have h1:Lin cmpLabels:=by
  have:=Lin.lex (lin_cmp3.comap Label.level) (lin_cmp3.comap Label.set)
  have e:cmpLabels=fun x y=>if cmp3 x.level y.level=0 then cmp3 x.set y.set else cmp3 x.level y.level:=by funext x y;rw [cmpLabels,orOf_two]
  rw [e];exact this
 have h2:Lin Lib.compareBytes:=⟨bytes_anti,bytes_trans⟩
 have:=Lin.lex (h1.comap Use.label) (h2.comap fun x:Use=>x.owner.data.toList)
 have e:cmpUses=fun x y=>if cmpLabels x.label y.label=0 then Lib.compareBytes x.owner.data.toList y.owner.data.toList else cmpLabels x.label y.label:=by funext x y;rw [cmpUses,orOf_two]
 rw [e];exact this
theorem cmp3_eq {a b:Int} (h:cmp3 a b=0):a=b:=by
 unfold cmp3 at h
 split at h
 · omega
 · split at h <;> omega
theorem cmpUses_eq {x y:Use} (h:cmpUses x y=0):x.label=y.label∧x.owner=y.owner:=by
 rw [cmpUses,orOf_two] at h
 have h1:cmpLabels x.label y.label=0:=by split at h <;> omega
 rw [if_pos h1] at h
 rw [cmpLabels,orOf_two] at h1
 have h2:cmp3 x.label.level y.label.level=0:=by split at h1 <;> omega
 rw [if_pos h2] at h1
 have e:=bytes_eq _ _ h
 refine ⟨Label.ext (cmp3_eq h2) (cmp3_eq h1),ByteArray.ext (Array.toList_inj.1 e)⟩
end Go.Proofs.YtoblacfjmcpbmaaGreat
