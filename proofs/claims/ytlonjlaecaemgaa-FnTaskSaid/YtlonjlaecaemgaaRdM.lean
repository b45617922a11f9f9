/- The methods of the reader. Printed by wip/rdm.py. -/
import Derived.Test.YtlonjlaecaemgaaGetT
import Derived.Test.YtlonjlaecaemgaaTaskRI
set_option maxHeartbeats 8000000
set_option maxRecDepth 100000
namespace Go.Proofs.Ytlonjlaecaemgaa
open Go.RowKit
attribute [local irreducible] wpQuiet
def rdNum (t:ByteArray) (a c:Int):Int × Int × Int:=if c=0 then ((getNum t a).num,(getNum t a).at_,(getNum t a).code) else (0,a,c)
def rdStr (t:ByteArray) (a c:Int):ByteArray × Int × Int:=if c=0 then ((getText t a).text,(getText t a).at_,(getText t a).code) else (⟨#[]⟩,a,c)
def RFit (a c:Int):Prop:=I64 a∧I64 c
theorem rdNum_fit {t:ByteArray} {a c:Int} (ht:Str t) (h:RFit a c):I64 (rdNum t a c).1∧RFit (rdNum t a c).2.1 (rdNum t a c).2.2:=by
 obtain ⟨h1,h2,h3,h4,h5⟩:=getNum_fit t a
 unfold Str maxLen at ht
 unfold rdNum
 split
 · refine ⟨h1,?_,?_⟩ <;> unfold I64 <;> simp only <;> omega
 · exact ⟨by unfold I64;simp,h⟩
theorem rdStr_fit {t:ByteArray} {a c:Int} (h:RFit a c):Str (rdStr t a c).1∧RFit (rdStr t a c).2.1 (rdStr t a c).2.2:=by
 obtain ⟨h1,h2,h3,h4,h5⟩:=getText_fit t a
 unfold rdStr
 split
 · refine ⟨h1,?_,?_⟩ <;> unfold I64 <;> simp only <;> omega
 · exact ⟨Nat.zero_le _,h⟩
theorem box3 {V w:World} {a b c:Value} {T:TypeId} (h:Ext (V.alloc (.cells #[a,b,c] T)) w):w.cell? ⟨V.heap.size,0,none⟩=some a∧w.cell? ⟨V.heap.size,1,none⟩=some b∧w.cell? ⟨V.heap.size,2,none⟩=some c∧w.frozen? ⟨V.heap.size,0,none⟩=false∧w.frozen? ⟨V.heap.size,1,none⟩=false∧w.frozen? ⟨V.heap.size,2,none⟩=false:=by
 have hb:=(Blk.new V T #[a,b,c]).ext h
 exact ⟨hb.cell 0,hb.cell 1,hb.cell 2,hb.frozen 0,hb.frozen 1,hb.frozen 2⟩
theorem keepA {W:World} {B:Nat} (i:Nat) (v:Value):Kept [B] W (W.setCell ⟨B,i,none⟩ v).drew:=by
 have h1:=(Kept.refl [B] W).setCell (p:=⟨B,i,none⟩) (List.mem_singleton.2 rfl) v
 exact h1.trans (Kept.of_ext (Ext.refl _).drew)
theorem keepB {W:World} {B:Nat} (i:Nat) (v:Value) (j:Nat) (u:Value):Kept [B] W ((W.setCell ⟨B,i,none⟩ v).setCell ⟨B,j,none⟩ u).drew:=by
 have h1:=(Kept.refl [B] W).setCell (p:=⟨B,i,none⟩) (List.mem_singleton.2 rfl) v
 have h2:=h1.setCell (p:=⟨B,j,none⟩) (List.mem_singleton.2 rfl) u
 exact h2.trans (Kept.of_ext (Ext.refl _).drew)
theorem set12 {W:World} {B:Nat} {T:TypeId} {t a c a' c':Value} (h:Blk W B T #[t,a,c]):Blk ((W.setCell ⟨B,1,none⟩ a').setCell ⟨B,2,none⟩ c').drew B T #[t,a',c']:=by
 simpa using ((h.set_ 1 a').set_ 2 c').ext (Ext.refl _).drew
theorem box3d {V w:World} {a b c:Value} {T:TypeId} (h:Ext (V.alloc (.cells #[a,b,c] T)).drew w):w.cell? ⟨V.heap.size,0,none⟩=some a∧w.cell? ⟨V.heap.size,1,none⟩=some b∧w.cell? ⟨V.heap.size,2,none⟩=some c∧w.frozen? ⟨V.heap.size,0,none⟩=false∧w.frozen? ⟨V.heap.size,1,none⟩=false∧w.frozen? ⟨V.heap.size,2,none⟩=false:=by
 have hb:Blk (V.alloc (.cells #[a,b,c] T)).drew V.heap.size T #[a,b,c]:=Blk.new V T #[a,b,c]
 have hb:=hb.ext h
 exact ⟨hb.cell 0,hb.cell 1,hb.cell 2,hb.frozen 0,hb.frozen 1,hb.frozen 2⟩
theorem rdNum_any (t:ByteArray) (a c:Int) (B:Nat) (w:World) (hb:Blk w B 54 #[.string t,.int .i64 a,.int .i64 c]) (ht:Str t) (hf:RFit a c) :
 Calls Try.prog 66 #[.pointer (some ⟨B,0,none⟩)] w fun e w'=>e=.returned (.int .i64 (rdNum t a c).1)∧Blk w' B 54 #[.string t,.int .i64 (rdNum t a c).2.1,.int .i64 (rdNum t a c).2.2]∧Kept [B] w w':=by
 have HT:=Lib.hid ht
 have HA:=Lib.hid hf.1
 have HB:=Lib.hid hb
 clear ht hf
 by_cases hc:c=0
 · subst hc
   have HE:Hid (rdNum t a 0=((getNum t a).num,(getNum t a).at_,(getNum t a).code)):=Lib.hid (by rw [rdNum,if_pos rfl])
   rw [HE.out]
   have c2:w.cell? ⟨B,2,none⟩=some (.int .i64 0):=HB.out.cell 2
   have al0:∀ V,Ext w V→V.cell? ⟨B,0,none⟩=some (.string t):=fun V hV=>Ext.some hV (HB.out.cell 0)
   have al1:∀ V,Ext w V→V.cell? ⟨B,1,none⟩=some (.int .i64 a):=fun V hV=>Ext.some hV (HB.out.cell 1)
   generalize ho:getNum t a=o at *
   have HO:=Lib.hid ho
   clear ho
   go_enter Try.func66,Try.ntmps66
   go_upto_region 3 with (fail)
   clear c2
   go_region_held3 (fun V=>Ext w V) (first | exact Ext.refl _ | exact (Ext.refl _).drew | assumption | exact Ext.alloc (by assumption) _ | exact Ext.trans (by assumption) HX1.out | exact Ext.alloc XW1.out _ | exact ((XW1.out.setCell (Nat.le_refl _) _).setCell (Nat.le_refl _) _).setCell (Nat.le_refl _) _ | exact setCells_ext (Ext.size (by assumption)) _ _ _ (Ext.alloc (by assumption) _)) (first | (go_at_call 79;(with_reducible refine (getNum_any t a _ HT.out).mono ?_);rintro e w1 ⟨rfl,hx1⟩;rw [HO.out];have HX1:=Lib.hid hx1;have XW1:Hid (Ext w w1):=Lib.hid (Ext.trans (by assumption) hx1);(try ((first | (with_reducible have z:=box3 hx1) | (with_reducible have z:=box3d hx1));obtain ⟨z0,z1,z2,z3,z4,z5⟩:=z));clear hx1))
   · skip
     obtain ⟨W2,N,hW,hN,hx2,hge,n⟩:∃ W N,W=w1.alloc (.cells #[.int .i64 o.num,.int .i64 o.at_,.int .i64 o.code] 59)∧N=w1.heap.size∧Ext w W∧w.heap.size≤N∧Blk W N 59 #[.int .i64 o.num,.int .i64 o.at_,.int .i64 o.code]:=⟨_,_,rfl,rfl,XW1.out.alloc _,XW1.out.size,Blk.new _ _ _⟩
     rw [← hW,← hN]
     have X2:=Lib.hid hx2
     have HN2:=Lib.hid n
     have HNB:Hid (N≠B):=Lib.hid (by have:=HB.out.lt;omega)
     have HB2:=Lib.hid (HB.out.ext hx2)
     have m0:∀ V,Kept [B] W2 V→V.cell? ⟨N,0,none⟩=some (.int .i64 o.num):=fun V hV=>hV.cell (by simpa using HNB.out) (HN2.out.cell 0)
     have m1:∀ V,Kept [B] W2 V→V.cell? ⟨N,1,none⟩=some (.int .i64 o.at_):=fun V hV=>hV.cell (by simpa using HNB.out) (HN2.out.cell 1)
     have m2:∀ V,Kept [B] W2 V→V.cell? ⟨N,2,none⟩=some (.int .i64 o.code):=fun V hV=>hV.cell (by simpa using HNB.out) (HN2.out.cell 2)
     have b1:W2.cell? ⟨B,1,none⟩=some (.int .i64 a):=HB2.out.cell 1
     have b2:W2.cell? ⟨B,2,none⟩=some (.int .i64 0):=HB2.out.cell 2
     have q1:=HB2.out.frozen 1
     have q2:=HB2.out.frozen 2
     clear hW hN hx2 hge n al0 al1
     go_wp2_with fail
     go_region_held3 (fun V=>Kept [B] W2 V) (first | exact Kept.of_ext (Ext.refl _).drew | exact keepA _ _ | exact keepB _ _ _ _ | assumption) (fail)
     · skip
       obtain ⟨W3,hW3,hk3,hb3⟩:∃ W3,W3=((W2.setCell ⟨B,1,none⟩ (.int .i64 o.at_)).setCell ⟨B,2,none⟩ (.int .i64 o.code)).drew∧Kept [B] W2 W3∧Blk W3 B 54 #[.string t,.int .i64 o.at_,.int .i64 o.code]:=⟨_,rfl,keepB _ _ _ _,set12 HB2.out⟩
       rw [← hW3]
       have m:=m0 _ hk3
       have HK3:=Lib.hid hk3
       have HB3:=Lib.hid hb3
       clear hW3 hk3 hb3 m0 m1 m2 b1 b2 q1 q2
       go_wp2_with fail
       go_ret
       exact ⟨rfl,HB3.out,(Kept.of_ext X2.out).trans HK3.out⟩
   · skip
     obtain ⟨W2,N,hW,hN,hx2,hge,n⟩:∃ W N,W=((w1.setCell ⟨w.heap.size,0,none⟩ (.int .i64 o.num)).setCell ⟨w.heap.size,1,none⟩ (.int .i64 o.at_)).setCell ⟨w.heap.size,2,none⟩ (.int .i64 o.code)∧N=w.heap.size∧Ext w W∧w.heap.size≤N∧Blk W N 59 #[.int .i64 o.num,.int .i64 o.at_,.int .i64 o.code]:=⟨_,_,rfl,rfl,((XW1.out.setCell (Nat.le_refl _) _).setCell (Nat.le_refl _) _).setCell (Nat.le_refl _) _,Nat.le_refl _,by simpa using (((Blk.ext (show Blk (w.alloc (.cells #[.int .i64 0,.int .i64 0,.int .i64 0] 59)).drew w.heap.size 59 _ from Blk.new w _ _) HX1.out).set_ 0 (.int .i64 o.num)).set_ 1 (.int .i64 o.at_)).set_ 2 (.int .i64 o.code)⟩
     rw [← hW]
     rw [← hN]
     have X2:=Lib.hid hx2
     have HN2:=Lib.hid n
     have HNB:Hid (N≠B):=Lib.hid (by have:=HB.out.lt;omega)
     have HB2:=Lib.hid (HB.out.ext hx2)
     have m0:∀ V,Kept [B] W2 V→V.cell? ⟨N,0,none⟩=some (.int .i64 o.num):=fun V hV=>hV.cell (by simpa using HNB.out) (HN2.out.cell 0)
     have m1:∀ V,Kept [B] W2 V→V.cell? ⟨N,1,none⟩=some (.int .i64 o.at_):=fun V hV=>hV.cell (by simpa using HNB.out) (HN2.out.cell 1)
     have m2:∀ V,Kept [B] W2 V→V.cell? ⟨N,2,none⟩=some (.int .i64 o.code):=fun V hV=>hV.cell (by simpa using HNB.out) (HN2.out.cell 2)
     have b1:W2.cell? ⟨B,1,none⟩=some (.int .i64 a):=HB2.out.cell 1
     have b2:W2.cell? ⟨B,2,none⟩=some (.int .i64 0):=HB2.out.cell 2
     have q1:=HB2.out.frozen 1
     have q2:=HB2.out.frozen 2
     clear hW hN hx2 hge n al0 al1
     go_wp2_with fail
     go_region_held3 (fun V=>Kept [B] W2 V) (first | exact Kept.of_ext (Ext.refl _).drew | exact keepA _ _ | exact keepB _ _ _ _ | assumption) (fail)
     · skip
       obtain ⟨W3,hW3,hk3,hb3⟩:∃ W3,W3=((W2.setCell ⟨B,1,none⟩ (.int .i64 o.at_)).setCell ⟨B,2,none⟩ (.int .i64 o.code)).drew∧Kept [B] W2 W3∧Blk W3 B 54 #[.string t,.int .i64 o.at_,.int .i64 o.code]:=⟨_,rfl,keepB _ _ _ _,set12 HB2.out⟩
       rw [← hW3]
       have m:=m0 _ hk3
       have HK3:=Lib.hid hk3
       have HB3:=Lib.hid hb3
       clear hW3 hk3 hb3 m0 m1 m2 b1 b2 q1 q2
       go_wp2_with fail
       go_ret
       exact ⟨rfl,HB3.out,(Kept.of_ext X2.out).trans HK3.out⟩
 · have HE:Hid (rdNum t a c=(0,a,c)):=Lib.hid (by rw [rdNum,if_neg hc])
   rw [HE.out]
   have c2:w.cell? ⟨B,2,none⟩=some (.int .i64 c):=HB.out.cell 2
   go_enter Try.func66,Try.ntmps66
   go_wp2_with fail
   go_ret
   exact ⟨rfl,HB.out,Kept.refl _ _⟩
theorem rdStr_any (t:ByteArray) (a c:Int) (B:Nat) (w:World) (hb:Blk w B 54 #[.string t,.int .i64 a,.int .i64 c]) (ht:Str t) (hf:RFit a c) :
 Calls Try.prog 67 #[.pointer (some ⟨B,0,none⟩)] w fun e w'=>e=.returned (.string (rdStr t a c).1)∧Blk w' B 54 #[.string t,.int .i64 (rdStr t a c).2.1,.int .i64 (rdStr t a c).2.2]∧Kept [B] w w':=by
 have HT:=Lib.hid ht
 have HA:=Lib.hid hf.1
 have HB:=Lib.hid hb
 clear ht hf
 by_cases hc:c=0
 · subst hc
   have HE:Hid (rdStr t a 0=((getText t a).text,(getText t a).at_,(getText t a).code)):=Lib.hid (by rw [rdStr,if_pos rfl])
   rw [HE.out]
   have c2:w.cell? ⟨B,2,none⟩=some (.int .i64 0):=HB.out.cell 2
   have al0:∀ V,Ext w V→V.cell? ⟨B,0,none⟩=some (.string t):=fun V hV=>Ext.some hV (HB.out.cell 0)
   have al1:∀ V,Ext w V→V.cell? ⟨B,1,none⟩=some (.int .i64 a):=fun V hV=>Ext.some hV (HB.out.cell 1)
   generalize ho:getText t a=o at *
   have HO:=Lib.hid ho
   clear ho
   go_enter Try.func67,Try.ntmps67
   go_upto_region 3 with (fail)
   clear c2
   go_region_held3 (fun V=>Ext w V) (first | exact Ext.refl _ | exact (Ext.refl _).drew | assumption | exact Ext.alloc (by assumption) _ | exact Ext.trans (by assumption) HX1.out | exact Ext.alloc XW1.out _ | exact ((XW1.out.setCell (Nat.le_refl _) _).setCell (Nat.le_refl _) _).setCell (Nat.le_refl _) _ | exact setCells_ext (Ext.size (by assumption)) _ _ _ (Ext.alloc (by assumption) _)) (first | (go_at_call 80;(with_reducible refine (getText_any t a _ HA.out HT.out).mono ?_);rintro e w1 ⟨rfl,hx1⟩;rw [HO.out];have HX1:=Lib.hid hx1;have XW1:Hid (Ext w w1):=Lib.hid (Ext.trans (by assumption) hx1);(try ((first | (with_reducible have z:=box3 hx1) | (with_reducible have z:=box3d hx1));obtain ⟨z0,z1,z2,z3,z4,z5⟩:=z));clear hx1))
   · skip
     obtain ⟨W2,N,hW,hN,hx2,hge,n⟩:∃ W N,W=w1.alloc (.cells #[.string o.text,.int .i64 o.at_,.int .i64 o.code] 56)∧N=w1.heap.size∧Ext w W∧w.heap.size≤N∧Blk W N 56 #[.string o.text,.int .i64 o.at_,.int .i64 o.code]:=⟨_,_,rfl,rfl,XW1.out.alloc _,XW1.out.size,Blk.new _ _ _⟩
     rw [← hW,← hN]
     have X2:=Lib.hid hx2
     have HN2:=Lib.hid n
     have HNB:Hid (N≠B):=Lib.hid (by have:=HB.out.lt;omega)
     have HB2:=Lib.hid (HB.out.ext hx2)
     have m0:∀ V,Kept [B] W2 V→V.cell? ⟨N,0,none⟩=some (.string o.text):=fun V hV=>hV.cell (by simpa using HNB.out) (HN2.out.cell 0)
     have m1:∀ V,Kept [B] W2 V→V.cell? ⟨N,1,none⟩=some (.int .i64 o.at_):=fun V hV=>hV.cell (by simpa using HNB.out) (HN2.out.cell 1)
     have m2:∀ V,Kept [B] W2 V→V.cell? ⟨N,2,none⟩=some (.int .i64 o.code):=fun V hV=>hV.cell (by simpa using HNB.out) (HN2.out.cell 2)
     have b1:W2.cell? ⟨B,1,none⟩=some (.int .i64 a):=HB2.out.cell 1
     have b2:W2.cell? ⟨B,2,none⟩=some (.int .i64 0):=HB2.out.cell 2
     have q1:=HB2.out.frozen 1
     have q2:=HB2.out.frozen 2
     clear hW hN hx2 hge n al0 al1
     go_wp2_with fail
     go_region_held3 (fun V=>Kept [B] W2 V) (first | exact Kept.of_ext (Ext.refl _).drew | exact keepA _ _ | exact keepB _ _ _ _ | assumption) (fail)
     · skip
       obtain ⟨W3,hW3,hk3,hb3⟩:∃ W3,W3=((W2.setCell ⟨B,1,none⟩ (.int .i64 o.at_)).setCell ⟨B,2,none⟩ (.int .i64 o.code)).drew∧Kept [B] W2 W3∧Blk W3 B 54 #[.string t,.int .i64 o.at_,.int .i64 o.code]:=⟨_,rfl,keepB _ _ _ _,set12 HB2.out⟩
       rw [← hW3]
       have m:=m0 _ hk3
       have HK3:=Lib.hid hk3
       have HB3:=Lib.hid hb3
       clear hW3 hk3 hb3 m0 m1 m2 b1 b2 q1 q2
       go_wp2_with fail
       go_ret
       exact ⟨rfl,HB3.out,(Kept.of_ext X2.out).trans HK3.out⟩
   · skip
     obtain ⟨W2,N,hW,hN,hx2,hge,n⟩:∃ W N,W=((w1.setCell ⟨w.heap.size,0,none⟩ (.string o.text)).setCell ⟨w.heap.size,1,none⟩ (.int .i64 o.at_)).setCell ⟨w.heap.size,2,none⟩ (.int .i64 o.code)∧N=w.heap.size∧Ext w W∧w.heap.size≤N∧Blk W N 56 #[.string o.text,.int .i64 o.at_,.int .i64 o.code]:=⟨_,_,rfl,rfl,((XW1.out.setCell (Nat.le_refl _) _).setCell (Nat.le_refl _) _).setCell (Nat.le_refl _) _,Nat.le_refl _,by simpa using (((Blk.ext (show Blk (w.alloc (.cells #[.string ⟨#[]⟩,.int .i64 0,.int .i64 0] 56)).drew w.heap.size 56 _ from Blk.new w _ _) HX1.out).set_ 0 (.string o.text)).set_ 1 (.int .i64 o.at_)).set_ 2 (.int .i64 o.code)⟩
     rw [← hW]
     rw [← hN]
     have X2:=Lib.hid hx2
     have HN2:=Lib.hid n
     have HNB:Hid (N≠B):=Lib.hid (by have:=HB.out.lt;omega)
     have HB2:=Lib.hid (HB.out.ext hx2)
     have m0:∀ V,Kept [B] W2 V→V.cell? ⟨N,0,none⟩=some (.string o.text):=fun V hV=>hV.cell (by simpa using HNB.out) (HN2.out.cell 0)
     have m1:∀ V,Kept [B] W2 V→V.cell? ⟨N,1,none⟩=some (.int .i64 o.at_):=fun V hV=>hV.cell (by simpa using HNB.out) (HN2.out.cell 1)
     have m2:∀ V,Kept [B] W2 V→V.cell? ⟨N,2,none⟩=some (.int .i64 o.code):=fun V hV=>hV.cell (by simpa using HNB.out) (HN2.out.cell 2)
     have b1:W2.cell? ⟨B,1,none⟩=some (.int .i64 a):=HB2.out.cell 1
     have b2:W2.cell? ⟨B,2,none⟩=some (.int .i64 0):=HB2.out.cell 2
     have q1:=HB2.out.frozen 1
     have q2:=HB2.out.frozen 2
     clear hW hN hx2 hge n al0 al1
     go_wp2_with fail
     go_region_held3 (fun V=>Kept [B] W2 V) (first | exact Kept.of_ext (Ext.refl _).drew | exact keepA _ _ | exact keepB _ _ _ _ | assumption) (fail)
     · skip
       obtain ⟨W3,hW3,hk3,hb3⟩:∃ W3,W3=((W2.setCell ⟨B,1,none⟩ (.int .i64 o.at_)).setCell ⟨B,2,none⟩ (.int .i64 o.code)).drew∧Kept [B] W2 W3∧Blk W3 B 54 #[.string t,.int .i64 o.at_,.int .i64 o.code]:=⟨_,rfl,keepB _ _ _ _,set12 HB2.out⟩
       rw [← hW3]
       have m:=m0 _ hk3
       have HK3:=Lib.hid hk3
       have HB3:=Lib.hid hb3
       clear hW3 hk3 hb3 m0 m1 m2 b1 b2 q1 q2
       go_wp2_with fail
       go_ret
       exact ⟨rfl,HB3.out,(Kept.of_ext X2.out).trans HK3.out⟩
 · have HE:Hid (rdStr t a c=(⟨#[]⟩,a,c)):=Lib.hid (by rw [rdStr,if_neg hc])
   rw [HE.out]
   have c2:w.cell? ⟨B,2,none⟩=some (.int .i64 c):=HB.out.cell 2
   go_enter Try.func67,Try.ntmps67
   go_wp2_with fail
   go_ret
   exact ⟨rfl,HB.out,Kept.refl _ _⟩
end Go.Proofs.Ytlonjlaecaemgaa
