/- The walks of GetText, the program's and the reference's. Printed by wip/gett.py. -/
import Derived.Test.YtlonjlaecaemgaaGetS
import Derived.Test.YtlonjlaecaemgaaOwn2
import Derived.Deep.RegionHeld3
set_option maxHeartbeats 8000000
set_option maxRecDepth 100000
namespace Go.Proofs.Ytlonjlaecaemgaa
open Go.RowKit
attribute [local irreducible] wpQuiet
theorem keep3 {W:World} {R:Nat} (a b c:Value):Kept [R] W (((W.setCell ⟨R,0,none⟩ a).setCell ⟨R,1,none⟩ b).setCell ⟨R,2,none⟩ c).drew:=by
 have h1:=(Kept.refl [R] W).setCell (p:=⟨R,0,none⟩) (List.mem_singleton.2 rfl) a
 have h2:=h1.setCell (p:=⟨R,1,none⟩) (List.mem_singleton.2 rfl) b
 have h3:=h2.setCell (p:=⟨R,2,none⟩) (List.mem_singleton.2 rfl) c
 exact h3.trans (Kept.of_ext (Ext.refl _).drew)
theorem getText_any (t:ByteArray) (a:Int) (w:World) (ha:I64 a) (ht:Str t) :
 Calls Try.prog 80 #[.string t,.int .i64 a] w fun e w'=>e=.returned (.agg #[.string (getText t a).text,.int .i64 (getText t a).at_,.int .i64 (getText t a).code])∧Ext w w':=by
 have HT:=Lib.hid ht
 have HA:=Lib.hid ha
 unfold Str maxLen at ht
 clear ha
 obtain ⟨f1,f2,f3,f4,f5⟩:=getNum_fit t a
 have f6:=getNum_size t a
 unfold I64 at f1
 go_enter Try.func80,Try.ntmps80
 go_upto_region 1 with (fail)
 obtain ⟨W,R,hW,hB,hBl,hx0,b0⟩:∃ W B,W=w.alloc (.cells #[.string ⟨#[]⟩,.int .i64 0,.int .i64 0] 56)∧B=w.heap.size∧w.heap.size≤B∧Ext w W∧Blk W B 56 #[.string ⟨#[]⟩,.int .i64 0,.int .i64 0]:=⟨_,_,rfl,rfl,Nat.le_refl _,(Ext.refl w).alloc _,Blk.new _ _ _⟩
 rw [← hW,← hB]
 have HRB:=Lib.hid hBl
 have R0:=Lib.hid b0
 have X0:=Lib.hid hx0
 clear hW hB hx0 b0 hBl
 obtain ⟨o,ho⟩:∃ o,o=getNum t a:=⟨_,rfl⟩
 have HO:=Lib.hid ho
 rw [← ho] at f1 f2 f3 f4 f5 f6
 clear ho
 go_upto_region 2 with (go_at_call 79;(with_reducible refine (getNum_any t a _ HT.out).mono ?_);rintro e w1 ⟨rfl,hx1⟩;have X1:=Lib.hid (X0.out.trans hx1);have R1:=Lib.hid (R0.out.ext hx1);clear hx1)
 rw [← HO.out]
 obtain ⟨W2,B,hW,hB,hx2,b2⟩:∃ W B,W=w1.alloc (.cells #[.int .i64 o.num,.int .i64 o.at_,.int .i64 o.code] 59)∧B=w1.heap.size∧Ext w1 W∧Blk W B 59 #[.int .i64 o.num,.int .i64 o.at_,.int .i64 o.code]:=⟨_,_,rfl,rfl,(Ext.refl w1).alloc _,Blk.new _ _ _⟩
 rw [← hW,← hB]
 have X2:=Lib.hid (X1.out.trans hx2)
 have R2:=Lib.hid (R1.out.ext hx2)
 have HRB2:Hid (B≠R):=Lib.hid (by have:=R1.out.lt;omega)
 have B2:=Lib.hid b2
 clear hW hB hx2 b2
 have n0:W2.cell? ⟨B,0,none⟩=some (.int .i64 o.num):=B2.out.cell 0
 have n1:W2.cell? ⟨B,1,none⟩=some (.int .i64 o.at_):=B2.out.cell 1
 have n2:W2.cell? ⟨B,2,none⟩=some (.int .i64 o.code):=B2.out.cell 2
 by_cases hc:o.code=0
 · skip
   have hsz:=f6 hc
   have hc0:¬ o.code≠0:=by simp [hc]
   clear f6
   by_cases h1:o.num < 0
   · skip
     have hw:isB o.num 0 8000=false:=by unfold isB;simp;omega
     have HE:Hid (getText t a=⟨⟨#[]⟩,0,3⟩):=Lib.hid (by rw [getText,← HO.out];rw [if_neg hc0,if_pos (.inl h1)])
     go_wp2_with (first | (go_at_call 37;refine (within_any _ _ _ _).mono ?_;rintro e w' ⟨rfl,rfl⟩) | (refine wpList_store_mid rfl 56 _ _ rfl R 0 #[.string ⟨#[]⟩,.int .i64 0,.int .i64 3] rfl rfl (Blk.there (t:=56) (cs:=#[.string ⟨#[]⟩,.int .i64 0,.int .i64 0]) R2.out) (by kernel_rfl) (all_oneCell_toArray (cs:=[.string ⟨#[]⟩,.int .i64 0,.int .i64 3]) (by simp [Value.oneCell'])) ?_))
     exact bodyPost_ret (v:=.agg #[.string ⟨#[]⟩,.int .i64 0,.int .i64 3]) (results_blk Try.results80 rfl (Blk.setAll (t:=56) (cs:=#[.string ⟨#[]⟩,.int .i64 0,.int .i64 0]) (vs:=#[.string ⟨#[]⟩,.int .i64 0,.int .i64 3]) R2.out rfl) Try.underlying56 rfl (by kernel_rfl)) rfl ⟨by rw [HE.out],setCells_ext HRB.out _ _ _ X2.out⟩
   by_cases h2:8000 < o.num
   · skip
     have hw:isB o.num 0 8000=false:=by unfold isB;simp;omega
     have HE:Hid (getText t a=⟨⟨#[]⟩,0,3⟩):=Lib.hid (by rw [getText,← HO.out];rw [if_neg hc0,if_pos (.inr h2)])
     go_wp2_with (first | (go_at_call 37;refine (within_any _ _ _ _).mono ?_;rintro e w' ⟨rfl,rfl⟩) | (refine wpList_store_mid rfl 56 _ _ rfl R 0 #[.string ⟨#[]⟩,.int .i64 0,.int .i64 3] rfl rfl (Blk.there (t:=56) (cs:=#[.string ⟨#[]⟩,.int .i64 0,.int .i64 0]) R2.out) (by kernel_rfl) (all_oneCell_toArray (cs:=[.string ⟨#[]⟩,.int .i64 0,.int .i64 3]) (by simp [Value.oneCell'])) ?_))
     exact bodyPost_ret (v:=.agg #[.string ⟨#[]⟩,.int .i64 0,.int .i64 3]) (results_blk Try.results80 rfl (Blk.setAll (t:=56) (cs:=#[.string ⟨#[]⟩,.int .i64 0,.int .i64 0]) (vs:=#[.string ⟨#[]⟩,.int .i64 0,.int .i64 3]) R2.out rfl) Try.underlying56 rfl (by kernel_rfl)) rfl ⟨by rw [HE.out],setCells_ext HRB.out _ _ _ X2.out⟩
   have hw:isB o.num 0 8000=true:=by unfold isB;simp;omega
   have h12:¬ (o.num < 0∨8000 < o.num):=by omega
   by_cases h3:(t.size:Int) < o.at_+o.num
   · skip
     have HE:Hid (getText t a=⟨⟨#[]⟩,0,4⟩):=Lib.hid (by rw [getText,← HO.out];rw [if_neg hc0,if_neg h12,if_pos h3])
     go_wp2_with (first | (go_at_call 37;refine (within_any _ _ _ _).mono ?_;rintro e w' ⟨rfl,rfl⟩) | (refine wpList_store_mid rfl 56 _ _ rfl R 0 #[.string ⟨#[]⟩,.int .i64 0,.int .i64 4] rfl rfl (Blk.there (t:=56) (cs:=#[.string ⟨#[]⟩,.int .i64 0,.int .i64 0]) R2.out) (by kernel_rfl) (all_oneCell_toArray (cs:=[.string ⟨#[]⟩,.int .i64 0,.int .i64 4]) (by simp [Value.oneCell'])) ?_))
     exact bodyPost_ret (v:=.agg #[.string ⟨#[]⟩,.int .i64 0,.int .i64 4]) (results_blk Try.results80 rfl (Blk.setAll (t:=56) (cs:=#[.string ⟨#[]⟩,.int .i64 0,.int .i64 0]) (vs:=#[.string ⟨#[]⟩,.int .i64 0,.int .i64 4]) R2.out rfl) Try.underlying56 rfl (by kernel_rfl)) rfl ⟨by rw [HE.out],setCells_ext HRB.out _ _ _ X2.out⟩
   have HE:Hid (getText t a=⟨t.extract o.at_.toNat (o.at_+o.num).toNat,o.at_+o.num,0⟩):=Lib.hid (by rw [getText,← HO.out];rw [if_neg hc0,if_neg h12,if_neg h3])
   clear hc0 h12
   have hA0:o.at_≤o.at_+o.num:=by omega
   have hA1:o.at_+o.num≤(t.size:Int):=by omega
   have hA2:(0:Int)≤o.at_+o.num:=by omega
   have hwr:IntKind.i64.wrap (o.at_+o.num)=o.at_+o.num:=IntWalk.i64_in _ (by omega)
   go_upto_region 8 with (first | (go_at_call 37;refine (within_any _ _ _ _).mono ?_;rintro e w' ⟨rfl,rfl⟩))
   have nl0:∀ V,Kept [R] W2 V→V.cell? ⟨B,0,none⟩=some (.int .i64 o.num):=fun V hV=>hV.cell (by simpa using HRB2.out) n0
   have nl1:∀ V,Kept [R] W2 V→V.cell? ⟨B,1,none⟩=some (.int .i64 o.at_):=fun V hV=>hV.cell (by simpa using HRB2.out) n1
   have r0:W2.cell? ⟨R,0,none⟩=some (.string ⟨#[]⟩):=R2.out.cell 0
   have r1:W2.cell? ⟨R,1,none⟩=some (.int .i64 0):=R2.out.cell 1
   have r2:W2.cell? ⟨R,2,none⟩=some (.int .i64 0):=R2.out.cell 2
   have q0:=R2.out.frozen 0
   have q1:=R2.out.frozen 1
   have q2:=R2.out.frozen 2
   clear n0 n1 n2
   go_region_held3 (fun V=>Kept [R] W2 V) (first | exact Kept.refl _ _ | exact Kept.of_ext (Ext.refl _).drew | assumption | exact keep3 _ _ _) (fail)
   obtain ⟨W3,hW3⟩:∃ W3,W3=(((W2.setCell ⟨R,0,none⟩ (.string (t.extract o.at_.toNat (o.at_+o.num).toNat))).setCell ⟨R,1,none⟩ (.int .i64 (o.at_+o.num))).setCell ⟨R,2,none⟩ (.int .i64 0)).drew:=⟨_,rfl⟩
   have R3:Hid (Blk W3 R 56 #[.string (t.extract o.at_.toNat (o.at_+o.num).toNat),.int .i64 (o.at_+o.num),.int .i64 0]):=Lib.hid (by rw [hW3];exact Blk.ext (by simpa using ((R2.out.set_ 0 (.string (t.extract o.at_.toNat (o.at_+o.num).toNat))).set_ 1 (.int .i64 (o.at_+o.num))).set_ 2 (.int .i64 0)) (Ext.refl _).drew)
   have X3:Hid (Ext w W3):=Lib.hid (by rw [hW3];exact (((X2.out.setCell HRB.out _).setCell HRB.out _).setCell HRB.out _).drew)
   rw [← hW3]
   clear hW3 r0 r1 r2 q0 q1 q2 nl0 nl1
   go_wp2_with fail
   exact bodyPost_ret (v:=.agg #[.string (t.extract o.at_.toNat (o.at_+o.num).toNat),.int .i64 (o.at_+o.num),.int .i64 0]) (results_blk Try.results80 rfl R3.out Try.underlying56 rfl (by kernel_rfl)) rfl ⟨by rw [HE.out],X3.out⟩
 · skip
   have HE:Hid (getText t a=⟨⟨#[]⟩,0,o.code⟩):=Lib.hid (by rw [getText,← HO.out];rw [if_pos hc])
   go_wp2_with (first | (refine wpList_store_mid rfl 56 _ _ rfl R 0 #[.string ⟨#[]⟩,.int .i64 0,.int .i64 o.code] rfl rfl (Blk.there (t:=56) (cs:=#[.string ⟨#[]⟩,.int .i64 0,.int .i64 0]) R2.out) (by kernel_rfl) (all_oneCell_toArray (cs:=[.string ⟨#[]⟩,.int .i64 0,.int .i64 o.code]) (by simp [Value.oneCell'])) ?_))
   exact bodyPost_ret (v:=.agg #[.string ⟨#[]⟩,.int .i64 0,.int .i64 o.code]) (results_blk Try.results80 rfl (Blk.setAll (t:=56) (cs:=#[.string ⟨#[]⟩,.int .i64 0,.int .i64 0]) (vs:=#[.string ⟨#[]⟩,.int .i64 0,.int .i64 o.code]) R2.out rfl) Try.underlying56 rfl (by kernel_rfl)) rfl ⟨by rw [HE.out],setCells_ext HRB.out _ _ _ X2.out⟩
theorem specGetText_any (t:ByteArray) (a:Int) (w:World) (ha:I64 a) (ht:Str t) :
 Calls Try.prog 30 #[.string t,.int .i64 a] w fun e w'=>e=.returned (.agg #[.string (getText t a).text,.int .i64 (getText t a).at_,.int .i64 (getText t a).code])∧Ext w w':=by
 have HT:=Lib.hid ht
 have HA:=Lib.hid ha
 unfold Str maxLen at ht
 clear ha
 obtain ⟨f1,f2,f3,f4,f5⟩:=getNum_fit t a
 have f6:=getNum_size t a
 unfold I64 at f1
 go_enter Try.func30,Try.ntmps30
 go_upto_region 1 with (fail)
 obtain ⟨W,R,hW,hB,hBl,hx0,b0⟩:∃ W B,W=w.alloc (.cells #[.string ⟨#[]⟩,.int .i64 0,.int .i64 0] 56)∧B=w.heap.size∧w.heap.size≤B∧Ext w W∧Blk W B 56 #[.string ⟨#[]⟩,.int .i64 0,.int .i64 0]:=⟨_,_,rfl,rfl,Nat.le_refl _,(Ext.refl w).alloc _,Blk.new _ _ _⟩
 rw [← hW,← hB]
 have HRB:=Lib.hid hBl
 have R0:=Lib.hid b0
 have X0:=Lib.hid hx0
 clear hW hB hx0 b0 hBl
 obtain ⟨o,ho⟩:∃ o,o=getNum t a:=⟨_,rfl⟩
 have HO:=Lib.hid ho
 rw [← ho] at f1 f2 f3 f4 f5 f6
 clear ho
 go_upto_region 2 with (go_at_call 31;(with_reducible refine (specGetNum_any t a _ HA.out HT.out).mono ?_);rintro e w1 ⟨rfl,hx1⟩;have X1:=Lib.hid (X0.out.trans hx1);have R1:=Lib.hid (R0.out.ext hx1);clear hx1)
 rw [← HO.out]
 obtain ⟨W2,B,hW,hB,hx2,b2⟩:∃ W B,W=w1.alloc (.cells #[.int .i64 o.num,.int .i64 o.at_,.int .i64 o.code] 59)∧B=w1.heap.size∧Ext w1 W∧Blk W B 59 #[.int .i64 o.num,.int .i64 o.at_,.int .i64 o.code]:=⟨_,_,rfl,rfl,(Ext.refl w1).alloc _,Blk.new _ _ _⟩
 rw [← hW,← hB]
 have X2:=Lib.hid (X1.out.trans hx2)
 have R2:=Lib.hid (R1.out.ext hx2)
 have HRB2:Hid (B≠R):=Lib.hid (by have:=R1.out.lt;omega)
 have B2:=Lib.hid b2
 clear hW hB hx2 b2
 have n0:W2.cell? ⟨B,0,none⟩=some (.int .i64 o.num):=B2.out.cell 0
 have n1:W2.cell? ⟨B,1,none⟩=some (.int .i64 o.at_):=B2.out.cell 1
 have n2:W2.cell? ⟨B,2,none⟩=some (.int .i64 o.code):=B2.out.cell 2
 by_cases hc:o.code=0
 · skip
   have hsz:=f6 hc
   have hc0:¬ o.code≠0:=by simp [hc]
   clear f6
   by_cases h1:o.num < 0
   · skip
     have HE:Hid (getText t a=⟨⟨#[]⟩,0,3⟩):=Lib.hid (by rw [getText,← HO.out];rw [if_neg hc0,if_pos (.inl h1)])
     go_wp2_with (first | (refine wpList_store_mid rfl 56 _ _ rfl R 0 #[.string ⟨#[]⟩,.int .i64 0,.int .i64 3] rfl rfl (Blk.there (t:=56) (cs:=#[.string ⟨#[]⟩,.int .i64 0,.int .i64 0]) R2.out) (by kernel_rfl) (all_oneCell_toArray (cs:=[.string ⟨#[]⟩,.int .i64 0,.int .i64 3]) (by simp [Value.oneCell'])) ?_))
     exact bodyPost_ret (v:=.agg #[.string ⟨#[]⟩,.int .i64 0,.int .i64 3]) (results_blk Try.results30 rfl (Blk.setAll (t:=56) (cs:=#[.string ⟨#[]⟩,.int .i64 0,.int .i64 0]) (vs:=#[.string ⟨#[]⟩,.int .i64 0,.int .i64 3]) R2.out rfl) Try.underlying56 rfl (by kernel_rfl)) rfl ⟨by rw [HE.out],setCells_ext HRB.out _ _ _ X2.out⟩
   by_cases h2:8000 < o.num
   · skip
     have HE:Hid (getText t a=⟨⟨#[]⟩,0,3⟩):=Lib.hid (by rw [getText,← HO.out];rw [if_neg hc0,if_pos (.inr h2)])
     go_wp2_with (first | (refine wpList_store_mid rfl 56 _ _ rfl R 0 #[.string ⟨#[]⟩,.int .i64 0,.int .i64 3] rfl rfl (Blk.there (t:=56) (cs:=#[.string ⟨#[]⟩,.int .i64 0,.int .i64 0]) R2.out) (by kernel_rfl) (all_oneCell_toArray (cs:=[.string ⟨#[]⟩,.int .i64 0,.int .i64 3]) (by simp [Value.oneCell'])) ?_))
     exact bodyPost_ret (v:=.agg #[.string ⟨#[]⟩,.int .i64 0,.int .i64 3]) (results_blk Try.results30 rfl (Blk.setAll (t:=56) (cs:=#[.string ⟨#[]⟩,.int .i64 0,.int .i64 0]) (vs:=#[.string ⟨#[]⟩,.int .i64 0,.int .i64 3]) R2.out rfl) Try.underlying56 rfl (by kernel_rfl)) rfl ⟨by rw [HE.out],setCells_ext HRB.out _ _ _ X2.out⟩
   have h12:¬ (o.num < 0∨8000 < o.num):=by omega
   by_cases h3:(t.size:Int) < o.at_+o.num
   · skip
     have h3b:(t.size:Int) - o.num < o.at_:=by omega
     have HE:Hid (getText t a=⟨⟨#[]⟩,0,4⟩):=Lib.hid (by rw [getText,← HO.out];rw [if_neg hc0,if_neg h12,if_pos h3])
     go_wp2_with (first | (refine wpList_store_mid rfl 56 _ _ rfl R 0 #[.string ⟨#[]⟩,.int .i64 0,.int .i64 4] rfl rfl (Blk.there (t:=56) (cs:=#[.string ⟨#[]⟩,.int .i64 0,.int .i64 0]) R2.out) (by kernel_rfl) (all_oneCell_toArray (cs:=[.string ⟨#[]⟩,.int .i64 0,.int .i64 4]) (by simp [Value.oneCell'])) ?_))
     exact bodyPost_ret (v:=.agg #[.string ⟨#[]⟩,.int .i64 0,.int .i64 4]) (results_blk Try.results30 rfl (Blk.setAll (t:=56) (cs:=#[.string ⟨#[]⟩,.int .i64 0,.int .i64 0]) (vs:=#[.string ⟨#[]⟩,.int .i64 0,.int .i64 4]) R2.out rfl) Try.underlying56 rfl (by kernel_rfl)) rfl ⟨by rw [HE.out],setCells_ext HRB.out _ _ _ X2.out⟩
   have HE:Hid (getText t a=⟨t.extract o.at_.toNat (o.at_+o.num).toNat,o.at_+o.num,0⟩):=Lib.hid (by rw [getText,← HO.out];rw [if_neg hc0,if_neg h12,if_neg h3])
   clear hc0 h12
   have h3b:¬ (t.size:Int) - o.num < o.at_:=by omega
   have hA0:o.at_≤o.at_+o.num:=by omega
   have hA1:o.at_+o.num≤(t.size:Int):=by omega
   have hA2:(0:Int)≤o.at_+o.num:=by omega
   have hwr:IntKind.i64.wrap (o.at_+o.num)=o.at_+o.num:=IntWalk.i64_in _ (by omega)
   go_upto_region 8 with (first | fail)
   have nl0:∀ V,Kept [R] W2 V→V.cell? ⟨B,0,none⟩=some (.int .i64 o.num):=fun V hV=>hV.cell (by simpa using HRB2.out) n0
   have nl1:∀ V,Kept [R] W2 V→V.cell? ⟨B,1,none⟩=some (.int .i64 o.at_):=fun V hV=>hV.cell (by simpa using HRB2.out) n1
   have r0:W2.cell? ⟨R,0,none⟩=some (.string ⟨#[]⟩):=R2.out.cell 0
   have r1:W2.cell? ⟨R,1,none⟩=some (.int .i64 0):=R2.out.cell 1
   have r2:W2.cell? ⟨R,2,none⟩=some (.int .i64 0):=R2.out.cell 2
   have q0:=R2.out.frozen 0
   have q1:=R2.out.frozen 1
   have q2:=R2.out.frozen 2
   clear n0 n1 n2
   go_region_held3 (fun V=>Kept [R] W2 V) (first | exact Kept.refl _ _ | exact Kept.of_ext (Ext.refl _).drew | assumption | exact keep3 _ _ _) (fail)
   obtain ⟨W3,hW3⟩:∃ W3,W3=(((W2.setCell ⟨R,0,none⟩ (.string (t.extract o.at_.toNat (o.at_+o.num).toNat))).setCell ⟨R,1,none⟩ (.int .i64 (o.at_+o.num))).setCell ⟨R,2,none⟩ (.int .i64 0)).drew:=⟨_,rfl⟩
   have R3:Hid (Blk W3 R 56 #[.string (t.extract o.at_.toNat (o.at_+o.num).toNat),.int .i64 (o.at_+o.num),.int .i64 0]):=Lib.hid (by rw [hW3];exact Blk.ext (by simpa using ((R2.out.set_ 0 (.string (t.extract o.at_.toNat (o.at_+o.num).toNat))).set_ 1 (.int .i64 (o.at_+o.num))).set_ 2 (.int .i64 0)) (Ext.refl _).drew)
   have X3:Hid (Ext w W3):=Lib.hid (by rw [hW3];exact (((X2.out.setCell HRB.out _).setCell HRB.out _).setCell HRB.out _).drew)
   rw [← hW3]
   clear hW3 r0 r1 r2 q0 q1 q2 nl0 nl1
   go_wp2_with fail
   exact bodyPost_ret (v:=.agg #[.string (t.extract o.at_.toNat (o.at_+o.num).toNat),.int .i64 (o.at_+o.num),.int .i64 0]) (results_blk Try.results30 rfl R3.out Try.underlying56 rfl (by kernel_rfl)) rfl ⟨by rw [HE.out],X3.out⟩
 · skip
   have HE:Hid (getText t a=⟨⟨#[]⟩,0,o.code⟩):=Lib.hid (by rw [getText,← HO.out];rw [if_pos hc])
   go_wp2_with (first | (refine wpList_store_mid rfl 56 _ _ rfl R 0 #[.string ⟨#[]⟩,.int .i64 0,.int .i64 o.code] rfl rfl (Blk.there (t:=56) (cs:=#[.string ⟨#[]⟩,.int .i64 0,.int .i64 0]) R2.out) (by kernel_rfl) (all_oneCell_toArray (cs:=[.string ⟨#[]⟩,.int .i64 0,.int .i64 o.code]) (by simp [Value.oneCell'])) ?_))
   exact bodyPost_ret (v:=.agg #[.string ⟨#[]⟩,.int .i64 0,.int .i64 o.code]) (results_blk Try.results30 rfl (Blk.setAll (t:=56) (cs:=#[.string ⟨#[]⟩,.int .i64 0,.int .i64 0]) (vs:=#[.string ⟨#[]⟩,.int .i64 0,.int .i64 o.code]) R2.out rfl) Try.underlying56 rfl (by kernel_rfl)) rfl ⟨by rw [HE.out],setCells_ext HRB.out _ _ _ X2.out⟩
end Go.Proofs.Ytlonjlaecaemgaa
