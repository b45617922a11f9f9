/- slices.Repeat of one node, one to six times. Printed by wip/nn.py. -/
import Derived.Test.YtoblacfjmcpbmaaGreatShelf
import Derived.Test.YtoblacfjmcpbmaaGreatNodeC
import Derived.Laws.MakeOwn
import Derived.Deep.RegionHeld3
set_option maxHeartbeats 8000000
set_option maxRecDepth 100000
namespace Go.Proofs.YtoblacfjmcpbmaaGreat
open Go.RowKit
attribute [local irreducible] wpQuiet
theorem run_copy_k {P:Program} (w:World) (dT sT ty elem:TypeId) (z n b o dLen dCap:Nat) (a:Addr) (sLen sCap:Nat) (cs:List Value)
 (hu:P.underlying dT=some (.slice elem)) (hs:(P.info? elem).map (·.size)=some z) (hn:n=Nat.min sLen dLen) (hcl:cs.length=n * z)
 (hsrc:∀ j v,cs[j]? = some v→w.cell? (a.add j)=some v) (hc:w.there b o cs.length) (h1:∀ v∈cs,v.oneCell'=true) :
 (Builtin.copy_ #[dT,sT] ty #[.slice (some ⟨b,o,none⟩) dLen dCap,.slice (some a) sLen sCap]).run P w=.ok (goInt n) (w.setCells b o cs):=by
 have hl:=run_loadCells_list (P:=P) w a cs hsrc
 have hst:=run_storeCells_cells (P:=P) b o cs 0 w (fun j hj=>by rw [Nat.add_zero];exact (hc j hj).1) (fun j hj=>by rw [Nat.add_zero];exact (hc j hj).2) h1
 cases hq:P.info? elem with
 | none=>simp [hq] at hs
 | some i =>
   have hi:i.size=z:=by simpa [hq] using hs
   rw [hcl] at hl
   simp only [Nat.add_zero] at hst
   simp [Builtin.copy_,run_underlying hu,Builtin.lenOf,Builtin.firstCells,sizeOf,typeInfo,hq,hi,← hn,hl,hst]
theorem mul_1 (w:World):Calls Tryz.prog 110 #[.int .u64 1,.int .u64 1] w fun e w'=>e=.returned (.tuple #[.int .u64 0,.int .u64 1])∧w'=w:=Tryz.bits_Mul 1 1 (by decide) (by decide) w
theorem make_1 (w:World):(Instr.makeSlice 31 (.int .i64 1) (.int .i64 1)).run Tryz.prog w=.ok (.slice (some ⟨w.heap.size,0,none⟩) 1 1) (w.alloc (.cells #[.int .i64 0,.slice none 0 0] 107)):=by
 obtain ⟨i,i1,i2,i3,i4⟩:=info_parts (P:=Tryz.prog) (e:=107) (z:=.agg #[.int .i64 0,.slice none 0 0]) (size:=2) (bytes:=32) (by kernel_rfl)
 have h:=run_make (P:=Tryz.prog) w 31 107 i _ Tryz.underlying31 i1 i2 .i64 .i64 1 1 (by decide) (by decide) (by rw [i4];decide) (by decide)
 have e:madeCells (Value.agg #[.int .i64 0,.slice none 0 0]).cells (Int.toNat 1 * 2) = #[.int .i64 0,.slice none 0 0]:=by kernel_rfl
 rw [i3,e] at h
 exact h
theorem repeat_1 (B0:Nat) (w:World) (e0:w.cell? ⟨B0,0,none⟩=some (.int .i64 1)) (e1:w.cell? ⟨B0,1,none⟩=some (.slice none 0 0)) :
 Calls Tryz.prog 56 #[.slice (some ⟨B0,0,none⟩) 1 1,.int .i64 1] w fun e w'=>∃ B,e=.returned (.slice (some ⟨B,0,none⟩) 1 1)∧Blk w' B 107 #[.int .i64 1,.slice none 0 0]∧w.heap.size≤B∧Ext w w':=by
 have E0:=Lib.hid e0
 have E1:=Lib.hid e1
 have hx0:=fun o:Obj=>Ext.some ((Ext.refl w).alloc o) e0
 have hx1:=fun o:Obj=>Ext.some ((Ext.refl w).alloc o) e1
 have hmk:=make_1
 have hcp:=run_copy_k (P:=Tryz.prog) (w.alloc (.cells #[.int .i64 0,.slice none 0 0] 107)) 31 31 3 107 2 1 w.heap.size 0 1 1 ⟨B0,0,none⟩ 1 1 [.int .i64 1,.slice none 0 0] Tryz.underlying31 (by kernel_rfl) rfl rfl (fun j v hj=>by rcases j with _ | _ | j;(cases hj;exact hx0 _);(cases hj;exact hx1 _);(simp at hj)) (cells_there (C:=#[.int .i64 0,.slice none 0 0]) (heap_alloc_new w _) (by simp)) (by simp [Value.oneCell'])
 go_enter Tryz.func56,Tryz.ntmps56
 go_wp2_with (go_at_call 110;(with_reducible refine (mul_1 _).mono ?_);rintro e w' ⟨rfl,hw⟩;rw [hw];clear hw)
 clear hmk hcp hx0 hx1
 obtain ⟨W,B,hW,hB,hxW,hb⟩:∃ W B,W=(w.alloc (.cells #[.int .i64 0,.slice none 0 0] 107)).setCells w.heap.size 0 [.int .i64 1,.slice none 0 0]∧B=w.heap.size∧Ext w W∧Blk W B 107 #[.int .i64 1,.slice none 0 0]:=⟨_,_,rfl,rfl,setCells_ext (Nat.le_refl _) _ _ _ ((Ext.refl w).alloc _),by simpa [World.setCells] using ((Blk.new w 107 #[.int .i64 0,.slice none 0 0]).set_ 0 (.int .i64 1)).set_ 1 (.slice none 0 0)⟩
 rw [← hW,← hB]
 have HB:Hid (w.heap.size≤B):=Lib.hid (by omega)
 have HW:=Lib.hid hxW
 have HBk:=Lib.hid hb
 clear hW hB hxW hb
 go_loopw [8] (fun t w'=>∃ k:Int,(k=1)∧t=.int .i64 k∧(k=1→Blk w' B 107 #[.int .i64 1,.slice none 0 0])∧Ext w w') (fun t _=>1 - (intOf t).toNat)
 case atStart=>exact ⟨1,by simp,rfl,fun _=>HBk.out,HW.out⟩
 case round =>
  obtain ⟨k,hk,rfl,b1,hx⟩:=hrel
  have HX:=Lib.hid hx
  clear hx
  rcases hk with rfl
  · have hb:=b1 rfl
    clear b1
    have HB1:=Lib.hid hb
    clear hb
    go_wp2_with fail
    go_ret
    exact ⟨_,rfl,HB1.out,HB.out,HX.out⟩
theorem mul_2 (w:World):Calls Tryz.prog 110 #[.int .u64 1,.int .u64 2] w fun e w'=>e=.returned (.tuple #[.int .u64 0,.int .u64 2])∧w'=w:=Tryz.bits_Mul 1 2 (by decide) (by decide) w
theorem make_2 (w:World):(Instr.makeSlice 31 (.int .i64 2) (.int .i64 2)).run Tryz.prog w=.ok (.slice (some ⟨w.heap.size,0,none⟩) 2 2) (w.alloc (.cells #[.int .i64 0,.slice none 0 0,.int .i64 0,.slice none 0 0] 107)):=by
 obtain ⟨i,i1,i2,i3,i4⟩:=info_parts (P:=Tryz.prog) (e:=107) (z:=.agg #[.int .i64 0,.slice none 0 0]) (size:=2) (bytes:=32) (by kernel_rfl)
 have h:=run_make (P:=Tryz.prog) w 31 107 i _ Tryz.underlying31 i1 i2 .i64 .i64 2 2 (by decide) (by decide) (by rw [i4];decide) (by decide)
 have e:madeCells (Value.agg #[.int .i64 0,.slice none 0 0]).cells (Int.toNat 2 * 2) = #[.int .i64 0,.slice none 0 0,.int .i64 0,.slice none 0 0]:=by kernel_rfl
 rw [i3,e] at h
 exact h
theorem repeat_2 (B0:Nat) (w:World) (e0:w.cell? ⟨B0,0,none⟩=some (.int .i64 1)) (e1:w.cell? ⟨B0,1,none⟩=some (.slice none 0 0)) :
 Calls Tryz.prog 56 #[.slice (some ⟨B0,0,none⟩) 1 1,.int .i64 2] w fun e w'=>∃ B,e=.returned (.slice (some ⟨B,0,none⟩) 2 2)∧Blk w' B 107 #[.int .i64 1,.slice none 0 0,.int .i64 1,.slice none 0 0]∧w.heap.size≤B∧Ext w w':=by
 have E0:=Lib.hid e0
 have E1:=Lib.hid e1
 have hx0:=fun o:Obj=>Ext.some ((Ext.refl w).alloc o) e0
 have hx1:=fun o:Obj=>Ext.some ((Ext.refl w).alloc o) e1
 have hmk:=make_2
 have hcp:=run_copy_k (P:=Tryz.prog) (w.alloc (.cells #[.int .i64 0,.slice none 0 0,.int .i64 0,.slice none 0 0] 107)) 31 31 3 107 2 1 w.heap.size 0 2 2 ⟨B0,0,none⟩ 1 1 [.int .i64 1,.slice none 0 0] Tryz.underlying31 (by kernel_rfl) rfl rfl (fun j v hj=>by rcases j with _ | _ | j;(cases hj;exact hx0 _);(cases hj;exact hx1 _);(simp at hj)) (cells_there (C:=#[.int .i64 0,.slice none 0 0,.int .i64 0,.slice none 0 0]) (heap_alloc_new w _) (by simp)) (by simp [Value.oneCell'])
 go_enter Tryz.func56,Tryz.ntmps56
 go_wp2_with (go_at_call 110;(with_reducible refine (mul_2 _).mono ?_);rintro e w' ⟨rfl,hw⟩;rw [hw];clear hw)
 clear hmk hcp hx0 hx1
 obtain ⟨W,B,hW,hB,hxW,hb⟩:∃ W B,W=(w.alloc (.cells #[.int .i64 0,.slice none 0 0,.int .i64 0,.slice none 0 0] 107)).setCells w.heap.size 0 [.int .i64 1,.slice none 0 0]∧B=w.heap.size∧Ext w W∧Blk W B 107 #[.int .i64 1,.slice none 0 0,.int .i64 0,.slice none 0 0]:=⟨_,_,rfl,rfl,setCells_ext (Nat.le_refl _) _ _ _ ((Ext.refl w).alloc _),by simpa [World.setCells] using ((Blk.new w 107 #[.int .i64 0,.slice none 0 0,.int .i64 0,.slice none 0 0]).set_ 0 (.int .i64 1)).set_ 1 (.slice none 0 0)⟩
 rw [← hW,← hB]
 have HB:Hid (w.heap.size≤B):=Lib.hid (by omega)
 have HW:=Lib.hid hxW
 have HBk:=Lib.hid hb
 clear hW hB hxW hb
 go_loopw [8] (fun t w'=>∃ k:Int,(k=1∨k=2)∧t=.int .i64 k∧(k=1→Blk w' B 107 #[.int .i64 1,.slice none 0 0,.int .i64 0,.slice none 0 0])∧(k=2→Blk w' B 107 #[.int .i64 1,.slice none 0 0,.int .i64 1,.slice none 0 0])∧Ext w w') (fun t _=>2 - (intOf t).toNat)
 case atStart=>exact ⟨1,by simp,rfl,fun _=>HBk.out,fun h=>absurd h (by decide),HW.out⟩
 case round =>
  obtain ⟨k,hk,rfl,b1,b2,hx⟩:=hrel
  have HX:=Lib.hid hx
  clear hx
  rcases hk with rfl | rfl
  · have hb:=b1 rfl
    clear b1 b2
    have hcp:∀ V:World,Blk V B 107 #[.int .i64 1,.slice none 0 0,.int .i64 0,.slice none 0 0]→(Builtin.copy_ #[31,31] 3 #[.slice (some ⟨B,2,none⟩) 1 1,.slice (some ⟨B,0,none⟩) 1 2]).run Tryz.prog V=.ok (goInt 1) (V.setCells B 2 [.int .i64 1,.slice none 0 0]):=fun V hb=>run_copy_k (P:=Tryz.prog) V 31 31 3 107 2 1 B 2 1 1 ⟨B,0,none⟩ 1 2 [.int .i64 1,.slice none 0 0] Tryz.underlying31 (by kernel_rfl) rfl rfl (fun j v hj=>by rw [Addr.add_mid,Nat.zero_add,hb.cell j];rcases j with _ | _ | j <;> first | (cases hj;rfl) | (simp at hj)) (cells_there (C:=#[.int .i64 1,.slice none 0 0,.int .i64 0,.slice none 0 0]) hb (by simp)) (by simp [Value.oneCell'])
    have hc0:=hcp _ hb
    have hc1:=hcp wr.drew (hb.ext (Ext.refl _).drew)
    have HB2:Hid (∀ V:World,Blk V B 107 #[.int .i64 1,.slice none 0 0,.int .i64 0,.slice none 0 0]→Blk (V.setCells B 2 [.int .i64 1,.slice none 0 0]) B 107 #[.int .i64 1,.slice none 0 0,.int .i64 1,.slice none 0 0]):=Lib.hid fun V hb=>by simpa [World.setCells] using ((hb.set_ 2 (.int .i64 1)).set_ 3 (.slice none 0 0))
    have HB1:=Lib.hid hb
    have HBd:=Lib.hid (hb.ext (Ext.refl wr).drew)
    clear hcp hb
    go_wp2_with fail
    go_region_held3 (fun _=>True) (exact trivial) (fail)
    all_goals
     (have hwr:IntKind.i64.wrap 2=2:=by decide
      rw [hwr]
      go_roundw
      case rel=>exact ⟨_,_,_,_,_,_,_,_,_,_,_,_,_,_,⟨2,by simp,rfl,(fun h=>absurd h (by decide)),(fun _=>HB2.out _ HBd.out),setCells_ext HB.out _ _ _ HX.out.drew⟩,rfl⟩
      case measure=>first | (simp [intOf];done) | (simp [intOf];omega) | decide)
  · have hb:=b2 rfl
    clear b2 b1
    have HB1:=Lib.hid hb
    clear hb
    go_wp2_with fail
    go_ret
    exact ⟨_,rfl,HB1.out,HB.out,HX.out⟩
theorem mul_3 (w:World):Calls Tryz.prog 110 #[.int .u64 1,.int .u64 3] w fun e w'=>e=.returned (.tuple #[.int .u64 0,.int .u64 3])∧w'=w:=Tryz.bits_Mul 1 3 (by decide) (by decide) w
theorem make_3 (w:World):(Instr.makeSlice 31 (.int .i64 3) (.int .i64 3)).run Tryz.prog w=.ok (.slice (some ⟨w.heap.size,0,none⟩) 3 3) (w.alloc (.cells #[.int .i64 0,.slice none 0 0,.int .i64 0,.slice none 0 0,.int .i64 0,.slice none 0 0] 107)):=by
 obtain ⟨i,i1,i2,i3,i4⟩:=info_parts (P:=Tryz.prog) (e:=107) (z:=.agg #[.int .i64 0,.slice none 0 0]) (size:=2) (bytes:=32) (by kernel_rfl)
 have h:=run_make (P:=Tryz.prog) w 31 107 i _ Tryz.underlying31 i1 i2 .i64 .i64 3 3 (by decide) (by decide) (by rw [i4];decide) (by decide)
 have e:madeCells (Value.agg #[.int .i64 0,.slice none 0 0]).cells (Int.toNat 3 * 2) = #[.int .i64 0,.slice none 0 0,.int .i64 0,.slice none 0 0,.int .i64 0,.slice none 0 0]:=by kernel_rfl
 rw [i3,e] at h
 exact h
theorem repeat_3 (B0:Nat) (w:World) (e0:w.cell? ⟨B0,0,none⟩=some (.int .i64 1)) (e1:w.cell? ⟨B0,1,none⟩=some (.slice none 0 0)) :
 Calls Tryz.prog 56 #[.slice (some ⟨B0,0,none⟩) 1 1,.int .i64 3] w fun e w'=>∃ B,e=.returned (.slice (some ⟨B,0,none⟩) 3 3)∧Blk w' B 107 #[.int .i64 1,.slice none 0 0,.int .i64 1,.slice none 0 0,.int .i64 1,.slice none 0 0]∧w.heap.size≤B∧Ext w w':=by
 have E0:=Lib.hid e0
 have E1:=Lib.hid e1
 have hx0:=fun o:Obj=>Ext.some ((Ext.refl w).alloc o) e0
 have hx1:=fun o:Obj=>Ext.some ((Ext.refl w).alloc o) e1
 have hmk:=make_3
 have hcp:=run_copy_k (P:=Tryz.prog) (w.alloc (.cells #[.int .i64 0,.slice none 0 0,.int .i64 0,.slice none 0 0,.int .i64 0,.slice none 0 0] 107)) 31 31 3 107 2 1 w.heap.size 0 3 3 ⟨B0,0,none⟩ 1 1 [.int .i64 1,.slice none 0 0] Tryz.underlying31 (by kernel_rfl) rfl rfl (fun j v hj=>by rcases j with _ | _ | j;(cases hj;exact hx0 _);(cases hj;exact hx1 _);(simp at hj)) (cells_there (C:=#[.int .i64 0,.slice none 0 0,.int .i64 0,.slice none 0 0,.int .i64 0,.slice none 0 0]) (heap_alloc_new w _) (by simp)) (by simp [Value.oneCell'])
 go_enter Tryz.func56,Tryz.ntmps56
 go_wp2_with (go_at_call 110;(with_reducible refine (mul_3 _).mono ?_);rintro e w' ⟨rfl,hw⟩;rw [hw];clear hw)
 clear hmk hcp hx0 hx1
 obtain ⟨W,B,hW,hB,hxW,hb⟩:∃ W B,W=(w.alloc (.cells #[.int .i64 0,.slice none 0 0,.int .i64 0,.slice none 0 0,.int .i64 0,.slice none 0 0] 107)).setCells w.heap.size 0 [.int .i64 1,.slice none 0 0]∧B=w.heap.size∧Ext w W∧Blk W B 107 #[.int .i64 1,.slice none 0 0,.int .i64 0,.slice none 0 0,.int .i64 0,.slice none 0 0]:=⟨_,_,rfl,rfl,setCells_ext (Nat.le_refl _) _ _ _ ((Ext.refl w).alloc _),by simpa [World.setCells] using ((Blk.new w 107 #[.int .i64 0,.slice none 0 0,.int .i64 0,.slice none 0 0,.int .i64 0,.slice none 0 0]).set_ 0 (.int .i64 1)).set_ 1 (.slice none 0 0)⟩
 rw [← hW,← hB]
 have HB:Hid (w.heap.size≤B):=Lib.hid (by omega)
 have HW:=Lib.hid hxW
 have HBk:=Lib.hid hb
 clear hW hB hxW hb
 go_loopw [8] (fun t w'=>∃ k:Int,(k=1∨k=2∨k=3)∧t=.int .i64 k∧(k=1→Blk w' B 107 #[.int .i64 1,.slice none 0 0,.int .i64 0,.slice none 0 0,.int .i64 0,.slice none 0 0])∧(k=2→Blk w' B 107 #[.int .i64 1,.slice none 0 0,.int .i64 1,.slice none 0 0,.int .i64 0,.slice none 0 0])∧(k=3→Blk w' B 107 #[.int .i64 1,.slice none 0 0,.int .i64 1,.slice none 0 0,.int .i64 1,.slice none 0 0])∧Ext w w') (fun t _=>3 - (intOf t).toNat)
 case atStart=>exact ⟨1,by simp,rfl,fun _=>HBk.out,fun h=>absurd h (by decide),fun h=>absurd h (by decide),HW.out⟩
 case round =>
  obtain ⟨k,hk,rfl,b1,b2,b3,hx⟩:=hrel
  have HX:=Lib.hid hx
  clear hx
  rcases hk with rfl | rfl | rfl
  · have hb:=b1 rfl
    clear b1 b2 b3
    have hcp:∀ V:World,Blk V B 107 #[.int .i64 1,.slice none 0 0,.int .i64 0,.slice none 0 0,.int .i64 0,.slice none 0 0]→(Builtin.copy_ #[31,31] 3 #[.slice (some ⟨B,2,none⟩) 2 2,.slice (some ⟨B,0,none⟩) 1 3]).run Tryz.prog V=.ok (goInt 1) (V.setCells B 2 [.int .i64 1,.slice none 0 0]):=fun V hb=>run_copy_k (P:=Tryz.prog) V 31 31 3 107 2 1 B 2 2 2 ⟨B,0,none⟩ 1 3 [.int .i64 1,.slice none 0 0] Tryz.underlying31 (by kernel_rfl) rfl rfl (fun j v hj=>by rw [Addr.add_mid,Nat.zero_add,hb.cell j];rcases j with _ | _ | j <;> first | (cases hj;rfl) | (simp at hj)) (cells_there (C:=#[.int .i64 1,.slice none 0 0,.int .i64 0,.slice none 0 0,.int .i64 0,.slice none 0 0]) hb (by simp)) (by simp [Value.oneCell'])
    have hc0:=hcp _ hb
    have hc1:=hcp wr.drew (hb.ext (Ext.refl _).drew)
    have HB2:Hid (∀ V:World,Blk V B 107 #[.int .i64 1,.slice none 0 0,.int .i64 0,.slice none 0 0,.int .i64 0,.slice none 0 0]→Blk (V.setCells B 2 [.int .i64 1,.slice none 0 0]) B 107 #[.int .i64 1,.slice none 0 0,.int .i64 1,.slice none 0 0,.int .i64 0,.slice none 0 0]):=Lib.hid fun V hb=>by simpa [World.setCells] using ((hb.set_ 2 (.int .i64 1)).set_ 3 (.slice none 0 0))
    have HB1:=Lib.hid hb
    have HBd:=Lib.hid (hb.ext (Ext.refl wr).drew)
    clear hcp hb
    go_wp2_with fail
    go_region_held3 (fun _=>True) (exact trivial) (fail)
    all_goals
     (have hwr:IntKind.i64.wrap 2=2:=by decide
      rw [hwr]
      go_roundw
      case rel=>exact ⟨_,_,_,_,_,_,_,_,_,_,_,_,_,_,⟨2,by simp,rfl,(fun h=>absurd h (by decide)),(fun _=>HB2.out _ HBd.out),(fun h=>absurd h (by decide)),setCells_ext HB.out _ _ _ HX.out.drew⟩,rfl⟩
      case measure=>first | (simp [intOf];done) | (simp [intOf];omega) | decide)
  · have hb:=b2 rfl
    clear b2 b1 b3
    have hcp:∀ V:World,Blk V B 107 #[.int .i64 1,.slice none 0 0,.int .i64 1,.slice none 0 0,.int .i64 0,.slice none 0 0]→(Builtin.copy_ #[31,31] 3 #[.slice (some ⟨B,4,none⟩) 1 1,.slice (some ⟨B,0,none⟩) 2 3]).run Tryz.prog V=.ok (goInt 1) (V.setCells B 4 [.int .i64 1,.slice none 0 0]):=fun V hb=>run_copy_k (P:=Tryz.prog) V 31 31 3 107 2 1 B 4 1 1 ⟨B,0,none⟩ 2 3 [.int .i64 1,.slice none 0 0] Tryz.underlying31 (by kernel_rfl) rfl rfl (fun j v hj=>by rw [Addr.add_mid,Nat.zero_add,hb.cell j];rcases j with _ | _ | j <;> first | (cases hj;rfl) | (simp at hj)) (cells_there (C:=#[.int .i64 1,.slice none 0 0,.int .i64 1,.slice none 0 0,.int .i64 0,.slice none 0 0]) hb (by simp)) (by simp [Value.oneCell'])
    have hc0:=hcp _ hb
    have hc1:=hcp wr.drew (hb.ext (Ext.refl _).drew)
    have HB2:Hid (∀ V:World,Blk V B 107 #[.int .i64 1,.slice none 0 0,.int .i64 1,.slice none 0 0,.int .i64 0,.slice none 0 0]→Blk (V.setCells B 4 [.int .i64 1,.slice none 0 0]) B 107 #[.int .i64 1,.slice none 0 0,.int .i64 1,.slice none 0 0,.int .i64 1,.slice none 0 0]):=Lib.hid fun V hb=>by simpa [World.setCells] using ((hb.set_ 4 (.int .i64 1)).set_ 5 (.slice none 0 0))
    have HB1:=Lib.hid hb
    have HBd:=Lib.hid (hb.ext (Ext.refl wr).drew)
    clear hcp hb
    go_wp2_with fail
    go_region_held3 (fun _=>True) (exact trivial) (fail)
    all_goals
     (have hwr:IntKind.i64.wrap 3=3:=by decide
      rw [hwr]
      go_roundw
      case rel=>exact ⟨_,_,_,_,_,_,_,_,_,_,_,_,_,_,⟨3,by simp,rfl,(fun h=>absurd h (by decide)),(fun h=>absurd h (by decide)),(fun _=>HB2.out _ HBd.out),setCells_ext HB.out _ _ _ HX.out.drew⟩,rfl⟩
      case measure=>first | (simp [intOf];done) | (simp [intOf];omega) | decide)
  · have hb:=b3 rfl
    clear b3 b1 b2
    have HB1:=Lib.hid hb
    clear hb
    go_wp2_with fail
    go_ret
    exact ⟨_,rfl,HB1.out,HB.out,HX.out⟩
theorem mul_4 (w:World):Calls Tryz.prog 110 #[.int .u64 1,.int .u64 4] w fun e w'=>e=.returned (.tuple #[.int .u64 0,.int .u64 4])∧w'=w:=Tryz.bits_Mul 1 4 (by decide) (by decide) w
theorem make_4 (w:World):(Instr.makeSlice 31 (.int .i64 4) (.int .i64 4)).run Tryz.prog w=.ok (.slice (some ⟨w.heap.size,0,none⟩) 4 4) (w.alloc (.cells #[.int .i64 0,.slice none 0 0,.int .i64 0,.slice none 0 0,.int .i64 0,.slice none 0 0,.int .i64 0,.slice none 0 0] 107)):=by
 obtain ⟨i,i1,i2,i3,i4⟩:=info_parts (P:=Tryz.prog) (e:=107) (z:=.agg #[.int .i64 0,.slice none 0 0]) (size:=2) (bytes:=32) (by kernel_rfl)
 have h:=run_make (P:=Tryz.prog) w 31 107 i _ Tryz.underlying31 i1 i2 .i64 .i64 4 4 (by decide) (by decide) (by rw [i4];decide) (by decide)
 have e:madeCells (Value.agg #[.int .i64 0,.slice none 0 0]).cells (Int.toNat 4 * 2) = #[.int .i64 0,.slice none 0 0,.int .i64 0,.slice none 0 0,.int .i64 0,.slice none 0 0,.int .i64 0,.slice none 0 0]:=by kernel_rfl
 rw [i3,e] at h
 exact h
theorem repeat_4 (B0:Nat) (w:World) (e0:w.cell? ⟨B0,0,none⟩=some (.int .i64 1)) (e1:w.cell? ⟨B0,1,none⟩=some (.slice none 0 0)) :
 Calls Tryz.prog 56 #[.slice (some ⟨B0,0,none⟩) 1 1,.int .i64 4] w fun e w'=>∃ B,e=.returned (.slice (some ⟨B,0,none⟩) 4 4)∧Blk w' B 107 #[.int .i64 1,.slice none 0 0,.int .i64 1,.slice none 0 0,.int .i64 1,.slice none 0 0,.int .i64 1,.slice none 0 0]∧w.heap.size≤B∧Ext w w':=by
 have E0:=Lib.hid e0
 have E1:=Lib.hid e1
 have hx0:=fun o:Obj=>Ext.some ((Ext.refl w).alloc o) e0
 have hx1:=fun o:Obj=>Ext.some ((Ext.refl w).alloc o) e1
 have hmk:=make_4
 have hcp:=run_copy_k (P:=Tryz.prog) (w.alloc (.cells #[.int .i64 0,.slice none 0 0,.int .i64 0,.slice none 0 0,.int .i64 0,.slice none 0 0,.int .i64 0,.slice none 0 0] 107)) 31 31 3 107 2 1 w.heap.size 0 4 4 ⟨B0,0,none⟩ 1 1 [.int .i64 1,.slice none 0 0] Tryz.underlying31 (by kernel_rfl) rfl rfl (fun j v hj=>by rcases j with _ | _ | j;(cases hj;exact hx0 _);(cases hj;exact hx1 _);(simp at hj)) (cells_there (C:=#[.int .i64 0,.slice none 0 0,.int .i64 0,.slice none 0 0,.int .i64 0,.slice none 0 0,.int .i64 0,.slice none 0 0]) (heap_alloc_new w _) (by simp)) (by simp [Value.oneCell'])
 go_enter Tryz.func56,Tryz.ntmps56
 go_wp2_with (go_at_call 110;(with_reducible refine (mul_4 _).mono ?_);rintro e w' ⟨rfl,hw⟩;rw [hw];clear hw)
 clear hmk hcp hx0 hx1
 obtain ⟨W,B,hW,hB,hxW,hb⟩:∃ W B,W=(w.alloc (.cells #[.int .i64 0,.slice none 0 0,.int .i64 0,.slice none 0 0,.int .i64 0,.slice none 0 0,.int .i64 0,.slice none 0 0] 107)).setCells w.heap.size 0 [.int .i64 1,.slice none 0 0]∧B=w.heap.size∧Ext w W∧Blk W B 107 #[.int .i64 1,.slice none 0 0,.int .i64 0,.slice none 0 0,.int .i64 0,.slice none 0 0,.int .i64 0,.slice none 0 0]:=⟨_,_,rfl,rfl,setCells_ext (Nat.le_refl _) _ _ _ ((Ext.refl w).alloc _),by simpa [World.setCells] using ((Blk.new w 107 #[.int .i64 0,.slice none 0 0,.int .i64 0,.slice none 0 0,.int .i64 0,.slice none 0 0,.int .i64 0,.slice none 0 0]).set_ 0 (.int .i64 1)).set_ 1 (.slice none 0 0)⟩
 rw [← hW,← hB]
 have HB:Hid (w.heap.size≤B):=Lib.hid (by omega)
 have HW:=Lib.hid hxW
 have HBk:=Lib.hid hb
 clear hW hB hxW hb
 go_loopw [8] (fun t w'=>∃ k:Int,(k=1∨k=2∨k=4)∧t=.int .i64 k∧(k=1→Blk w' B 107 #[.int .i64 1,.slice none 0 0,.int .i64 0,.slice none 0 0,.int .i64 0,.slice none 0 0,.int .i64 0,.slice none 0 0])∧(k=2→Blk w' B 107 #[.int .i64 1,.slice none 0 0,.int .i64 1,.slice none 0 0,.int .i64 0,.slice none 0 0,.int .i64 0,.slice none 0 0])∧(k=4→Blk w' B 107 #[.int .i64 1,.slice none 0 0,.int .i64 1,.slice none 0 0,.int .i64 1,.slice none 0 0,.int .i64 1,.slice none 0 0])∧Ext w w') (fun t _=>4 - (intOf t).toNat)
 case atStart=>exact ⟨1,by simp,rfl,fun _=>HBk.out,fun h=>absurd h (by decide),fun h=>absurd h (by decide),HW.out⟩
 case round =>
  obtain ⟨k,hk,rfl,b1,b2,b4,hx⟩:=hrel
  have HX:=Lib.hid hx
  clear hx
  rcases hk with rfl | rfl | rfl
  · have hb:=b1 rfl
    clear b1 b2 b4
    have hcp:∀ V:World,Blk V B 107 #[.int .i64 1,.slice none 0 0,.int .i64 0,.slice none 0 0,.int .i64 0,.slice none 0 0,.int .i64 0,.slice none 0 0]→(Builtin.copy_ #[31,31] 3 #[.slice (some ⟨B,2,none⟩) 3 3,.slice (some ⟨B,0,none⟩) 1 4]).run Tryz.prog V=.ok (goInt 1) (V.setCells B 2 [.int .i64 1,.slice none 0 0]):=fun V hb=>run_copy_k (P:=Tryz.prog) V 31 31 3 107 2 1 B 2 3 3 ⟨B,0,none⟩ 1 4 [.int .i64 1,.slice none 0 0] Tryz.underlying31 (by kernel_rfl) rfl rfl (fun j v hj=>by rw [Addr.add_mid,Nat.zero_add,hb.cell j];rcases j with _ | _ | j <;> first | (cases hj;rfl) | (simp at hj)) (cells_there (C:=#[.int .i64 1,.slice none 0 0,.int .i64 0,.slice none 0 0,.int .i64 0,.slice none 0 0,.int .i64 0,.slice none 0 0]) hb (by simp)) (by simp [Value.oneCell'])
    have hc0:=hcp _ hb
    have hc1:=hcp wr.drew (hb.ext (Ext.refl _).drew)
    have HB2:Hid (∀ V:World,Blk V B 107 #[.int .i64 1,.slice none 0 0,.int .i64 0,.slice none 0 0,.int .i64 0,.slice none 0 0,.int .i64 0,.slice none 0 0]→Blk (V.setCells B 2 [.int .i64 1,.slice none 0 0]) B 107 #[.int .i64 1,.slice none 0 0,.int .i64 1,.slice none 0 0,.int .i64 0,.slice none 0 0,.int .i64 0,.slice none 0 0]):=Lib.hid fun V hb=>by simpa [World.setCells] using ((hb.set_ 2 (.int .i64 1)).set_ 3 (.slice none 0 0))
    have HB1:=Lib.hid hb
    have HBd:=Lib.hid (hb.ext (Ext.refl wr).drew)
    clear hcp hb
    go_wp2_with fail
    go_region_held3 (fun _=>True) (exact trivial) (fail)
    all_goals
     (have hwr:IntKind.i64.wrap 2=2:=by decide
      rw [hwr]
      go_roundw
      case rel=>exact ⟨_,_,_,_,_,_,_,_,_,_,_,_,_,_,⟨2,by simp,rfl,(fun h=>absurd h (by decide)),(fun _=>HB2.out _ HBd.out),(fun h=>absurd h (by decide)),setCells_ext HB.out _ _ _ HX.out.drew⟩,rfl⟩
      case measure=>first | (simp [intOf];done) | (simp [intOf];omega) | decide)
  · have hb:=b2 rfl
    clear b2 b1 b4
    have hcp:∀ V:World,Blk V B 107 #[.int .i64 1,.slice none 0 0,.int .i64 1,.slice none 0 0,.int .i64 0,.slice none 0 0,.int .i64 0,.slice none 0 0]→(Builtin.copy_ #[31,31] 3 #[.slice (some ⟨B,4,none⟩) 2 2,.slice (some ⟨B,0,none⟩) 2 4]).run Tryz.prog V=.ok (goInt 2) (V.setCells B 4 [.int .i64 1,.slice none 0 0,.int .i64 1,.slice none 0 0]):=fun V hb=>run_copy_k (P:=Tryz.prog) V 31 31 3 107 2 2 B 4 2 2 ⟨B,0,none⟩ 2 4 [.int .i64 1,.slice none 0 0,.int .i64 1,.slice none 0 0] Tryz.underlying31 (by kernel_rfl) rfl rfl (fun j v hj=>by rw [Addr.add_mid,Nat.zero_add,hb.cell j];rcases j with _ | _ | _ | _ | j <;> first | (cases hj;rfl) | (simp at hj)) (cells_there (C:=#[.int .i64 1,.slice none 0 0,.int .i64 1,.slice none 0 0,.int .i64 0,.slice none 0 0,.int .i64 0,.slice none 0 0]) hb (by simp)) (by simp [Value.oneCell'])
    have hc0:=hcp _ hb
    have hc1:=hcp wr.drew (hb.ext (Ext.refl _).drew)
    have HB2:Hid (∀ V:World,Blk V B 107 #[.int .i64 1,.slice none 0 0,.int .i64 1,.slice none 0 0,.int .i64 0,.slice none 0 0,.int .i64 0,.slice none 0 0]→Blk (V.setCells B 4 [.int .i64 1,.slice none 0 0,.int .i64 1,.slice none 0 0]) B 107 #[.int .i64 1,.slice none 0 0,.int .i64 1,.slice none 0 0,.int .i64 1,.slice none 0 0,.int .i64 1,.slice none 0 0]):=Lib.hid fun V hb=>by simpa [World.setCells] using ((((hb.set_ 4 (.int .i64 1)).set_ 5 (.slice none 0 0)).set_ 6 (.int .i64 1)).set_ 7 (.slice none 0 0))
    have HB1:=Lib.hid hb
    have HBd:=Lib.hid (hb.ext (Ext.refl wr).drew)
    clear hcp hb
    go_wp2_with fail
    go_region_held3 (fun _=>True) (exact trivial) (fail)
    all_goals
     (have hwr:IntKind.i64.wrap 4=4:=by decide
      rw [hwr]
      go_roundw
      case rel=>exact ⟨_,_,_,_,_,_,_,_,_,_,_,_,_,_,⟨4,by simp,rfl,(fun h=>absurd h (by decide)),(fun h=>absurd h (by decide)),(fun _=>HB2.out _ HBd.out),setCells_ext HB.out _ _ _ HX.out.drew⟩,rfl⟩
      case measure=>first | (simp [intOf];done) | (simp [intOf];omega) | decide)
  · have hb:=b4 rfl
    clear b4 b1 b2
    have HB1:=Lib.hid hb
    clear hb
    go_wp2_with fail
    go_ret
    exact ⟨_,rfl,HB1.out,HB.out,HX.out⟩
theorem mul_5 (w:World):Calls Tryz.prog 110 #[.int .u64 1,.int .u64 5] w fun e w'=>e=.returned (.tuple #[.int .u64 0,.int .u64 5])∧w'=w:=Tryz.bits_Mul 1 5 (by decide) (by decide) w
theorem make_5 (w:World):(Instr.makeSlice 31 (.int .i64 5) (.int .i64 5)).run Tryz.prog w=.ok (.slice (some ⟨w.heap.size,0,none⟩) 5 5) (w.alloc (.cells #[.int .i64 0,.slice none 0 0,.int .i64 0,.slice none 0 0,.int .i64 0,.slice none 0 0,.int .i64 0,.slice none 0 0,.int .i64 0,.slice none 0 0] 107)):=by
 obtain ⟨i,i1,i2,i3,i4⟩:=info_parts (P:=Tryz.prog) (e:=107) (z:=.agg #[.int .i64 0,.slice none 0 0]) (size:=2) (bytes:=32) (by kernel_rfl)
 have h:=run_make (P:=Tryz.prog) w 31 107 i _ Tryz.underlying31 i1 i2 .i64 .i64 5 5 (by decide) (by decide) (by rw [i4];decide) (by decide)
 have e:madeCells (Value.agg #[.int .i64 0,.slice none 0 0]).cells (Int.toNat 5 * 2) = #[.int .i64 0,.slice none 0 0,.int .i64 0,.slice none 0 0,.int .i64 0,.slice none 0 0,.int .i64 0,.slice none 0 0,.int .i64 0,.slice none 0 0]:=by kernel_rfl
 rw [i3,e] at h
 exact h
theorem repeat_5 (B0:Nat) (w:World) (e0:w.cell? ⟨B0,0,none⟩=some (.int .i64 1)) (e1:w.cell? ⟨B0,1,none⟩=some (.slice none 0 0)) :
 Calls Tryz.prog 56 #[.slice (some ⟨B0,0,none⟩) 1 1,.int .i64 5] w fun e w'=>∃ B,e=.returned (.slice (some ⟨B,0,none⟩) 5 5)∧Blk w' B 107 #[.int .i64 1,.slice none 0 0,.int .i64 1,.slice none 0 0,.int .i64 1,.slice none 0 0,.int .i64 1,.slice none 0 0,.int .i64 1,.slice none 0 0]∧w.heap.size≤B∧Ext w w':=by
 have E0:=Lib.hid e0
 have E1:=Lib.hid e1
 have hx0:=fun o:Obj=>Ext.some ((Ext.refl w).alloc o) e0
 have hx1:=fun o:Obj=>Ext.some ((Ext.refl w).alloc o) e1
 have hmk:=make_5
 have hcp:=run_copy_k (P:=Tryz.prog) (w.alloc (.cells #[.int .i64 0,.slice none 0 0,.int .i64 0,.slice none 0 0,.int .i64 0,.slice none 0 0,.int .i64 0,.slice none 0 0,.int .i64 0,.slice none 0 0] 107)) 31 31 3 107 2 1 w.heap.size 0 5 5 ⟨B0,0,none⟩ 1 1 [.int .i64 1,.slice none 0 0] Tryz.underlying31 (by kernel_rfl) rfl rfl (fun j v hj=>by rcases j with _ | _ | j;(cases hj;exact hx0 _);(cases hj;exact hx1 _);(simp at hj)) (cells_there (C:=#[.int .i64 0,.slice none 0 0,.int .i64 0,.slice none 0 0,.int .i64 0,.slice none 0 0,.int .i64 0,.slice none 0 0,.int .i64 0,.slice none 0 0]) (heap_alloc_new w _) (by simp)) (by simp [Value.oneCell'])
 go_enter Tryz.func56,Tryz.ntmps56
 go_wp2_with (go_at_call 110;(with_reducible refine (mul_5 _).mono ?_);rintro e w' ⟨rfl,hw⟩;rw [hw];clear hw)
 clear hmk hcp hx0 hx1
 obtain ⟨W,B,hW,hB,hxW,hb⟩:∃ W B,W=(w.alloc (.cells #[.int .i64 0,.slice none 0 0,.int .i64 0,.slice none 0 0,.int .i64 0,.slice none 0 0,.int .i64 0,.slice none 0 0,.int .i64 0,.slice none 0 0] 107)).setCells w.heap.size 0 [.int .i64 1,.slice none 0 0]∧B=w.heap.size∧Ext w W∧Blk W B 107 #[.int .i64 1,.slice none 0 0,.int .i64 0,.slice none 0 0,.int .i64 0,.slice none 0 0,.int .i64 0,.slice none 0 0,.int .i64 0,.slice none 0 0]:=⟨_,_,rfl,rfl,setCells_ext (Nat.le_refl _) _ _ _ ((Ext.refl w).alloc _),by simpa [World.setCells] using ((Blk.new w 107 #[.int .i64 0,.slice none 0 0,.int .i64 0,.slice none 0 0,.int .i64 0,.slice none 0 0,.int .i64 0,.slice none 0 0,.int .i64 0,.slice none 0 0]).set_ 0 (.int .i64 1)).set_ 1 (.slice none 0 0)⟩
 rw [← hW,← hB]
 have HB:Hid (w.heap.size≤B):=Lib.hid (by omega)
 have HW:=Lib.hid hxW
 have HBk:=Lib.hid hb
 clear hW hB hxW hb
 go_loopw [8] (fun t w'=>∃ k:Int,(k=1∨k=2∨k=4∨k=5)∧t=.int .i64 k∧(k=1→Blk w' B 107 #[.int .i64 1,.slice none 0 0,.int .i64 0,.slice none 0 0,.int .i64 0,.slice none 0 0,.int .i64 0,.slice none 0 0,.int .i64 0,.slice none 0 0])∧(k=2→Blk w' B 107 #[.int .i64 1,.slice none 0 0,.int .i64 1,.slice none 0 0,.int .i64 0,.slice none 0 0,.int .i64 0,.slice none 0 0,.int .i64 0,.slice none 0 0])∧(k=4→Blk w' B 107 #[.int .i64 1,.slice none 0 0,.int .i64 1,.slice none 0 0,.int .i64 1,.slice none 0 0,.int .i64 1,.slice none 0 0,.int .i64 0,.slice none 0 0])∧(k=5→Blk w' B 107 #[.int .i64 1,.slice none 0 0,.int .i64 1,.slice none 0 0,.int .i64 1,.slice none 0 0,.int .i64 1,.slice none 0 0,.int .i64 1,.slice none 0 0])∧Ext w w') (fun t _=>5 - (intOf t).toNat)
 case atStart=>exact ⟨1,by simp,rfl,fun _=>HBk.out,fun h=>absurd h (by decide),fun h=>absurd h (by decide),fun h=>absurd h (by decide),HW.out⟩
 case round =>
  obtain ⟨k,hk,rfl,b1,b2,b4,b5,hx⟩:=hrel
  have HX:=Lib.hid hx
  clear hx
  rcases hk with rfl | rfl | rfl | rfl
  · have hb:=b1 rfl
    clear b1 b2 b4 b5
    have hcp:∀ V:World,Blk V B 107 #[.int .i64 1,.slice none 0 0,.int .i64 0,.slice none 0 0,.int .i64 0,.slice none 0 0,.int .i64 0,.slice none 0 0,.int .i64 0,.slice none 0 0]→(Builtin.copy_ #[31,31] 3 #[.slice (some ⟨B,2,none⟩) 4 4,.slice (some ⟨B,0,none⟩) 1 5]).run Tryz.prog V=.ok (goInt 1) (V.setCells B 2 [.int .i64 1,.slice none 0 0]):=fun V hb=>run_copy_k (P:=Tryz.prog) V 31 31 3 107 2 1 B 2 4 4 ⟨B,0,none⟩ 1 5 [.int .i64 1,.slice none 0 0] Tryz.underlying31 (by kernel_rfl) rfl rfl (fun j v hj=>by rw [Addr.add_mid,Nat.zero_add,hb.cell j];rcases j with _ | _ | j <;> first | (cases hj;rfl) | (simp at hj)) (cells_there (C:=#[.int .i64 1,.slice none 0 0,.int .i64 0,.slice none 0 0,.int .i64 0,.slice none 0 0,.int .i64 0,.slice none 0 0,.int .i64 0,.slice none 0 0]) hb (by simp)) (by simp [Value.oneCell'])
    have hc0:=hcp _ hb
    have hc1:=hcp wr.drew (hb.ext (Ext.refl _).drew)
    have HB2:Hid (∀ V:World,Blk V B 107 #[.int .i64 1,.slice none 0 0,.int .i64 0,.slice none 0 0,.int .i64 0,.slice none 0 0,.int .i64 0,.slice none 0 0,.int .i64 0,.slice none 0 0]→Blk (V.setCells B 2 [.int .i64 1,.slice none 0 0]) B 107 #[.int .i64 1,.slice none 0 0,.int .i64 1,.slice none 0 0,.int .i64 0,.slice none 0 0,.int .i64 0,.slice none 0 0,.int .i64 0,.slice none 0 0]):=Lib.hid fun V hb=>by simpa [World.setCells] using ((hb.set_ 2 (.int .i64 1)).set_ 3 (.slice none 0 0))
    have HB1:=Lib.hid hb
    have HBd:=Lib.hid (hb.ext (Ext.refl wr).drew)
    clear hcp hb
    go_wp2_with fail
    go_region_held3 (fun _=>True) (exact trivial) (fail)
    all_goals
     (have hwr:IntKind.i64.wrap 2=2:=by decide
      rw [hwr]
      go_roundw
      case rel=>exact ⟨_,_,_,_,_,_,_,_,_,_,_,_,_,_,⟨2,by simp,rfl,(fun h=>absurd h (by decide)),(fun _=>HB2.out _ HBd.out),(fun h=>absurd h (by decide)),(fun h=>absurd h (by decide)),setCells_ext HB.out _ _ _ HX.out.drew⟩,rfl⟩
      case measure=>first | (simp [intOf];done) | (simp [intOf];omega) | decide)
  · have hb:=b2 rfl
    clear b2 b1 b4 b5
    have hcp:∀ V:World,Blk V B 107 #[.int .i64 1,.slice none 0 0,.int .i64 1,.slice none 0 0,.int .i64 0,.slice none 0 0,.int .i64 0,.slice none 0 0,.int .i64 0,.slice none 0 0]→(Builtin.copy_ #[31,31] 3 #[.slice (some ⟨B,4,none⟩) 3 3,.slice (some ⟨B,0,none⟩) 2 5]).run Tryz.prog V=.ok (goInt 2) (V.setCells B 4 [.int .i64 1,.slice none 0 0,.int .i64 1,.slice none 0 0]):=fun V hb=>run_copy_k (P:=Tryz.prog) V 31 31 3 107 2 2 B 4 3 3 ⟨B,0,none⟩ 2 5 [.int .i64 1,.slice none 0 0,.int .i64 1,.slice none 0 0] Tryz.underlying31 (by kernel_rfl) rfl rfl (fun j v hj=>by rw [Addr.add_mid,Nat.zero_add,hb.cell j];rcases j with _ | _ | _ | _ | j <;> first | (cases hj;rfl) | (simp at hj)) (cells_there (C:=#[.int .i64 1,.slice none 0 0,.int .i64 1,.slice none 0 0,.int .i64 0,.slice none 0 0,.int .i64 0,.slice none 0 0,.int .i64 0,.slice none 0 0]) hb (by simp)) (by simp [Value.oneCell'])
    have hc0:=hcp _ hb
    have hc1:=hcp wr.drew (hb.ext (Ext.refl _).drew)
    have HB2:Hid (∀ V:World,Blk V B 107 #[.int .i64 1,.slice none 0 0,.int .i64 1,.slice none 0 0,.int .i64 0,.slice none 0 0,.int .i64 0,.slice none 0 0,.int .i64 0,.slice none 0 0]→Blk (V.setCells B 4 [.int .i64 1,.slice none 0 0,.int .i64 1,.slice none 0 0]) B 107 #[.int .i64 1,.slice none 0 0,.int .i64 1,.slice none 0 0,.int .i64 1,.slice none 0 0,.int .i64 1,.slice none 0 0,.int .i64 0,.slice none 0 0]):=Lib.hid fun V hb=>by simpa [World.setCells] using ((((hb.set_ 4 (.int .i64 1)).set_ 5 (.slice none 0 0)).set_ 6 (.int .i64 1)).set_ 7 (.slice none 0 0))
    have HB1:=Lib.hid hb
    have HBd:=Lib.hid (hb.ext (Ext.refl wr).drew)
    clear hcp hb
    go_wp2_with fail
    go_region_held3 (fun _=>True) (exact trivial) (fail)
    all_goals
     (have hwr:IntKind.i64.wrap 4=4:=by decide
      rw [hwr]
      go_roundw
      case rel=>exact ⟨_,_,_,_,_,_,_,_,_,_,_,_,_,_,⟨4,by simp,rfl,(fun h=>absurd h (by decide)),(fun h=>absurd h (by decide)),(fun _=>HB2.out _ HBd.out),(fun h=>absurd h (by decide)),setCells_ext HB.out _ _ _ HX.out.drew⟩,rfl⟩
      case measure=>first | (simp [intOf];done) | (simp [intOf];omega) | decide)
  · have hb:=b4 rfl
    clear b4 b1 b2 b5
    have hcp:∀ V:World,Blk V B 107 #[.int .i64 1,.slice none 0 0,.int .i64 1,.slice none 0 0,.int .i64 1,.slice none 0 0,.int .i64 1,.slice none 0 0,.int .i64 0,.slice none 0 0]→(Builtin.copy_ #[31,31] 3 #[.slice (some ⟨B,8,none⟩) 1 1,.slice (some ⟨B,0,none⟩) 4 5]).run Tryz.prog V=.ok (goInt 1) (V.setCells B 8 [.int .i64 1,.slice none 0 0]):=fun V hb=>run_copy_k (P:=Tryz.prog) V 31 31 3 107 2 1 B 8 1 1 ⟨B,0,none⟩ 4 5 [.int .i64 1,.slice none 0 0] Tryz.underlying31 (by kernel_rfl) rfl rfl (fun j v hj=>by rw [Addr.add_mid,Nat.zero_add,hb.cell j];rcases j with _ | _ | j <;> first | (cases hj;rfl) | (simp at hj)) (cells_there (C:=#[.int .i64 1,.slice none 0 0,.int .i64 1,.slice none 0 0,.int .i64 1,.slice none 0 0,.int .i64 1,.slice none 0 0,.int .i64 0,.slice none 0 0]) hb (by simp)) (by simp [Value.oneCell'])
    have hc0:=hcp _ hb
    have hc1:=hcp wr.drew (hb.ext (Ext.refl _).drew)
    have HB2:Hid (∀ V:World,Blk V B 107 #[.int .i64 1,.slice none 0 0,.int .i64 1,.slice none 0 0,.int .i64 1,.slice none 0 0,.int .i64 1,.slice none 0 0,.int .i64 0,.slice none 0 0]→Blk (V.setCells B 8 [.int .i64 1,.slice none 0 0]) B 107 #[.int .i64 1,.slice none 0 0,.int .i64 1,.slice none 0 0,.int .i64 1,.slice none 0 0,.int .i64 1,.slice none 0 0,.int .i64 1,.slice none 0 0]):=Lib.hid fun V hb=>by simpa [World.setCells] using ((hb.set_ 8 (.int .i64 1)).set_ 9 (.slice none 0 0))
    have HB1:=Lib.hid hb
    have HBd:=Lib.hid (hb.ext (Ext.refl wr).drew)
    clear hcp hb
    go_wp2_with fail
    go_region_held3 (fun _=>True) (exact trivial) (fail)
    all_goals
     (have hwr:IntKind.i64.wrap 5=5:=by decide
      rw [hwr]
      go_roundw
      case rel=>exact ⟨_,_,_,_,_,_,_,_,_,_,_,_,_,_,⟨5,by simp,rfl,(fun h=>absurd h (by decide)),(fun h=>absurd h (by decide)),(fun h=>absurd h (by decide)),(fun _=>HB2.out _ HBd.out),setCells_ext HB.out _ _ _ HX.out.drew⟩,rfl⟩
      case measure=>first | (simp [intOf];done) | (simp [intOf];omega) | decide)
  · have hb:=b5 rfl
    clear b5 b1 b2 b4
    have HB1:=Lib.hid hb
    clear hb
    go_wp2_with fail
    go_ret
    exact ⟨_,rfl,HB1.out,HB.out,HX.out⟩
theorem mul_6 (w:World):Calls Tryz.prog 110 #[.int .u64 1,.int .u64 6] w fun e w'=>e=.returned (.tuple #[.int .u64 0,.int .u64 6])∧w'=w:=Tryz.bits_Mul 1 6 (by decide) (by decide) w
theorem make_6 (w:World):(Instr.makeSlice 31 (.int .i64 6) (.int .i64 6)).run Tryz.prog w=.ok (.slice (some ⟨w.heap.size,0,none⟩) 6 6) (w.alloc (.cells #[.int .i64 0,.slice none 0 0,.int .i64 0,.slice none 0 0,.int .i64 0,.slice none 0 0,.int .i64 0,.slice none 0 0,.int .i64 0,.slice none 0 0,.int .i64 0,.slice none 0 0] 107)):=by
 obtain ⟨i,i1,i2,i3,i4⟩:=info_parts (P:=Tryz.prog) (e:=107) (z:=.agg #[.int .i64 0,.slice none 0 0]) (size:=2) (bytes:=32) (by kernel_rfl)
 have h:=run_make (P:=Tryz.prog) w 31 107 i _ Tryz.underlying31 i1 i2 .i64 .i64 6 6 (by decide) (by decide) (by rw [i4];decide) (by decide)
 have e:madeCells (Value.agg #[.int .i64 0,.slice none 0 0]).cells (Int.toNat 6 * 2) = #[.int .i64 0,.slice none 0 0,.int .i64 0,.slice none 0 0,.int .i64 0,.slice none 0 0,.int .i64 0,.slice none 0 0,.int .i64 0,.slice none 0 0,.int .i64 0,.slice none 0 0]:=by kernel_rfl
 rw [i3,e] at h
 exact h
theorem repeat_6 (B0:Nat) (w:World) (e0:w.cell? ⟨B0,0,none⟩=some (.int .i64 1)) (e1:w.cell? ⟨B0,1,none⟩=some (.slice none 0 0)) :
 Calls Tryz.prog 56 #[.slice (some ⟨B0,0,none⟩) 1 1,.int .i64 6] w fun e w'=>∃ B,e=.returned (.slice (some ⟨B,0,none⟩) 6 6)∧Blk w' B 107 #[.int .i64 1,.slice none 0 0,.int .i64 1,.slice none 0 0,.int .i64 1,.slice none 0 0,.int .i64 1,.slice none 0 0,.int .i64 1,.slice none 0 0,.int .i64 1,.slice none 0 0]∧w.heap.size≤B∧Ext w w':=by
 have E0:=Lib.hid e0
 have E1:=Lib.hid e1
 have hx0:=fun o:Obj=>Ext.some ((Ext.refl w).alloc o) e0
 have hx1:=fun o:Obj=>Ext.some ((Ext.refl w).alloc o) e1
 have hmk:=make_6
 have hcp:=run_copy_k (P:=Tryz.prog) (w.alloc (.cells #[.int .i64 0,.slice none 0 0,.int .i64 0,.slice none 0 0,.int .i64 0,.slice none 0 0,.int .i64 0,.slice none 0 0,.int .i64 0,.slice none 0 0,.int .i64 0,.slice none 0 0] 107)) 31 31 3 107 2 1 w.heap.size 0 6 6 ⟨B0,0,none⟩ 1 1 [.int .i64 1,.slice none 0 0] Tryz.underlying31 (by kernel_rfl) rfl rfl (fun j v hj=>by rcases j with _ | _ | j;(cases hj;exact hx0 _);(cases hj;exact hx1 _);(simp at hj)) (cells_there (C:=#[.int .i64 0,.slice none 0 0,.int .i64 0,.slice none 0 0,.int .i64 0,.slice none 0 0,.int .i64 0,.slice none 0 0,.int .i64 0,.slice none 0 0,.int .i64 0,.slice none 0 0]) (heap_alloc_new w _) (by simp)) (by simp [Value.oneCell'])
 go_enter Tryz.func56,Tryz.ntmps56
 go_wp2_with (go_at_call 110;(with_reducible refine (mul_6 _).mono ?_);rintro e w' ⟨rfl,hw⟩;rw [hw];clear hw)
 clear hmk hcp hx0 hx1
 obtain ⟨W,B,hW,hB,hxW,hb⟩:∃ W B,W=(w.alloc (.cells #[.int .i64 0,.slice none 0 0,.int .i64 0,.slice none 0 0,.int .i64 0,.slice none 0 0,.int .i64 0,.slice none 0 0,.int .i64 0,.slice none 0 0,.int .i64 0,.slice none 0 0] 107)).setCells w.heap.size 0 [.int .i64 1,.slice none 0 0]∧B=w.heap.size∧Ext w W∧Blk W B 107 #[.int .i64 1,.slice none 0 0,.int .i64 0,.slice none 0 0,.int .i64 0,.slice none 0 0,.int .i64 0,.slice none 0 0,.int .i64 0,.slice none 0 0,.int .i64 0,.slice none 0 0]:=⟨_,_,rfl,rfl,setCells_ext (Nat.le_refl _) _ _ _ ((Ext.refl w).alloc _),by simpa [World.setCells] using ((Blk.new w 107 #[.int .i64 0,.slice none 0 0,.int .i64 0,.slice none 0 0,.int .i64 0,.slice none 0 0,.int .i64 0,.slice none 0 0,.int .i64 0,.slice none 0 0,.int .i64 0,.slice none 0 0]).set_ 0 (.int .i64 1)).set_ 1 (.slice none 0 0)⟩
 rw [← hW,← hB]
 have HB:Hid (w.heap.size≤B):=Lib.hid (by omega)
 have HW:=Lib.hid hxW
 have HBk:=Lib.hid hb
 clear hW hB hxW hb
 go_loopw [8] (fun t w'=>∃ k:Int,(k=1∨k=2∨k=4∨k=6)∧t=.int .i64 k∧(k=1→Blk w' B 107 #[.int .i64 1,.slice none 0 0,.int .i64 0,.slice none 0 0,.int .i64 0,.slice none 0 0,.int .i64 0,.slice none 0 0,.int .i64 0,.slice none 0 0,.int .i64 0,.slice none 0 0])∧(k=2→Blk w' B 107 #[.int .i64 1,.slice none 0 0,.int .i64 1,.slice none 0 0,.int .i64 0,.slice none 0 0,.int .i64 0,.slice none 0 0,.int .i64 0,.slice none 0 0,.int .i64 0,.slice none 0 0])∧(k=4→Blk w' B 107 #[.int .i64 1,.slice none 0 0,.int .i64 1,.slice none 0 0,.int .i64 1,.slice none 0 0,.int .i64 1,.slice none 0 0,.int .i64 0,.slice none 0 0,.int .i64 0,.slice none 0 0])∧(k=6→Blk w' B 107 #[.int .i64 1,.slice none 0 0,.int .i64 1,.slice none 0 0,.int .i64 1,.slice none 0 0,.int .i64 1,.slice none 0 0,.int .i64 1,.slice none 0 0,.int .i64 1,.slice none 0 0])∧Ext w w') (fun t _=>6 - (intOf t).toNat)
 case atStart=>exact ⟨1,by simp,rfl,fun _=>HBk.out,fun h=>absurd h (by decide),fun h=>absurd h (by decide),fun h=>absurd h (by decide),HW.out⟩
 case round =>
  obtain ⟨k,hk,rfl,b1,b2,b4,b6,hx⟩:=hrel
  have HX:=Lib.hid hx
  clear hx
  rcases hk with rfl | rfl | rfl | rfl
  · have hb:=b1 rfl
    clear b1 b2 b4 b6
    have hcp:∀ V:World,Blk V B 107 #[.int .i64 1,.slice none 0 0,.int .i64 0,.slice none 0 0,.int .i64 0,.slice none 0 0,.int .i64 0,.slice none 0 0,.int .i64 0,.slice none 0 0,.int .i64 0,.slice none 0 0]→(Builtin.copy_ #[31,31] 3 #[.slice (some ⟨B,2,none⟩) 5 5,.slice (some ⟨B,0,none⟩) 1 6]).run Tryz.prog V=.ok (goInt 1) (V.setCells B 2 [.int .i64 1,.slice none 0 0]):=fun V hb=>run_copy_k (P:=Tryz.prog) V 31 31 3 107 2 1 B 2 5 5 ⟨B,0,none⟩ 1 6 [.int .i64 1,.slice none 0 0] Tryz.underlying31 (by kernel_rfl) rfl rfl (fun j v hj=>by rw [Addr.add_mid,Nat.zero_add,hb.cell j];rcases j with _ | _ | j <;> first | (cases hj;rfl) | (simp at hj)) (cells_there (C:=#[.int .i64 1,.slice none 0 0,.int .i64 0,.slice none 0 0,.int .i64 0,.slice none 0 0,.int .i64 0,.slice none 0 0,.int .i64 0,.slice none 0 0,.int .i64 0,.slice none 0 0]) hb (by simp)) (by simp [Value.oneCell'])
    have hc0:=hcp _ hb
    have hc1:=hcp wr.drew (hb.ext (Ext.refl _).drew)
    have HB2:Hid (∀ V:World,Blk V B 107 #[.int .i64 1,.slice none 0 0,.int .i64 0,.slice none 0 0,.int .i64 0,.slice none 0 0,.int .i64 0,.slice none 0 0,.int .i64 0,.slice none 0 0,.int .i64 0,.slice none 0 0]→Blk (V.setCells B 2 [.int .i64 1,.slice none 0 0]) B 107 #[.int .i64 1,.slice none 0 0,.int .i64 1,.slice none 0 0,.int .i64 0,.slice none 0 0,.int .i64 0,.slice none 0 0,.int .i64 0,.slice none 0 0,.int .i64 0,.slice none 0 0]):=Lib.hid fun V hb=>by simpa [World.setCells] using ((hb.set_ 2 (.int .i64 1)).set_ 3 (.slice none 0 0))
    have HB1:=Lib.hid hb
    have HBd:=Lib.hid (hb.ext (Ext.refl wr).drew)
    clear hcp hb
    go_wp2_with fail
    go_region_held3 (fun _=>True) (exact trivial) (fail)
    all_goals
     (have hwr:IntKind.i64.wrap 2=2:=by decide
      rw [hwr]
      go_roundw
      case rel=>exact ⟨_,_,_,_,_,_,_,_,_,_,_,_,_,_,⟨2,by simp,rfl,(fun h=>absurd h (by decide)),(fun _=>HB2.out _ HBd.out),(fun h=>absurd h (by decide)),(fun h=>absurd h (by decide)),setCells_ext HB.out _ _ _ HX.out.drew⟩,rfl⟩
      case measure=>first | (simp [intOf];done) | (simp [intOf];omega) | decide)
  · have hb:=b2 rfl
    clear b2 b1 b4 b6
    have hcp:∀ V:World,Blk V B 107 #[.int .i64 1,.slice none 0 0,.int .i64 1,.slice none 0 0,.int .i64 0,.slice none 0 0,.int .i64 0,.slice none 0 0,.int .i64 0,.slice none 0 0,.int .i64 0,.slice none 0 0]→(Builtin.copy_ #[31,31] 3 #[.slice (some ⟨B,4,none⟩) 4 4,.slice (some ⟨B,0,none⟩) 2 6]).run Tryz.prog V=.ok (goInt 2) (V.setCells B 4 [.int .i64 1,.slice none 0 0,.int .i64 1,.slice none 0 0]):=fun V hb=>run_copy_k (P:=Tryz.prog) V 31 31 3 107 2 2 B 4 4 4 ⟨B,0,none⟩ 2 6 [.int .i64 1,.slice none 0 0,.int .i64 1,.slice none 0 0] Tryz.underlying31 (by kernel_rfl) rfl rfl (fun j v hj=>by rw [Addr.add_mid,Nat.zero_add,hb.cell j];rcases j with _ | _ | _ | _ | j <;> first | (cases hj;rfl) | (simp at hj)) (cells_there (C:=#[.int .i64 1,.slice none 0 0,.int .i64 1,.slice none 0 0,.int .i64 0,.slice none 0 0,.int .i64 0,.slice none 0 0,.int .i64 0,.slice none 0 0,.int .i64 0,.slice none 0 0]) hb (by simp)) (by simp [Value.oneCell'])
    have hc0:=hcp _ hb
    have hc1:=hcp wr.drew (hb.ext (Ext.refl _).drew)
    have HB2:Hid (∀ V:World,Blk V B 107 #[.int .i64 1,.slice none 0 0,.int .i64 1,.slice none 0 0,.int .i64 0,.slice none 0 0,.int .i64 0,.slice none 0 0,.int .i64 0,.slice none 0 0,.int .i64 0,.slice none 0 0]→Blk (V.setCells B 4 [.int .i64 1,.slice none 0 0,.int .i64 1,.slice none 0 0]) B 107 #[.int .i64 1,.slice none 0 0,.int .i64 1,.slice none 0 0,.int .i64 1,.slice none 0 0,.int .i64 1,.slice none 0 0,.int .i64 0,.slice none 0 0,.int .i64 0,.slice none 0 0]):=Lib.hid fun V hb=>by simpa [World.setCells] using ((((hb.set_ 4 (.int .i64 1)).set_ 5 (.slice none 0 0)).set_ 6 (.int .i64 1)).set_ 7 (.slice none 0 0))
    have HB1:=Lib.hid hb
    have HBd:=Lib.hid (hb.ext (Ext.refl wr).drew)
    clear hcp hb
    go_wp2_with fail
    go_region_held3 (fun _=>True) (exact trivial) (fail)
    all_goals
     (have hwr:IntKind.i64.wrap 4=4:=by decide
      rw [hwr]
      go_roundw
      case rel=>exact ⟨_,_,_,_,_,_,_,_,_,_,_,_,_,_,⟨4,by simp,rfl,(fun h=>absurd h (by decide)),(fun h=>absurd h (by decide)),(fun _=>HB2.out _ HBd.out),(fun h=>absurd h (by decide)),setCells_ext HB.out _ _ _ HX.out.drew⟩,rfl⟩
      case measure=>first | (simp [intOf];done) | (simp [intOf];omega) | decide)
  · have hb:=b4 rfl
    clear b4 b1 b2 b6
    have hcp:∀ V:World,Blk V B 107 #[.int .i64 1,.slice none 0 0,.int .i64 1,.slice none 0 0,.int .i64 1,.slice none 0 0,.int .i64 1,.slice none 0 0,.int .i64 0,.slice none 0 0,.int .i64 0,.slice none 0 0]→(Builtin.copy_ #[31,31] 3 #[.slice (some ⟨B,8,none⟩) 2 2,.slice (some ⟨B,0,none⟩) 4 6]).run Tryz.prog V=.ok (goInt 2) (V.setCells B 8 [.int .i64 1,.slice none 0 0,.int .i64 1,.slice none 0 0]):=fun V hb=>run_copy_k (P:=Tryz.prog) V 31 31 3 107 2 2 B 8 2 2 ⟨B,0,none⟩ 4 6 [.int .i64 1,.slice none 0 0,.int .i64 1,.slice none 0 0] Tryz.underlying31 (by kernel_rfl) rfl rfl (fun j v hj=>by rw [Addr.add_mid,Nat.zero_add,hb.cell j];rcases j with _ | _ | _ | _ | j <;> first | (cases hj;rfl) | (simp at hj)) (cells_there (C:=#[.int .i64 1,.slice none 0 0,.int .i64 1,.slice none 0 0,.int .i64 1,.slice none 0 0,.int .i64 1,.slice none 0 0,.int .i64 0,.slice none 0 0,.int .i64 0,.slice none 0 0]) hb (by simp)) (by simp [Value.oneCell'])
    have hc0:=hcp _ hb
    have hc1:=hcp wr.drew (hb.ext (Ext.refl _).drew)
    have HB2:Hid (∀ V:World,Blk V B 107 #[.int .i64 1,.slice none 0 0,.int .i64 1,.slice none 0 0,.int .i64 1,.slice none 0 0,.int .i64 1,.slice none 0 0,.int .i64 0,.slice none 0 0,.int .i64 0,.slice none 0 0]→Blk (V.setCells B 8 [.int .i64 1,.slice none 0 0,.int .i64 1,.slice none 0 0]) B 107 #[.int .i64 1,.slice none 0 0,.int .i64 1,.slice none 0 0,.int .i64 1,.slice none 0 0,.int .i64 1,.slice none 0 0,.int .i64 1,.slice none 0 0,.int .i64 1,.slice none 0 0]):=Lib.hid fun V hb=>by simpa [World.setCells] using ((((hb.set_ 8 (.int .i64 1)).set_ 9 (.slice none 0 0)).set_ 10 (.int .i64 1)).set_ 11 (.slice none 0 0))
    have HB1:=Lib.hid hb
    have HBd:=Lib.hid (hb.ext (Ext.refl wr).drew)
    clear hcp hb
    go_wp2_with fail
    go_region_held3 (fun _=>True) (exact trivial) (fail)
    all_goals
     (have hwr:IntKind.i64.wrap 6=6:=by decide
      rw [hwr]
      go_roundw
      case rel=>exact ⟨_,_,_,_,_,_,_,_,_,_,_,_,_,_,⟨6,by simp,rfl,(fun h=>absurd h (by decide)),(fun h=>absurd h (by decide)),(fun h=>absurd h (by decide)),(fun _=>HB2.out _ HBd.out),setCells_ext HB.out _ _ _ HX.out.drew⟩,rfl⟩
      case measure=>first | (simp [intOf];done) | (simp [intOf];omega) | decide)
  · have hb:=b6 rfl
    clear b6 b1 b2 b4
    have HB1:=Lib.hid hb
    clear hb
    go_wp2_with fail
    go_ret
    exact ⟨_,rfl,HB1.out,HB.out,HX.out⟩
end Go.Proofs.YtoblacfjmcpbmaaGreat
