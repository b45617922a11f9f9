/- What the laws YardFinish need, and no others. Laid by wip/split.py. -/
import Derived.Test.YtngldifgcgblpaaGreatYardCp
import Derived.Test.YtngldifgcgblpaaGreatYardS
import Derived.Test.YtngldifgcgblpaaGreatNodeC
import Derived.Test.YtngldifgcgblpaaGreatCopies
import Derived.Test.YtngldifgcgblpaaGreatCounts
import Derived.Test.YtngldifgcgblpaaGreatYardTs
import Derived.Test.YtngldifgcgblpaaGreatYardLb
import Derived.Test.YtngldifgcgblpaaGreatYardTt
import Derived.Test.YtngldifgcgblpaaGreatCa
import Derived.Test.YtngldifgcgblpaaGreatCb
import Derived.Test.YtngldifgcgblpaaGreatCc
import Derived.Test.YtngldifgcgblpaaGreatCd
namespace Go.Proofs.YtngldifgcgblpaaGreat
open Go.RowKit
attribute [local irreducible] wpQuiet
end Go.Proofs.YtngldifgcgblpaaGreat
namespace Go.Proofs.YtngldifgcgblpaaGreat
open Go.RowKit
attribute [local irreducible] wpQuiet
end Go.Proofs.YtngldifgcgblpaaGreat
namespace Go.Proofs.YtngldifgcgblpaaGreat
open Go.RowKit
attribute [local irreducible] wpQuiet
def mayFinish (now : Int) (x : Task) : Bool := decide (x.state = 2) && !decide (x.start = now)
theorem caps_one (v u : Value) : (#[v] ++ #[u] : Array Value) = #[v, u] := rfl
theorem call_Finish1 : ∀ (args : Array Value) (W : World), (callFunc 72 args).run Tryz.prog W = .ok (.enter 72 args) W := by
  intro args W
  go_simp
theorem finish1_any {S : Nat → Prop} (now : Int) (x : Task) (cs : List Value) (B : Nat) (w : World) (h : ETask.rel S w cs x) (hb : w.cell? ⟨B, 7, none⟩ = some (.int .i64 now)) :
    Calls Tryz.prog 72 #[.agg cs.toArray, .pointer (some ⟨B, 0, none⟩)] w fun e w' => e = .returned (.bool (mayFinish now x)) ∧ Ext w w' := by
  obtain ⟨v1, rfl, hf, h1⟩ := h
  obtain ⟨A1, c1, rfl, -⟩ := h1.form
  have hb' := fun ob : Obj => Ext.some ((Ext.refl w).alloc ob) hb
  clear hf h1 hb
  simp only [cellsTask]
  have ite__ := @ite_ok
  go_enter Tryz.func72, Tryz.ntmps72
  go_wp2_with fail
  all_goals (go_ret; exact ⟨ret_bool (by unfold mayFinish; first | rfl | (clear ite__; go_light; simp_all; done) | (clear ite__; go_light; simp_all; rfl) | (clear ite__; go_light; rw [Bool.eq_iff_iff]; simp_all)), (Ext.refl w).alloc _⟩)
set_option maxHeartbeats 8000000 in
set_option maxRecDepth 100000 in
theorem yardFinish_any {S : Nat → Prop} (y : Yard) (a : Label) (n : Int) (cs : List Value) (w : World) (h : EYard.rel S w cs y) :
    Calls Tryz.prog 28 #[.agg cs.toArray, .agg #[.int .i64 a.level, .int .i64 a.set], .int .i64 n] w (RetOS OYardOut (turnY y a n 4 (mayFinish y.now)) w) := by
  obtain ⟨v1, v2, v3, v4, v5, v6, rfl, hf, h1, h2, h3, h4, h5, h6⟩ := h
  obtain ⟨A1, c1, rfl, -⟩ := h1.form
  obtain ⟨A2, c2, rfl, -⟩ := h2.form
  obtain ⟨A3, c3, rfl, -⟩ := h3.form
  obtain ⟨A4, c4, rfl, -⟩ := h4.form
  have H5 := Lib.hid h5
  obtain ⟨A5, c5, rfl, l5, m5, hk5⟩ := h5.open_
  unfold maxLen at m5
  obtain ⟨A6, c6, rfl, -⟩ := h6.form
  have HF := Lib.hid hf
  have HFC : Hid (FitConfig y.config) := Lib.hid hf.1
  have H1 := Lib.hid h1
  have H2 := Lib.hid h2
  have H3 := Lib.hid h3
  have H4 := Lib.hid h4
  have H6 := Lib.hid h6
  have K5 := Lib.hid hk5
  clear hf h1 h2 h3 h4 h5 h6 hk5
  simp only [cellsYard]
  have XID : ∀ V : World, Hid (Ext V V) := fun V => Lib.hid (Ext.refl V)
  obtain ⟨m, hm⟩ : ∃ m, turnY y a n 4 (mayFinish y.now) = m := ⟨_, rfl⟩
  rw [hm]
  have HME := Lib.hid hm
  clear hm
  go_enter Tryz.func28, Tryz.ntmps28
  go_upto_region 1 with (fail)
  obtain ⟨W, B, hW, hB, hx0, a0, b0, r0⟩ := boxes3 w #[.slice A1 y.config.nodes.length c1, .slice A2 y.config.pairs.length c2, .slice A3 y.config.quotas.length c3, .int .i64 y.config.half, .slice A4 y.nodes.length c4, .slice A5 y.tasks.length c5, .slice A6 y.uses.length c6, .int .i64 y.now] #[.int .i64 a.level, .int .i64 a.set] #[.slice none 0 0, .slice none 0 0, .slice none 0 0, .int .i64 0, .slice none 0 0, .slice none 0 0, .slice none 0 0, .int .i64 0, .int .i64 0, .int .i64 0] 44 49 46
  rw [← hW, ← hB]
  have HB : Hid (w.heap.size ≤ B + 1 + 1) := Lib.hid (by omega)
  have QA := Lib.hid a0
  have QB := Lib.hid b0
  have QR := Lib.hid r0
  have X := Lib.hid hx0
  clear hW hB hx0 a0 b0 r0
  have qa := QA.out.cell
  have qb := QB.out.cell
  have HMAY : Hid (∀ (cs : List Value) (x : Task) (V : World), Ext W V → ETask.rel S V cs x → Calls Tryz.prog 72 (#[.agg cs.toArray] ++ #[.pointer (some ⟨B, 0, none⟩)]) V fun e w' => e = .returned (.bool ((mayFinish y.now) x)) ∧ Ext V w') := Lib.hid (fun cs x V hV hr => by rw [caps_one]; exact finish1_any y.now x cs B V hr (((QA.out.ext hV).cell 7)))
  go_wp2_with (first
    | (go_at_call 60; (with_reducible refine (turn_any (S := S) y _ a n 4 (mayFinish y.now) 72 #[.pointer (some ⟨B, 0, none⟩)] _ (rel_Yard HF.out (H1.out.ext X.out) (H2.out.ext X.out) (H3.out.ext X.out) (H4.out.ext X.out) (H5.out.ext X.out) (H6.out.ext X.out)) (by unfold I64; decide) call_Finish1 HMAY.out).mono ?_); rw [HME.out]; rintro e w8 ⟨cs8, F8, rfl, o8, g8, hx8⟩; obtain ⟨u1, u2, u3, u4, u5, u6, F1, F2, F3, F4, F5, F6, rfl, f8, o1, o2, o3, o4, o5, o6, hF8, hn8⟩ := id o8; obtain ⟨P1, K1, rfl, -⟩ := OwS.form o1; obtain ⟨P2, K2, rfl, -⟩ := OwS.form o2; obtain ⟨P3, K3, rfl, -⟩ := OwS.form o3; obtain ⟨P4, K4, rfl, -⟩ := OwS.form o4; obtain ⟨P5, K5, rfl, -⟩ := OwS.form o5; obtain ⟨P6, K6, rfl, -⟩ := OwS.form o6; have O8 := Lib.hid o8; have G8 := Lib.hid g8; have H8 := Lib.hid hx8; clear o8 g8 hx8 f8 o1 o2 o3 o4 o5 o6 hF8 hn8 qa qb; simp only [cellsYardOut])
    | refine wpList_store_mid rfl 46 _ _ rfl (B + 1 + 1) 0 (List.toArray [.slice P1 m.yard.config.nodes.length K1, .slice P2 m.yard.config.pairs.length K2, .slice P3 m.yard.config.quotas.length K3, .int .i64 m.yard.config.half, .slice P4 m.yard.nodes.length K4, .slice P5 m.yard.tasks.length K5, .slice P6 m.yard.uses.length K6, .int .i64 m.yard.now, .int .i64 m.id, .int .i64 m.code]) rfl rfl (Blk.there (t := 46) (cs := #[.slice none 0 0, .slice none 0 0, .slice none 0 0, .int .i64 0, .slice none 0 0, .slice none 0 0, .slice none 0 0, .int .i64 0, .int .i64 0, .int .i64 0]) (QR.out.ext H8.out)) (by kernel_rfl) (all_oneCell_toArray (cs := [.slice P1 m.yard.config.nodes.length K1, .slice P2 m.yard.config.pairs.length K2, .slice P3 m.yard.config.quotas.length K3, .int .i64 m.yard.config.half, .slice P4 m.yard.nodes.length K4, .slice P5 m.yard.tasks.length K5, .slice P6 m.yard.uses.length K6, .int .i64 m.yard.now, .int .i64 m.id, .int .i64 m.code]) (by simp [Value.oneCell'])) ?_)
  exact bodyPost_ret (v := .agg (List.toArray [.slice P1 m.yard.config.nodes.length K1, .slice P2 m.yard.config.pairs.length K2, .slice P3 m.yard.config.quotas.length K3, .int .i64 m.yard.config.half, .slice P4 m.yard.nodes.length K4, .slice P5 m.yard.tasks.length K5, .slice P6 m.yard.uses.length K6, .int .i64 m.yard.now, .int .i64 m.id, .int .i64 m.code])) (results_blk Tryz.results28 rfl (Blk.setAll (t := 46) (cs := #[.slice none 0 0, .slice none 0 0, .slice none 0 0, .int .i64 0, .slice none 0 0, .slice none 0 0, .slice none 0 0, .int .i64 0, .int .i64 0, .int .i64 0]) (vs := List.toArray [.slice P1 m.yard.config.nodes.length K1, .slice P2 m.yard.config.pairs.length K2, .slice P3 m.yard.config.quotas.length K3, .int .i64 m.yard.config.half, .slice P4 m.yard.nodes.length K4, .slice P5 m.yard.tasks.length K5, .slice P6 m.yard.uses.length K6, .int .i64 m.yard.now, .int .i64 m.id, .int .i64 m.code]) (QR.out.ext H8.out) rfl) Tryz.underlying46 rfl (by kernel_rfl)) rfl
    ⟨_, F8, rfl, ownk O8.out (Kept.setCells (F := [B + 1 + 1]) (by simp) _ _ _ (Kept.refl _ _)) (fun b hb hm => by have := G8.out b hb; have := QR.out.lt; have := (XID W).out.size; have := List.mem_singleton.1 hm; omega), fun b hb => Nat.le_trans (Nat.le_trans X.out.size (XID W).out.size) (G8.out b hb), setCells_ext HB.out _ _ _ (X.out.trans ((XID W).out.trans H8.out))⟩
end Go.Proofs.YtngldifgcgblpaaGreat
namespace Go.Proofs.YtngldifgcgblpaaGreat
open Go.RowKit
attribute [local irreducible] wpQuiet
set_option maxHeartbeats 16000000 in
set_option maxRecDepth 100000 in
theorem specYardFinish_any {S : Nat → Prop} (y : Yard) (a : Label) (n : Int) (cs : List Value) (w : World) (h : EYard.rel S w cs y) :
    Calls Tryz.prog 27 #[.agg cs.toArray, .agg #[.int .i64 a.level, .int .i64 a.set], .int .i64 n] w (RetOS OYardOut (turnY y a n 4 (mayFinish y.now)) w) := by
  obtain ⟨v1, v2, v3, v4, v5, v6, rfl, hf, h1, h2, h3, h4, h5, h6⟩ := h
  obtain ⟨A1, c1, rfl, -⟩ := h1.form
  obtain ⟨A2, c2, rfl, -⟩ := h2.form
  obtain ⟨A3, c3, rfl, -⟩ := h3.form
  obtain ⟨A4, c4, rfl, -⟩ := h4.form
  have H5 := Lib.hid h5
  obtain ⟨A5, c5, rfl, l5, m5, hk5⟩ := h5.open_
  unfold maxLen at m5
  obtain ⟨A6, c6, rfl, -⟩ := h6.form
  have HF := Lib.hid hf
  have HFC : Hid (FitConfig y.config) := Lib.hid hf.1
  have H1 := Lib.hid h1
  have H2 := Lib.hid h2
  have H3 := Lib.hid h3
  have H4 := Lib.hid h4
  have H6 := Lib.hid h6
  have K5 := Lib.hid hk5
  clear hf h1 h2 h3 h4 h5 h6 hk5
  simp only [cellsYard]
  obtain ⟨code, hco⟩ : ∃ c, findCode y a n = c := ⟨_, rfl⟩
  have HCO := Lib.hid hco
  have HCI : Hid (I64 code) := Lib.hid (by rw [← hco]; exact code_fit)
  clear hco
  go_enter Tryz.func27, Tryz.ntmps27
  go_upto_region 1 with (fail)
  obtain ⟨W, B, hW, hB, hx0, a0, b0, r0⟩ := boxes3 w #[.slice A1 y.config.nodes.length c1, .slice A2 y.config.pairs.length c2, .slice A3 y.config.quotas.length c3, .int .i64 y.config.half, .slice A4 y.nodes.length c4, .slice A5 y.tasks.length c5, .slice A6 y.uses.length c6, .int .i64 y.now] #[.int .i64 a.level, .int .i64 a.set] #[.slice none 0 0, .slice none 0 0, .slice none 0 0, .int .i64 0, .slice none 0 0, .slice none 0 0, .slice none 0 0, .int .i64 0, .int .i64 0, .int .i64 0] 44 49 46
  rw [← hW, ← hB]
  have HB : Hid (w.heap.size ≤ B + 1 + 1) := Lib.hid (by omega)
  have QA := Lib.hid a0
  have QB := Lib.hid b0
  have QR := Lib.hid r0
  have X := Lib.hid hx0
  clear hW hB hx0 a0 b0 r0
  have qa := QA.out.cell
  have qb := QB.out.cell
  by_cases hz : code = 0
  case neg =>
    have HE : Hid (turnY y a n 4 (mayFinish y.now) = illY code) := Lib.hid (turn_ill HCO.out hz)
    go_upto_region 3 with (go_at_call 51; (with_reducible refine (l13Code_any (S := S) y _ a n _ (rel_Yard HF.out (H1.out.ext X.out) (H2.out.ext X.out) (H3.out.ext X.out) (H4.out.ext X.out) (H5.out.ext X.out) (H6.out.ext X.out)) _ HCO.out).mono ?_); rintro e w7 ⟨rfl, hx7⟩; replace X := Lib.hid (X.out.trans hx7); replace QA := Lib.hid (QA.out.ext hx7); replace QB := Lib.hid (QB.out.ext hx7); replace QR := Lib.hid (QR.out.ext hx7); clear hx7 qa qb; have qa := QA.out.cell; have qb := QB.out.cell)
    clear hz qa qb
    go_wp2_with (first | (go_at_call 52; (with_reducible refine (l13IllT_any _ _).mono ?_); rintro e w8 ⟨rfl, hx8⟩; have H8 := Lib.hid hx8; clear hx8) | refine wpList_store_mid rfl 46 _ _ rfl (B + 1 + 1) 0 #[.slice none 0 0, .slice none 0 0, .slice none 0 0, .int .i64 0, .slice none 0 0, .slice none 0 0, .slice none 0 0, .int .i64 0, .int .i64 0, .int .i64 code] rfl rfl (Blk.there (t := 46) (cs := #[.slice none 0 0, .slice none 0 0, .slice none 0 0, .int .i64 0, .slice none 0 0, .slice none 0 0, .slice none 0 0, .int .i64 0, .int .i64 0, .int .i64 0]) (QR.out.ext H8.out)) (by kernel_rfl) (all_oneCell_toArray (cs := [.slice none 0 0, .slice none 0 0, .slice none 0 0, .int .i64 0, .slice none 0 0, .slice none 0 0, .slice none 0 0, .int .i64 0, .int .i64 0, .int .i64 code]) (by simp [Value.oneCell'])) ?_)
    exact bodyPost_ret (v := .agg #[.slice none 0 0, .slice none 0 0, .slice none 0 0, .int .i64 0, .slice none 0 0, .slice none 0 0, .slice none 0 0, .int .i64 0, .int .i64 0, .int .i64 code]) (results_blk Tryz.results27 rfl (Blk.setAll (t := 46) (cs := #[.slice none 0 0, .slice none 0 0, .slice none 0 0, .int .i64 0, .slice none 0 0, .slice none 0 0, .slice none 0 0, .int .i64 0, .int .i64 0, .int .i64 0]) (vs := #[.slice none 0 0, .slice none 0 0, .slice none 0 0, .int .i64 0, .slice none 0 0, .slice none 0 0, .slice none 0 0, .int .i64 0, .int .i64 0, .int .i64 code]) (QR.out.ext H8.out) rfl) Tryz.underlying46 rfl (by kernel_rfl)) rfl ⟨_, [], rfl, by rw [HE.out]; exact own_ill _ _ (by exact HCI.out), fun b hb => absurd hb (by simp), setCells_ext HB.out _ _ _ (X.out.trans H8.out)⟩
  case pos =>
    subst hz
    obtain ⟨d, hd, hi⟩ := find_ix HCO.out
    have HI := Lib.hid hi
    have HD := Lib.hid hd
    have HTO : Hid (taskOf y.tasks a n = nth y.tasks d) := Lib.hid (by rw [taskOf, if_pos (right_tasks (find_right HCO.out).1), hi, if_pos (Int.natCast_nonneg _), Int.toNat_natCast])
    clear hi
    obtain ⟨m, hmm⟩ : ∃ m, (mayFinish y.now) (nth y.tasks d) = m := ⟨_, rfl⟩
    have MM := Lib.hid hmm
    clear hmm
    cases m with
    | false =>
      have HE : Hid (turnY y a n 4 (mayFinish y.now) = illY 10) := Lib.hid (turn_state HCO.out HI.out MM.out)
      by_cases hst : (nth y.tasks d).state = 2
      · have hsn : (nth y.tasks d).start = y.now := by have := MM.out; simpa [mayFinish, hst] using this
        go_upto_region 6 with (first | (go_at_call 51; (with_reducible refine (l13Code_any (S := S) y _ a n _ (rel_Yard HF.out (H1.out.ext X.out) (H2.out.ext X.out) (H3.out.ext X.out) (H4.out.ext X.out) (H5.out.ext X.out) (H6.out.ext X.out)) _ HCO.out).mono ?_); rintro e w7 ⟨rfl, hx7⟩; replace X := Lib.hid (X.out.trans hx7); replace QA := Lib.hid (QA.out.ext hx7); replace QB := Lib.hid (QB.out.ext hx7); replace QR := Lib.hid (QR.out.ext hx7); clear hx7 qa qb; have qa := QA.out.cell; have qb := QB.out.cell) | (go_at_call 54; (with_reducible refine (specTaskOf_any (S := S) y.tasks a n _ _ (H5.out.ext X.out)).mono ?_); rintro e wt ⟨cst, Ft, rfl, ot, -, hxt⟩; rw [HTO.out] at ot; obtain ⟨ut, rfl, -, qt⟩ := ot; obtain ⟨pt, kt, rfl, -⟩ := OwS.form qt; replace X := Lib.hid (X.out.trans hxt); replace QA := Lib.hid (QA.out.ext hxt); replace QB := Lib.hid (QB.out.ext hxt); replace QR := Lib.hid (QR.out.ext hxt); clear hxt qa qb; have qa := QA.out.cell; have qb := QB.out.cell; have qaa := fun ob : Obj => (QA.out.ext ((Ext.refl _).alloc ob)).cell; clear qt; simp only [cellsTask]))
        obtain ⟨WT, hWT, hxT⟩ : ∃ V, V = wt.alloc (.cells #[.int .i64 (nth y.tasks d).label.level, .int .i64 (nth y.tasks d).label.set, .int .i64 (nth y.tasks d).id, .string (nth y.tasks d).owner, .int .i64 (nth y.tasks d).need, .int .i64 (nth y.tasks d).long, .int .i64 (nth y.tasks d).prio, .int .i64 (nth y.tasks d).under.level, .int .i64 (nth y.tasks d).under.set, .int .i64 (nth y.tasks d).after, .int .i64 (nth y.tasks d).born, .int .i64 2, .int .i64 y.now, .slice pt (nth y.tasks d).nodes.length kt] 87) ∧ Ext wt V := ⟨_, rfl, (Ext.refl wt).alloc _⟩
        rw [← hWT]
        clear hWT qa qb qaa
        replace X := Lib.hid (X.out.trans hxT)
        replace QA := Lib.hid (QA.out.ext hxT)
        replace QB := Lib.hid (QB.out.ext hxT)
        replace QR := Lib.hid (QR.out.ext hxT)
        clear hxT
        clear hst hsn
        go_wp2_with (first | (go_at_call 52; (with_reducible refine (l13IllT_any _ _).mono ?_); rintro e w8 ⟨rfl, hx8⟩; have H8 := Lib.hid hx8; clear hx8) | refine wpList_store_mid rfl 46 _ _ rfl (B + 1 + 1) 0 #[.slice none 0 0, .slice none 0 0, .slice none 0 0, .int .i64 0, .slice none 0 0, .slice none 0 0, .slice none 0 0, .int .i64 0, .int .i64 0, .int .i64 10] rfl rfl (Blk.there (t := 46) (cs := #[.slice none 0 0, .slice none 0 0, .slice none 0 0, .int .i64 0, .slice none 0 0, .slice none 0 0, .slice none 0 0, .int .i64 0, .int .i64 0, .int .i64 0]) (QR.out.ext H8.out)) (by kernel_rfl) (all_oneCell_toArray (cs := [.slice none 0 0, .slice none 0 0, .slice none 0 0, .int .i64 0, .slice none 0 0, .slice none 0 0, .slice none 0 0, .int .i64 0, .int .i64 0, .int .i64 10]) (by simp [Value.oneCell'])) ?_)
        exact bodyPost_ret (v := .agg #[.slice none 0 0, .slice none 0 0, .slice none 0 0, .int .i64 0, .slice none 0 0, .slice none 0 0, .slice none 0 0, .int .i64 0, .int .i64 0, .int .i64 10]) (results_blk Tryz.results27 rfl (Blk.setAll (t := 46) (cs := #[.slice none 0 0, .slice none 0 0, .slice none 0 0, .int .i64 0, .slice none 0 0, .slice none 0 0, .slice none 0 0, .int .i64 0, .int .i64 0, .int .i64 0]) (vs := #[.slice none 0 0, .slice none 0 0, .slice none 0 0, .int .i64 0, .slice none 0 0, .slice none 0 0, .slice none 0 0, .int .i64 0, .int .i64 0, .int .i64 10]) (QR.out.ext H8.out) rfl) Tryz.underlying46 rfl (by kernel_rfl)) rfl ⟨_, [], rfl, by rw [HE.out]; exact own_ill _ _ (by unfold I64; decide), fun b hb => absurd hb (by simp), setCells_ext HB.out _ _ _ (X.out.trans H8.out)⟩
      · go_upto_region 6 with (first | (go_at_call 51; (with_reducible refine (l13Code_any (S := S) y _ a n _ (rel_Yard HF.out (H1.out.ext X.out) (H2.out.ext X.out) (H3.out.ext X.out) (H4.out.ext X.out) (H5.out.ext X.out) (H6.out.ext X.out)) _ HCO.out).mono ?_); rintro e w7 ⟨rfl, hx7⟩; replace X := Lib.hid (X.out.trans hx7); replace QA := Lib.hid (QA.out.ext hx7); replace QB := Lib.hid (QB.out.ext hx7); replace QR := Lib.hid (QR.out.ext hx7); clear hx7 qa qb; have qa := QA.out.cell; have qb := QB.out.cell) | (go_at_call 54; (with_reducible refine (specTaskOf_any (S := S) y.tasks a n _ _ (H5.out.ext X.out)).mono ?_); rintro e wt ⟨cst, Ft, rfl, ot, -, hxt⟩; rw [HTO.out] at ot; obtain ⟨ut, rfl, -, qt⟩ := ot; obtain ⟨pt, kt, rfl, -⟩ := OwS.form qt; replace X := Lib.hid (X.out.trans hxt); replace QA := Lib.hid (QA.out.ext hxt); replace QB := Lib.hid (QB.out.ext hxt); replace QR := Lib.hid (QR.out.ext hxt); clear hxt qa qb; have qa := QA.out.cell; have qb := QB.out.cell; have qaa := fun ob : Obj => (QA.out.ext ((Ext.refl _).alloc ob)).cell; clear qt; simp only [cellsTask]))
        obtain ⟨WT, hWT, hxT⟩ : ∃ V, V = wt.alloc (.cells #[.int .i64 (nth y.tasks d).label.level, .int .i64 (nth y.tasks d).label.set, .int .i64 (nth y.tasks d).id, .string (nth y.tasks d).owner, .int .i64 (nth y.tasks d).need, .int .i64 (nth y.tasks d).long, .int .i64 (nth y.tasks d).prio, .int .i64 (nth y.tasks d).under.level, .int .i64 (nth y.tasks d).under.set, .int .i64 (nth y.tasks d).after, .int .i64 (nth y.tasks d).born, .int .i64 (nth y.tasks d).state, .int .i64 (nth y.tasks d).start, .slice pt (nth y.tasks d).nodes.length kt] 87) ∧ Ext wt V := ⟨_, rfl, (Ext.refl wt).alloc _⟩
        rw [← hWT]
        clear hWT qa qb qaa
        replace X := Lib.hid (X.out.trans hxT)
        replace QA := Lib.hid (QA.out.ext hxT)
        replace QB := Lib.hid (QB.out.ext hxT)
        replace QR := Lib.hid (QR.out.ext hxT)
        clear hxT
        clear hst
        go_wp2_with (first | (go_at_call 52; (with_reducible refine (l13IllT_any _ _).mono ?_); rintro e w8 ⟨rfl, hx8⟩; have H8 := Lib.hid hx8; clear hx8) | refine wpList_store_mid rfl 46 _ _ rfl (B + 1 + 1) 0 #[.slice none 0 0, .slice none 0 0, .slice none 0 0, .int .i64 0, .slice none 0 0, .slice none 0 0, .slice none 0 0, .int .i64 0, .int .i64 0, .int .i64 10] rfl rfl (Blk.there (t := 46) (cs := #[.slice none 0 0, .slice none 0 0, .slice none 0 0, .int .i64 0, .slice none 0 0, .slice none 0 0, .slice none 0 0, .int .i64 0, .int .i64 0, .int .i64 0]) (QR.out.ext H8.out)) (by kernel_rfl) (all_oneCell_toArray (cs := [.slice none 0 0, .slice none 0 0, .slice none 0 0, .int .i64 0, .slice none 0 0, .slice none 0 0, .slice none 0 0, .int .i64 0, .int .i64 0, .int .i64 10]) (by simp [Value.oneCell'])) ?_)
        exact bodyPost_ret (v := .agg #[.slice none 0 0, .slice none 0 0, .slice none 0 0, .int .i64 0, .slice none 0 0, .slice none 0 0, .slice none 0 0, .int .i64 0, .int .i64 0, .int .i64 10]) (results_blk Tryz.results27 rfl (Blk.setAll (t := 46) (cs := #[.slice none 0 0, .slice none 0 0, .slice none 0 0, .int .i64 0, .slice none 0 0, .slice none 0 0, .slice none 0 0, .int .i64 0, .int .i64 0, .int .i64 0]) (vs := #[.slice none 0 0, .slice none 0 0, .slice none 0 0, .int .i64 0, .slice none 0 0, .slice none 0 0, .slice none 0 0, .int .i64 0, .int .i64 0, .int .i64 10]) (QR.out.ext H8.out) rfl) Tryz.underlying46 rfl (by kernel_rfl)) rfl ⟨_, [], rfl, by rw [HE.out]; exact own_ill _ _ (by unfold I64; decide), fun b hb => absurd hb (by simp), setCells_ext HB.out _ _ _ (X.out.trans H8.out)⟩
    | true =>
      have HE : Hid (turnY y a n 4 (mayFinish y.now) = ⟨setTask y d 4, 0, 0⟩) := Lib.hid (turn_done HCO.out HI.out MM.out)
      have hst : (nth y.tasks d).state = 2 := by have := MM.out; simp [mayFinish] at this; exact this.1
      have hsn : ¬ (nth y.tasks d).start = y.now := by have := MM.out; simp [mayFinish] at this; exact this.2
      go_upto_region 7 with (first | (go_at_call 51; (with_reducible refine (l13Code_any (S := S) y _ a n _ (rel_Yard HF.out (H1.out.ext X.out) (H2.out.ext X.out) (H3.out.ext X.out) (H4.out.ext X.out) (H5.out.ext X.out) (H6.out.ext X.out)) _ HCO.out).mono ?_); rintro e w7 ⟨rfl, hx7⟩; replace X := Lib.hid (X.out.trans hx7); replace QA := Lib.hid (QA.out.ext hx7); replace QB := Lib.hid (QB.out.ext hx7); replace QR := Lib.hid (QR.out.ext hx7); clear hx7 qa qb; have qa := QA.out.cell; have qb := QB.out.cell) | (go_at_call 54; (with_reducible refine (specTaskOf_any (S := S) y.tasks a n _ _ (H5.out.ext X.out)).mono ?_); rintro e wt ⟨cst, Ft, rfl, ot, -, hxt⟩; rw [HTO.out] at ot; obtain ⟨ut, rfl, -, qt⟩ := ot; obtain ⟨pt, kt, rfl, -⟩ := OwS.form qt; replace X := Lib.hid (X.out.trans hxt); replace QA := Lib.hid (QA.out.ext hxt); replace QB := Lib.hid (QB.out.ext hxt); replace QR := Lib.hid (QR.out.ext hxt); clear hxt qa qb; have qa := QA.out.cell; have qb := QB.out.cell; have qaa := fun ob : Obj => (QA.out.ext ((Ext.refl _).alloc ob)).cell; clear qt; simp only [cellsTask]))
      obtain ⟨WT, hWT, hxT⟩ : ∃ V, V = wt.alloc (.cells #[.int .i64 (nth y.tasks d).label.level, .int .i64 (nth y.tasks d).label.set, .int .i64 (nth y.tasks d).id, .string (nth y.tasks d).owner, .int .i64 (nth y.tasks d).need, .int .i64 (nth y.tasks d).long, .int .i64 (nth y.tasks d).prio, .int .i64 (nth y.tasks d).under.level, .int .i64 (nth y.tasks d).under.set, .int .i64 (nth y.tasks d).after, .int .i64 (nth y.tasks d).born, .int .i64 2, .int .i64 (nth y.tasks d).start, .slice pt (nth y.tasks d).nodes.length kt] 87) ∧ Ext wt V := ⟨_, rfl, (Ext.refl wt).alloc _⟩
      rw [← hWT]
      clear hWT qa qb qaa
      replace X := Lib.hid (X.out.trans hxT)
      replace QA := Lib.hid (QA.out.ext hxT)
      replace QB := Lib.hid (QB.out.ext hxT)
      replace QR := Lib.hid (QR.out.ext hxT)
      clear hxT
      clear hst hsn
      have qa := QA.out.cell
      have qb := QB.out.cell
      obtain ⟨m, hm⟩ : ∃ m : YardOut, m = ⟨setTask y d 4, 0, 0⟩ := ⟨_, rfl⟩
      have HME := Lib.hid hm.symm
      clear hm
      go_wp2_with (first
        | (go_at_call 55; (with_reducible refine (l13Turn_any (S := S) y _ a n 4 d _ (rel_Yard HF.out (H1.out.ext X.out) (H2.out.ext X.out) (H3.out.ext X.out) (H4.out.ext X.out) (H5.out.ext X.out) (H6.out.ext X.out)) (by unfold I64; decide) HCO.out HD.out HI.out).mono ?_); rw [HME.out]; rintro e w8 ⟨cs8, F8, rfl, o8, g8, hx8⟩; obtain ⟨u1, u2, u3, u4, u5, u6, F1, F2, F3, F4, F5, F6, rfl, f8, o1, o2, o3, o4, o5, o6, hF8, hn8⟩ := id o8; obtain ⟨P1, K1, rfl, -⟩ := OwS.form o1; obtain ⟨P2, K2, rfl, -⟩ := OwS.form o2; obtain ⟨P3, K3, rfl, -⟩ := OwS.form o3; obtain ⟨P4, K4, rfl, -⟩ := OwS.form o4; obtain ⟨P5, K5, rfl, -⟩ := OwS.form o5; obtain ⟨P6, K6, rfl, -⟩ := OwS.form o6; have O8 := Lib.hid o8; have G8 := Lib.hid g8; have H8 := Lib.hid hx8; clear o8 g8 hx8 f8 o1 o2 o3 o4 o5 o6 hF8 hn8 qa qb; simp only [cellsYardOut])
        | refine wpList_store_mid rfl 46 _ _ rfl (B + 1 + 1) 0 (List.toArray [.slice P1 m.yard.config.nodes.length K1, .slice P2 m.yard.config.pairs.length K2, .slice P3 m.yard.config.quotas.length K3, .int .i64 m.yard.config.half, .slice P4 m.yard.nodes.length K4, .slice P5 m.yard.tasks.length K5, .slice P6 m.yard.uses.length K6, .int .i64 m.yard.now, .int .i64 m.id, .int .i64 m.code]) rfl rfl (Blk.there (t := 46) (cs := #[.slice none 0 0, .slice none 0 0, .slice none 0 0, .int .i64 0, .slice none 0 0, .slice none 0 0, .slice none 0 0, .int .i64 0, .int .i64 0, .int .i64 0]) (QR.out.ext H8.out)) (by kernel_rfl) (all_oneCell_toArray (cs := [.slice P1 m.yard.config.nodes.length K1, .slice P2 m.yard.config.pairs.length K2, .slice P3 m.yard.config.quotas.length K3, .int .i64 m.yard.config.half, .slice P4 m.yard.nodes.length K4, .slice P5 m.yard.tasks.length K5, .slice P6 m.yard.uses.length K6, .int .i64 m.yard.now, .int .i64 m.id, .int .i64 m.code]) (by simp [Value.oneCell'])) ?_)
      exact bodyPost_ret (v := .agg (List.toArray [.slice P1 m.yard.config.nodes.length K1, .slice P2 m.yard.config.pairs.length K2, .slice P3 m.yard.config.quotas.length K3, .int .i64 m.yard.config.half, .slice P4 m.yard.nodes.length K4, .slice P5 m.yard.tasks.length K5, .slice P6 m.yard.uses.length K6, .int .i64 m.yard.now, .int .i64 m.id, .int .i64 m.code])) (results_blk Tryz.results27 rfl (Blk.setAll (t := 46) (cs := #[.slice none 0 0, .slice none 0 0, .slice none 0 0, .int .i64 0, .slice none 0 0, .slice none 0 0, .slice none 0 0, .int .i64 0, .int .i64 0, .int .i64 0]) (vs := List.toArray [.slice P1 m.yard.config.nodes.length K1, .slice P2 m.yard.config.pairs.length K2, .slice P3 m.yard.config.quotas.length K3, .int .i64 m.yard.config.half, .slice P4 m.yard.nodes.length K4, .slice P5 m.yard.tasks.length K5, .slice P6 m.yard.uses.length K6, .int .i64 m.yard.now, .int .i64 m.id, .int .i64 m.code]) (QR.out.ext H8.out) rfl) Tryz.underlying46 rfl (by kernel_rfl)) rfl
        ⟨_, F8, rfl, by rw [HE.out, HME.out]; exact ownk O8.out (Kept.setCells (F := [B + 1 + 1]) (by simp) _ _ _ (Kept.refl _ _)) (fun b hb hm => by have := G8.out b hb; have := QR.out.lt; have := List.mem_singleton.1 hm; omega), fun b hb => Nat.le_trans X.out.size (G8.out b hb), setCells_ext HB.out _ _ _ (X.out.trans ((Ext.refl _).trans H8.out))⟩
end Go.Proofs.YtngldifgcgblpaaGreat
