/- What the laws YardCancel, YardFinish, YardFree, YardHold, YardModify need, and no others. Laid by wip/split.py. -/
import Derived.Test.YtngldifgcgblpaaGreatTasksP
import Derived.Test.YtngldifgcgblpaaGreatOwn2
import Derived.Test.YtngldifgcgblpaaGreatClones
import Derived.Test.YtngldifgcgblpaaGreatYardCp
import Derived.Test.YtngldifgcgblpaaGreatYardS
import Derived.Test.YtngldifgcgblpaaGreatNodeC
import Derived.Test.YtngldifgcgblpaaGreatCopies
import Derived.Test.YtngldifgcgblpaaGreatCounts
import Derived.Laws.IdiomStrings
import Derived.Laws.BytesArg
import Derived.Test.YtngldifgcgblpaaGreatRows
import Derived.Laws.BitsAllLaws
import Derived.Test.YtngldifgcgblpaaGreatSmall
import Derived.Test.YtngldifgcgblpaaGreatTaskRI
import Derived.Deep.RegionHeld3
import Derived.Test.YtngldifgcgblpaaGreatTaskRS
import Derived.Test.YtngldifgcgblpaaGreatLive
import Derived.Test.YtngldifgcgblpaaGreatTasksS
import Derived.Test.YtngldifgcgblpaaGreatYardTt
import Derived.Test.YtngldifgcgblpaaGreatYardTs
import Derived.Test.YtngldifgcgblpaaGreatCa
import Derived.Test.YtngldifgcgblpaaGreatCb
namespace Go.Proofs.YtngldifgcgblpaaGreat
open Go.RowKit
theorem taskIx_lt {a : List Task} {x : Label} {n : Int} (h : 0 ≤ taskIx a x n) : (taskIx a x n).toNat < a.length ∧ ((taskIx a x n).toNat : Int) = taskIx a x n := by
  unfold taskIx at *
  rcases idxOf_cases (isTask x n) a with ⟨h1, _⟩ | ⟨k, hk, h1, hp, hf⟩
  · rw [h1] at h; omega
  · rw [h1]; exact ⟨by simpa using hk, by simp⟩
end Go.Proofs.YtngldifgcgblpaaGreat
namespace Go.Proofs.YtngldifgcgblpaaGreat
open Go.RowKit
attribute [local irreducible] wpQuiet
end Go.Proofs.YtngldifgcgblpaaGreat
namespace Go.Proofs.YtngldifgcgblpaaGreat
open Go.RowKit
attribute [local irreducible] wpQuiet
end Go.Proofs.YtngldifgcgblpaaGreat
namespace Go.Proofs.YtngldifgcgblpaaGreat
open Go.RowKit
attribute [local irreducible] wpQuiet
end Go.Proofs.YtngldifgcgblpaaGreat
namespace Go.Proofs.YtngldifgcgblpaaGreat
open Go.RowKit
attribute [local irreducible] wpQuiet
def setTask (y : Yard) (k : Nat) (s : Int) : Yard := ⟨y.config, y.nodes, y.tasks.set k (withTask (nth y.tasks k) s), y.uses, y.now⟩
def findCode (y : Yard) (a : Label) (n : Int) : Int := if yardRight y = false then 1 else if cleared (labelsIn y.config.nodes) a = false then 11 else if taskIx y.tasks a n < 0 then 6 else 0
theorem find_form {y : Yard} {a : Label} {n : Int} (h : yardRight y = false) : findCode y a n = 1 := by rw [findCode, if_pos h]
theorem find_label {y : Yard} {a : Label} {n : Int} (h : yardRight y = true) (g : cleared (labelsIn y.config.nodes) a = false) : findCode y a n = 11 := by rw [findCode, if_neg (by simp [h]), if_pos g]
theorem find_none {y : Yard} {a : Label} {n : Int} (h : yardRight y = true) (g : cleared (labelsIn y.config.nodes) a = true) (k : taskIx y.tasks a n < 0) : findCode y a n = 6 := by rw [findCode, if_neg (by simp [h]), if_neg (by simp [g]), if_pos k]
theorem find_ok {y : Yard} {a : Label} {n : Int} (h : yardRight y = true) (g : cleared (labelsIn y.config.nodes) a = true) (k : ¬ taskIx y.tasks a n < 0) : findCode y a n = 0 := by rw [findCode, if_neg (by simp [h]), if_neg (by simp [g]), if_neg k]
theorem find_right {y : Yard} {a : Label} {n : Int} (h : findCode y a n = 0) : yardRight y = true ∧ cleared (labelsIn y.config.nodes) a = true ∧ 0 ≤ taskIx y.tasks a n := by
  unfold findCode at h
  split at h
  · cases h
  split at h
  · cases h
  split at h
  · cases h
  rename_i h1 h2 h3
  simp only [Bool.not_eq_false] at h1 h2
  exact ⟨h1, h2, by omega⟩
theorem own_turn {y : Yard} {k : Nat} {s : Int} {w w' : World} {v1 v2 v3 v4 v5 v6 : Value} {F1 F2 F3 F4 F5 F5' F6 : List Nat} {B : Nat} (hf : FitYard y)
    (o1 : OwS (ORow OLabel 49) 167 w v1 y.config.nodes F1) (o2 : OwS OPair 214 w v2 y.config.pairs F2) (o3 : OwS OQuota 205 w v3 y.config.quotas F3) (o4 : OwS ONode 151 w v4 y.nodes F4) (o6 : OwS OUse 155 w v6 y.uses F6)
    (p5 : OwS OTask 87 w' v5 (y.tasks.set k (withTask (nth y.tasks k) s)) F5') (hk : Kept [B] w w') (hB : B ∈ F5) (hd : (F1 ++ (F2 ++ (F3 ++ (F4 ++ (F5 ++ F6))))).Nodup) (h5 : ∀ b ∈ F5', b ∈ F5 ∨ w.heap.size ≤ b) :
    OYard.own w' [v1, v2, v3, .int .i64 y.config.half, v4, v5, v6, .int .i64 y.now] (setTask y k s) (F1 ++ (F2 ++ (F3 ++ (F4 ++ (F5' ++ F6))))) := by
  have hd' : ((F1 ++ (F2 ++ (F3 ++ F4))) ++ (F5 ++ F6)).Nodup := by
    have h := hd
    simp only [List.append_assoc] at h ⊢
    exact h
  obtain ⟨_, h56, hAd⟩ := List.nodup_append.1 hd'
  obtain ⟨_, _, h56d⟩ := List.nodup_append.1 h56
  have far : ∀ b ∈ F1 ++ (F2 ++ (F3 ++ F4)), b ∉ [B] := fun b hb hm => hAd b hb B (List.mem_append_left _ hB) (List.mem_singleton.1 hm)
  have far6 : ∀ b ∈ F6, b ∉ [B] := fun b hb hm => h56d B hB b hb (List.mem_singleton.1 hm).symm
  have lA : ∀ b ∈ F1 ++ (F2 ++ (F3 ++ F4)), b < w.heap.size := fun b hb => by
    simp only [List.mem_append] at hb
    rcases hb with hb | hb | hb | hb
    · exact o1.lt b hb
    · exact o2.lt b hb
    · exact o3.lt b hb
    · exact o4.lt b hb
  have hn := nodup_swap hd' p5.nodup h5 lA o6.lt
  simp only [List.append_assoc] at hn
  exact ⟨_, _, _, _, _, _, F1, F2, F3, F4, F5', F6, rfl, hf, o1.kept hk (fun b hb => far b (by simp [hb])), o2.kept hk (fun b hb => far b (by simp [hb])), o3.kept hk (fun b hb => far b (by simp [hb])), o4.kept hk (fun b hb => far b (by simp [hb])), p5, o6.kept hk far6, rfl, hn⟩
end Go.Proofs.YtngldifgcgblpaaGreat
namespace Go.Proofs.YtngldifgcgblpaaGreat
open Go.RowKit
attribute [local irreducible] wpQuiet
set_option maxHeartbeats 4000000 in
set_option maxRecDepth 100000 in
theorem isLabelOf_any {S : Nat → Prop} (x : Config) (cs : List Value) (a : Label) (w : World) (h : EConfig.rel S w cs x) (hc : clearOk x.nodes = true) (r : Bool) (hr : cleared (labelsIn x.nodes) a = r) :
    Calls Tryz.prog 156 #[.agg cs.toArray, .agg #[.int .i64 a.level, .int .i64 a.set]] w fun e w' => e = .returned (.bool r) ∧ Ext w w' := by
  obtain ⟨v1, v2, v3, rfl, hf, h1, h2, h3⟩ := h
  obtain ⟨A1, c1, rfl, -⟩ := h1.form
  obtain ⟨A2, c2, rfl, -⟩ := h2.form
  obtain ⟨A3, c3, rfl, -⟩ := h3.form
  have HF := Lib.hid hf
  have H1 := Lib.hid h1
  have H2 := Lib.hid h2
  have H3 := Lib.hid h3
  have HNL : Hid (x.nodes.length ≤ 6) := Lib.hid (clear_length hc).2
  have hmz := many_zero (a := a) hc
  unfold manyOf at hmz
  obtain ⟨n, hn⟩ : ∃ n, (clearOf x.nodes a x.nodes.length).length = n := ⟨_, rfl⟩
  have HN := Lib.hid hn
  rw [hn, hr] at hmz
  have HMZ := Lib.hid hmz
  clear hf h1 h2 h3 hc hmz hn hr
  simp only [cellsConfig]
  go_enter Tryz.func156, Tryz.ntmps156
  go_upto_region 1 with (fail)
  obtain ⟨W, B, hW, hB, hx0, a0, b0⟩ := boxes2 w #[.slice A1 x.nodes.length c1, .slice A2 x.pairs.length c2, .slice A3 x.quotas.length c3, .int .i64 x.half] #[.int .i64 a.level, .int .i64 a.set] 39 49
  rw [← hW, ← hB]
  have X := Lib.hid hx0
  have qa := a0.cell
  have qb := b0.cell
  clear hW hB hx0 a0 b0
  go_wp2_with (go_at_call 79; (with_reducible refine (clearForC_any (S := S) x _ a _ (rel_Config HF.out (H1.out.ext X.out) (H2.out.ext X.out) (H3.out.ext X.out)) HNL.out).mono ?_); rintro e w8 ⟨v8, F8, rfl, o8, -, hx8⟩; obtain ⟨A8, c8, rfl, -⟩ := o8.form; rw [HN.out]; have X8 := Lib.hid (X.out.trans hx8); clear hx8 o8 qa qb)
  go_ret
  exact ⟨ret_bool (by
    cases r with
    | false => rw [HMZ.out.2 rfl]; rfl
    | true =>
      have : n ≠ 0 := fun h => by have := HMZ.out.1 h; cases this
      exact decide_eq_true (by omega)), X8.out⟩
set_option maxHeartbeats 8000000 in
set_option maxRecDepth 100000 in
theorem find_any {S : Nat → Prop} (y : Yard) (cs : List Value) (a : Label) (n : Int) (w : World) (h : EYard.rel S w cs y) (code k : Int) (hc : findCode y a n = code) (hk : (if code = 0 then taskIx y.tasks a n else 0) = k) :
    Calls Tryz.prog 78 #[.agg cs.toArray, .agg #[.int .i64 a.level, .int .i64 a.set], .int .i64 n] w fun e w' => e = .returned (.tuple #[.int .i64 k, .int .i64 code]) ∧ Ext w w' := by
  obtain ⟨v1, v2, v3, v4, v5, v6, rfl, hf, h1, h2, h3, h4, h5, h6⟩ := h
  obtain ⟨A1, c1, rfl, -⟩ := h1.form
  obtain ⟨A2, c2, rfl, -⟩ := h2.form
  obtain ⟨A3, c3, rfl, -⟩ := h3.form
  obtain ⟨A4, c4, rfl, -⟩ := h4.form
  obtain ⟨A5, c5, rfl, -⟩ := h5.form
  obtain ⟨A6, c6, rfl, -⟩ := h6.form
  have HF := Lib.hid hf
  have HFC : Hid (FitConfig y.config) := Lib.hid hf.1
  have H1 := Lib.hid h1
  have H2 := Lib.hid h2
  have H3 := Lib.hid h3
  have H4 := Lib.hid h4
  have H5 := Lib.hid h5
  have H6 := Lib.hid h6
  have HCO := Lib.hid hc
  have HKE := Lib.hid hk
  clear hf h1 h2 h3 h4 h5 h6 hc hk
  simp only [cellsYard]
  obtain ⟨i, hi⟩ : ∃ i, taskIx y.tasks a n = i := ⟨_, rfl⟩
  have HI := Lib.hid hi
  obtain ⟨t, ht⟩ : ∃ t, yardRight y = t := ⟨_, rfl⟩
  have T := Lib.hid ht
  obtain ⟨u, hu⟩ : ∃ u, cleared (labelsIn y.config.nodes) a = u := ⟨_, rfl⟩
  have U := Lib.hid hu
  clear hi ht hu
  go_enter Tryz.func78, Tryz.ntmps78
  go_upto_region 1 with (fail)
  obtain ⟨W, B, hW, hB, hx0, a0, b0⟩ := boxes2 w #[.slice A1 y.config.nodes.length c1, .slice A2 y.config.pairs.length c2, .slice A3 y.config.quotas.length c3, .int .i64 y.config.half, .slice A4 y.nodes.length c4, .slice A5 y.tasks.length c5, .slice A6 y.uses.length c6, .int .i64 y.now] #[.int .i64 a.level, .int .i64 a.set] 44 49
  rw [← hW, ← hB]
  have QA := Lib.hid a0
  have QB := Lib.hid b0
  have X := Lib.hid hx0
  clear hW hB hx0 a0 b0
  have qa := QA.out.cell
  have qb := QB.out.cell
  cases t with
  | false =>
    have hcd : code = 1 := by rw [← HCO.out, find_form T.out]
    subst hcd
    have HK0 : Hid (k = 0) := Lib.hid (by rw [← HKE.out, if_neg (by decide)])
    go_wp2_with (first | (go_at_call 111; (with_reducible refine (taskAt_any (S := S) y.tasks a n _ _ (H5.out.ext X.out)).mono ?_); rintro e w7 ⟨rfl, hx7⟩; rw [HI.out]; replace X := Lib.hid (X.out.trans hx7); replace QA := Lib.hid (QA.out.ext hx7); replace QB := Lib.hid (QB.out.ext hx7); clear hx7 qa qb; have qa := QA.out.cell; have qb := QB.out.cell) | (go_at_call 76; (with_reducible refine (yardRight_is (S := S) y _ _ (rel_Yard HF.out (H1.out.ext X.out) (H2.out.ext X.out) (H3.out.ext X.out) (H4.out.ext X.out) (H5.out.ext X.out) (H6.out.ext X.out)) _ T.out).mono ?_); rintro e w7 ⟨rfl, hx7⟩; replace X := Lib.hid (X.out.trans hx7); replace QA := Lib.hid (QA.out.ext hx7); replace QB := Lib.hid (QB.out.ext hx7); clear hx7 qa qb; have qa := QA.out.cell; have qb := QB.out.cell) | (go_at_call 156; (with_reducible refine (isLabelOf_any (S := S) y.config _ a _ (rel_Config HFC.out (H1.out.ext X.out) (H2.out.ext X.out) (H3.out.ext X.out)) HCL.out _ U.out).mono ?_); rintro e w7 ⟨rfl, hx7⟩; replace X := Lib.hid (X.out.trans hx7); replace QA := Lib.hid (QA.out.ext hx7); replace QB := Lib.hid (QB.out.ext hx7); clear hx7 qa qb; have qa := QA.out.cell; have qb := QB.out.cell))
    go_ret2
    exact ⟨by rw [HK0.out]; rfl, X.out⟩
  | true =>
    have HCL := Lib.hid (config_clear (right_config T.out))
    cases u with
    | false =>
      have hcd : code = 11 := by rw [← HCO.out, find_label T.out U.out]
      subst hcd
      have HK0 : Hid (k = 0) := Lib.hid (by rw [← HKE.out, if_neg (by decide)])
      go_wp2_with (first | (go_at_call 111; (with_reducible refine (taskAt_any (S := S) y.tasks a n _ _ (H5.out.ext X.out)).mono ?_); rintro e w7 ⟨rfl, hx7⟩; rw [HI.out]; replace X := Lib.hid (X.out.trans hx7); replace QA := Lib.hid (QA.out.ext hx7); replace QB := Lib.hid (QB.out.ext hx7); clear hx7 qa qb; have qa := QA.out.cell; have qb := QB.out.cell) | (go_at_call 76; (with_reducible refine (yardRight_is (S := S) y _ _ (rel_Yard HF.out (H1.out.ext X.out) (H2.out.ext X.out) (H3.out.ext X.out) (H4.out.ext X.out) (H5.out.ext X.out) (H6.out.ext X.out)) _ T.out).mono ?_); rintro e w7 ⟨rfl, hx7⟩; replace X := Lib.hid (X.out.trans hx7); replace QA := Lib.hid (QA.out.ext hx7); replace QB := Lib.hid (QB.out.ext hx7); clear hx7 qa qb; have qa := QA.out.cell; have qb := QB.out.cell) | (go_at_call 156; (with_reducible refine (isLabelOf_any (S := S) y.config _ a _ (rel_Config HFC.out (H1.out.ext X.out) (H2.out.ext X.out) (H3.out.ext X.out)) HCL.out _ U.out).mono ?_); rintro e w7 ⟨rfl, hx7⟩; replace X := Lib.hid (X.out.trans hx7); replace QA := Lib.hid (QA.out.ext hx7); replace QB := Lib.hid (QB.out.ext hx7); clear hx7 qa qb; have qa := QA.out.cell; have qb := QB.out.cell))
      go_ret2
      exact ⟨by rw [HK0.out]; rfl, X.out⟩
    | true =>
      by_cases hneg : i < 0
      · have hcd : code = 6 := by rw [← HCO.out, find_none T.out U.out (by rw [HI.out]; exact hneg)]
        subst hcd
        have HK0 : Hid (k = 0) := Lib.hid (by rw [← HKE.out, if_neg (by decide)])
        go_wp2_with (first | (go_at_call 111; (with_reducible refine (taskAt_any (S := S) y.tasks a n _ _ (H5.out.ext X.out)).mono ?_); rintro e w7 ⟨rfl, hx7⟩; rw [HI.out]; replace X := Lib.hid (X.out.trans hx7); replace QA := Lib.hid (QA.out.ext hx7); replace QB := Lib.hid (QB.out.ext hx7); clear hx7 qa qb; have qa := QA.out.cell; have qb := QB.out.cell) | (go_at_call 76; (with_reducible refine (yardRight_is (S := S) y _ _ (rel_Yard HF.out (H1.out.ext X.out) (H2.out.ext X.out) (H3.out.ext X.out) (H4.out.ext X.out) (H5.out.ext X.out) (H6.out.ext X.out)) _ T.out).mono ?_); rintro e w7 ⟨rfl, hx7⟩; replace X := Lib.hid (X.out.trans hx7); replace QA := Lib.hid (QA.out.ext hx7); replace QB := Lib.hid (QB.out.ext hx7); clear hx7 qa qb; have qa := QA.out.cell; have qb := QB.out.cell) | (go_at_call 156; (with_reducible refine (isLabelOf_any (S := S) y.config _ a _ (rel_Config HFC.out (H1.out.ext X.out) (H2.out.ext X.out) (H3.out.ext X.out)) HCL.out _ U.out).mono ?_); rintro e w7 ⟨rfl, hx7⟩; replace X := Lib.hid (X.out.trans hx7); replace QA := Lib.hid (QA.out.ext hx7); replace QB := Lib.hid (QB.out.ext hx7); clear hx7 qa qb; have qa := QA.out.cell; have qb := QB.out.cell))
        go_ret2
        exact ⟨by rw [HK0.out]; rfl, X.out⟩
      · have hcd : code = 0 := by rw [← HCO.out, find_ok T.out U.out (by rw [HI.out]; exact hneg)]
        subst hcd
        have HK0 : Hid (k = i) := Lib.hid (by rw [← HKE.out, if_pos rfl, HI.out])
        go_wp2_with (first | (go_at_call 111; (with_reducible refine (taskAt_any (S := S) y.tasks a n _ _ (H5.out.ext X.out)).mono ?_); rintro e w7 ⟨rfl, hx7⟩; rw [HI.out]; replace X := Lib.hid (X.out.trans hx7); replace QA := Lib.hid (QA.out.ext hx7); replace QB := Lib.hid (QB.out.ext hx7); clear hx7 qa qb; have qa := QA.out.cell; have qb := QB.out.cell) | (go_at_call 76; (with_reducible refine (yardRight_is (S := S) y _ _ (rel_Yard HF.out (H1.out.ext X.out) (H2.out.ext X.out) (H3.out.ext X.out) (H4.out.ext X.out) (H5.out.ext X.out) (H6.out.ext X.out)) _ T.out).mono ?_); rintro e w7 ⟨rfl, hx7⟩; replace X := Lib.hid (X.out.trans hx7); replace QA := Lib.hid (QA.out.ext hx7); replace QB := Lib.hid (QB.out.ext hx7); clear hx7 qa qb; have qa := QA.out.cell; have qb := QB.out.cell) | (go_at_call 156; (with_reducible refine (isLabelOf_any (S := S) y.config _ a _ (rel_Config HFC.out (H1.out.ext X.out) (H2.out.ext X.out) (H3.out.ext X.out)) HCL.out _ U.out).mono ?_); rintro e w7 ⟨rfl, hx7⟩; replace X := Lib.hid (X.out.trans hx7); replace QA := Lib.hid (QA.out.ext hx7); replace QB := Lib.hid (QB.out.ext hx7); clear hx7 qa qb; have qa := QA.out.cell; have qb := QB.out.cell))
        go_ret2
        exact ⟨by rw [HK0.out]; rfl, X.out⟩
end Go.Proofs.YtngldifgcgblpaaGreat
namespace Go.Proofs.YtngldifgcgblpaaGreat
open Go.RowKit
attribute [local irreducible] wpQuiet
theorem code_fit {y : Yard} {a : Label} {n : Int} : I64 (findCode y a n) := by
  unfold findCode
  split
  · unfold I64; decide
  split
  · unfold I64; decide
  split
  · unfold I64; decide
  · unfold I64; decide
theorem find_ix {y : Yard} {a : Label} {n : Int} (h : findCode y a n = 0) : ∃ d : Nat, d < y.tasks.length ∧ taskIx y.tasks a n = (d : Int) := by
  obtain ⟨_, _, h3⟩ := find_right h
  obtain ⟨h4, h5⟩ := taskIx_lt h3
  exact ⟨_, h4, h5.symm⟩
end Go.Proofs.YtngldifgcgblpaaGreat
namespace Go.Proofs.YtngldifgcgblpaaGreat
theorem taskRight_nodes {x : Task} (h : taskRight x = true) : x.nodes.length ≤ 6 := by
  simp only [taskRight, isWorkB, isB, placeOk, Bool.and_eq_true, decide_eq_true_eq] at h
  split at h <;> simp only [Bool.and_eq_true, decide_eq_true_eq] at h <;> omega
theorem tasksRight_at {l : List Task} (h : tasksRight l = true) {k : Nat} (hk : k < l.length) : taskRight (nth l k) = true := by
  simp only [tasksRight, Bool.and_eq_true, List.all_eq_true, List.mem_range] at h
  have := h.2 k hk
  simp only [tI, Bool.and_eq_true] at this
  exact this.1.1
theorem tasksRight_small {l : List Task} (h : tasksRight l = true) : ∀ k, k < l.length → (nth l k).nodes.length ≤ 1000000000 := fun k hk => by
  have := taskRight_nodes (tasksRight_at h hk)
  omega
def noTask : Task := ⟨⟨0, 0⟩, 0, ⟨#[]⟩, 0, 0, 0, ⟨0, 0⟩, 0, 0, 0, 0, []⟩
theorem fit_noTask : FitTask noTask := by simp [FitTask, noTask, I64, Str, ByteArray.size]
def taskOf (l : List Task) (a : Label) (n : Int) : Task := if tasksRight l = true then (if 0 ≤ taskIx l a n then nth l (taskIx l a n).toNat else noTask) else noTask
end Go.Proofs.YtngldifgcgblpaaGreat
namespace Go.Proofs.YtngldifgcgblpaaGreat
open Go.RowKit
end Go.Proofs.YtngldifgcgblpaaGreat
namespace Go.Proofs.YtngldifgcgblpaaGreat
open Go.RowKit
attribute [local irreducible] wpQuiet
end Go.Proofs.YtngldifgcgblpaaGreat
namespace Go.Proofs.YtngldifgcgblpaaGreat
open Go.RowKit
attribute [local irreducible] wpQuiet
end Go.Proofs.YtngldifgcgblpaaGreat
namespace Go.Proofs.YtngldifgcgblpaaGreat
open Go.RowKit
attribute [local irreducible] wpQuiet
end Go.Proofs.YtngldifgcgblpaaGreat
namespace Go.Proofs.YtngldifgcgblpaaGreat
open Go.RowKit
attribute [local irreducible] wpQuiet
end Go.Proofs.YtngldifgcgblpaaGreat
namespace Go.Proofs.YtngldifgcgblpaaGreat
open Go.RowKit
attribute [local irreducible] wpQuiet
end Go.Proofs.YtngldifgcgblpaaGreat
namespace Go.Proofs.YtngldifgcgblpaaGreat
open Go.RowKit
attribute [local irreducible] wpQuiet
set_option maxHeartbeats 8000000 in
set_option maxRecDepth 100000 in
theorem specTaskOf_any {S : Nat → Prop} (l : List Task) (a : Label) (n : Int) (v : Value) (w : World) (h : Rd ETask S w v l) :
    Calls Tryz.prog 54 #[v, .agg #[.int .i64 a.level, .int .i64 a.set], .int .i64 n] w (RetOS OTask (taskOf l a n) w) := by
  have HR := Lib.hid h
  obtain ⟨A, c, rfl, h1, h2, hk⟩ := h.open_
  unfold maxLen at h2
  have HK := Lib.hid hk
  clear h hk
  go_enter Tryz.func54, Tryz.ntmps54
  go_upto_region 1 with (fail)
  obtain ⟨W, B, hW, hB, hx0, a0, r0⟩ := boxes2 w #[.int .i64 a.level, .int .i64 a.set] #[.int .i64 0, .int .i64 0, .int .i64 0, .string ⟨#[]⟩, .int .i64 0, .int .i64 0, .int .i64 0, .int .i64 0, .int .i64 0, .int .i64 0, .int .i64 0, .int .i64 0, .int .i64 0, .slice none 0 0] 49 87
  rw [← hW, ← hB]
  have HB := Lib.hid hB
  have A0 := Lib.hid a0
  have R0 := Lib.hid r0
  have X0 := Lib.hid hx0
  clear hW hB a0 r0 hx0
  have e0 := A0.out.cell 0
  have e1 := A0.out.cell 1
  simp only [List.getElem?_toArray, List.getElem?_cons_succ, List.getElem?_cons_zero] at e0 e1
  go_wp2_with fail
  refine (specTasksRight_any (S := S) l _ _ (HR.out.ext X0.out)).mono ?_
  rintro e w2 ⟨rfl, hx⟩
  have X2 := Lib.hid (X0.out.trans hx)
  have R2 := Lib.hid (R0.out.ext hx)
  replace e0 := Ext.some hx e0
  replace e1 := Ext.some hx e1
  clear hx
  cases ht : tasksRight l with
  | false =>
    have HE : Hid (taskOf l a n = noTask) := Lib.hid (by simp [taskOf, ht])
    clear e0 e1
    go_wp2_with (refine wpList_store_mid rfl 87 _ _ rfl (B + 1) 0 #[.int .i64 0, .int .i64 0, .int .i64 0, .string ⟨#[]⟩, .int .i64 0, .int .i64 0, .int .i64 0, .int .i64 0, .int .i64 0, .int .i64 0, .int .i64 0, .int .i64 0, .int .i64 0, .slice none 0 0] rfl rfl (Blk.there (t := 87) (cs := #[.int .i64 0, .int .i64 0, .int .i64 0, .string ⟨#[]⟩, .int .i64 0, .int .i64 0, .int .i64 0, .int .i64 0, .int .i64 0, .int .i64 0, .int .i64 0, .int .i64 0, .int .i64 0, .slice none 0 0]) R2.out) (by kernel_rfl) (all_oneCell_toArray (cs := [.int .i64 0, .int .i64 0, .int .i64 0, .string ⟨#[]⟩, .int .i64 0, .int .i64 0, .int .i64 0, .int .i64 0, .int .i64 0, .int .i64 0, .int .i64 0, .int .i64 0, .int .i64 0, .slice none 0 0]) (by simp [Value.oneCell'])) ?_)
    exact bodyPost_ret (v := .agg #[.int .i64 0, .int .i64 0, .int .i64 0, .string ⟨#[]⟩, .int .i64 0, .int .i64 0, .int .i64 0, .int .i64 0, .int .i64 0, .int .i64 0, .int .i64 0, .int .i64 0, .int .i64 0, .slice none 0 0]) (results_blk Tryz.results54 rfl (Blk.setAll (t := 87) (cs := #[.int .i64 0, .int .i64 0, .int .i64 0, .string ⟨#[]⟩, .int .i64 0, .int .i64 0, .int .i64 0, .int .i64 0, .int .i64 0, .int .i64 0, .int .i64 0, .int .i64 0, .int .i64 0, .slice none 0 0]) (vs := #[.int .i64 0, .int .i64 0, .int .i64 0, .string ⟨#[]⟩, .int .i64 0, .int .i64 0, .int .i64 0, .int .i64 0, .int .i64 0, .int .i64 0, .int .i64 0, .int .i64 0, .int .i64 0, .slice none 0 0]) R2.out rfl) Tryz.underlying87 rfl (by kernel_rfl)) rfl ⟨_, [], rfl, ⟨.slice none 0 0, by rw [HE.out]; rfl, by rw [HE.out]; exact fit_noTask, by rw [HE.out]; exact OwS.nil _⟩, fun b hb => absurd hb (by simp), setCells_ext (by rw [HB.out]; exact Nat.le_succ _) _ _ _ X2.out⟩
  | true =>
    have HT := Lib.hid ht
    go_wp2_with fail
    refine (l12At_any (S := S) l a n _ _ (HR.out.ext X2.out)).mono ?_
    rintro e w3 ⟨rfl, hx⟩
    replace X2 := Lib.hid (X2.out.trans hx)
    replace R2 := Lib.hid (R2.out.ext hx)
    clear hx e0 e1
    clear ht
    rcases idxOf_cases (isTask a n) l with ⟨hi, hn⟩ | ⟨d, hlt, hi, hq, hn⟩
    · have HI : Hid (taskIx l a n = -1) := Lib.hid hi
      have HE : Hid (taskOf l a n = noTask) := Lib.hid (by simp [taskOf, HI.out])
      clear hi hn
      rw [HI.out]
      go_wp2_with (refine wpList_store_mid rfl 87 _ _ rfl (B + 1) 0 #[.int .i64 0, .int .i64 0, .int .i64 0, .string ⟨#[]⟩, .int .i64 0, .int .i64 0, .int .i64 0, .int .i64 0, .int .i64 0, .int .i64 0, .int .i64 0, .int .i64 0, .int .i64 0, .slice none 0 0] rfl rfl (Blk.there (t := 87) (cs := #[.int .i64 0, .int .i64 0, .int .i64 0, .string ⟨#[]⟩, .int .i64 0, .int .i64 0, .int .i64 0, .int .i64 0, .int .i64 0, .int .i64 0, .int .i64 0, .int .i64 0, .int .i64 0, .slice none 0 0]) R2.out) (by kernel_rfl) (all_oneCell_toArray (cs := [.int .i64 0, .int .i64 0, .int .i64 0, .string ⟨#[]⟩, .int .i64 0, .int .i64 0, .int .i64 0, .int .i64 0, .int .i64 0, .int .i64 0, .int .i64 0, .int .i64 0, .int .i64 0, .slice none 0 0]) (by simp [Value.oneCell'])) ?_)
      exact bodyPost_ret (v := .agg #[.int .i64 0, .int .i64 0, .int .i64 0, .string ⟨#[]⟩, .int .i64 0, .int .i64 0, .int .i64 0, .int .i64 0, .int .i64 0, .int .i64 0, .int .i64 0, .int .i64 0, .int .i64 0, .slice none 0 0]) (results_blk Tryz.results54 rfl (Blk.setAll (t := 87) (cs := #[.int .i64 0, .int .i64 0, .int .i64 0, .string ⟨#[]⟩, .int .i64 0, .int .i64 0, .int .i64 0, .int .i64 0, .int .i64 0, .int .i64 0, .int .i64 0, .int .i64 0, .int .i64 0, .slice none 0 0]) (vs := #[.int .i64 0, .int .i64 0, .int .i64 0, .string ⟨#[]⟩, .int .i64 0, .int .i64 0, .int .i64 0, .int .i64 0, .int .i64 0, .int .i64 0, .int .i64 0, .int .i64 0, .int .i64 0, .slice none 0 0]) R2.out rfl) Tryz.underlying87 rfl (by kernel_rfl)) rfl ⟨_, [], rfl, ⟨.slice none 0 0, by rw [HE.out]; rfl, by rw [HE.out]; exact fit_noTask, by rw [HE.out]; exact OwS.nil _⟩, fun b hb => absurd hb (by simp), setCells_ext (by rw [HB.out]; exact Nat.le_succ _) _ _ _ X2.out⟩
    · have HI : Hid (taskIx l a n = (d : Int)) := Lib.hid hi
      have HE : Hid (taskOf l a n = nth l d) := Lib.hid (by simp [taskOf, HI.out, HT.out])
      have HN := Lib.hid (tasksRight_small HT.out d hlt)
      obtain ⟨b, q, cs, rfl, _, ⟨v1, rfl, hfit, hrd⟩, hc⟩ := HK.out d hlt
      obtain ⟨A1, c1, rfl, -⟩ := hrd.form
      have HX := X2.out
      have c0 := Ext.some HX (hc 0 _ rfl)
      have c1 := Ext.some HX (hc 1 _ rfl)
      have c2 := Ext.some HX (hc 2 _ rfl)
      have c3 := Ext.some HX (hc 3 _ rfl)
      have c4 := Ext.some HX (hc 4 _ rfl)
      have c5 := Ext.some HX (hc 5 _ rfl)
      have c6 := Ext.some HX (hc 6 _ rfl)
      have c7 := Ext.some HX (hc 7 _ rfl)
      have c8 := Ext.some HX (hc 8 _ rfl)
      have c9 := Ext.some HX (hc 9 _ rfl)
      have c10 := Ext.some HX (hc 10 _ rfl)
      have c11 := Ext.some HX (hc 11 _ rfl)
      have c12 := Ext.some HX (hc 12 _ rfl)
      have c13 := Ext.some HX (hc 13 _ rfl)
      simp only [ETask, Nat.add_zero] at c0 c1 c2 c3 c4 c5 c6 c7 c8 c9 c10 c11 c12 c13
      have HFit := Lib.hid hfit
      have HRD := Lib.hid (hrd.ext X2.out)
      have hd0 : (0 : Int) ≤ (d : Int) := Int.natCast_nonneg _
      clear hi hq hn hc hfit hrd HX
      rw [HI.out]
      go_wp2_with fail
      refine (l12Copy_own (S := S) (nth l d) _ _ (rel_Task HFit.out HRD.out) HN.out).mono ?_
      rintro e w4 ⟨cs1, G1, rfl, ⟨u1, rfl, f1, q1⟩, g1, hx⟩
      obtain ⟨p1, k1, rfl, -⟩ := q1.form
      have Q1 := Lib.hid q1
      have Z1 := Lib.hid (fun b hb => (Nat.le_trans X2.out.size (g1 b hb) : w.heap.size ≤ b))
      have LR : Hid (∀ b ∈ G1, B + 1 < b) := Lib.hid (fun b hb => Nat.lt_of_lt_of_le R2.out.lt (g1 b hb))
      replace X2 := Lib.hid (X2.out.trans hx)
      replace R2 := Lib.hid (R2.out.ext hx)
      clear hx f1 q1 g1 c0 c1 c2 c3 c4 c5 c6 c7 c8 c9 c10 c11 c12 c13
      simp only [cellsTask]
      go_wp2_with (refine wpList_store_mid rfl 87 _ _ rfl (B + 1) 0 #[.int .i64 (nth l d).label.level, .int .i64 (nth l d).label.set, .int .i64 (nth l d).id, .string (nth l d).owner, .int .i64 (nth l d).need, .int .i64 (nth l d).long, .int .i64 (nth l d).prio, .int .i64 (nth l d).under.level, .int .i64 (nth l d).under.set, .int .i64 (nth l d).after, .int .i64 (nth l d).born, .int .i64 (nth l d).state, .int .i64 (nth l d).start, .slice p1 (nth l d).nodes.length k1] rfl rfl (Blk.there (t := 87) (cs := #[.int .i64 0, .int .i64 0, .int .i64 0, .string ⟨#[]⟩, .int .i64 0, .int .i64 0, .int .i64 0, .int .i64 0, .int .i64 0, .int .i64 0, .int .i64 0, .int .i64 0, .int .i64 0, .slice none 0 0]) R2.out) (by kernel_rfl) (all_oneCell_toArray (cs := [.int .i64 (nth l d).label.level, .int .i64 (nth l d).label.set, .int .i64 (nth l d).id, .string (nth l d).owner, .int .i64 (nth l d).need, .int .i64 (nth l d).long, .int .i64 (nth l d).prio, .int .i64 (nth l d).under.level, .int .i64 (nth l d).under.set, .int .i64 (nth l d).after, .int .i64 (nth l d).born, .int .i64 (nth l d).state, .int .i64 (nth l d).start, .slice p1 (nth l d).nodes.length k1]) (by simp [Value.oneCell'])) ?_)
      exact bodyPost_ret (v := .agg #[.int .i64 (nth l d).label.level, .int .i64 (nth l d).label.set, .int .i64 (nth l d).id, .string (nth l d).owner, .int .i64 (nth l d).need, .int .i64 (nth l d).long, .int .i64 (nth l d).prio, .int .i64 (nth l d).under.level, .int .i64 (nth l d).under.set, .int .i64 (nth l d).after, .int .i64 (nth l d).born, .int .i64 (nth l d).state, .int .i64 (nth l d).start, .slice p1 (nth l d).nodes.length k1]) (results_blk Tryz.results54 rfl (Blk.setAll (t := 87) (cs := #[.int .i64 0, .int .i64 0, .int .i64 0, .string ⟨#[]⟩, .int .i64 0, .int .i64 0, .int .i64 0, .int .i64 0, .int .i64 0, .int .i64 0, .int .i64 0, .int .i64 0, .int .i64 0, .slice none 0 0]) (vs := #[.int .i64 (nth l d).label.level, .int .i64 (nth l d).label.set, .int .i64 (nth l d).id, .string (nth l d).owner, .int .i64 (nth l d).need, .int .i64 (nth l d).long, .int .i64 (nth l d).prio, .int .i64 (nth l d).under.level, .int .i64 (nth l d).under.set, .int .i64 (nth l d).after, .int .i64 (nth l d).born, .int .i64 (nth l d).state, .int .i64 (nth l d).start, .slice p1 (nth l d).nodes.length k1]) R2.out rfl) Tryz.underlying87 rfl (by kernel_rfl)) rfl ⟨_, G1, rfl, ⟨.slice p1 (nth l d).nodes.length k1, by rw [HE.out]; rfl, by rw [HE.out]; exact HFit.out, by rw [HE.out]; exact Q1.out.kept (G := [B + 1]) (Kept.setCells (by simp) _ _ _ (Kept.refl _ _)) (fun b hb => by have := LR.out b hb; simp; omega)⟩, Z1.out, setCells_ext (by rw [HB.out]; exact Nat.le_succ _) _ _ _ X2.out⟩
end Go.Proofs.YtngldifgcgblpaaGreat
namespace Go.Proofs.YtngldifgcgblpaaGreat
open Go.RowKit
attribute [local irreducible] wpQuiet
set_option maxHeartbeats 8000000 in
set_option maxRecDepth 100000 in
theorem l13Has_any {S : Nat → Prop} (y : Yard) (cs : List Value) (a : Label) (w : World) (h : EYard.rel S w cs y) (r : Bool) (hr : cleared (labelsIn y.config.nodes) a = r) :
    Calls Tryz.prog 104 #[.agg cs.toArray, .agg #[.int .i64 a.level, .int .i64 a.set]] w fun e w' => e = .returned (.bool r) ∧ Ext w w' := by
  obtain ⟨v1, v2, v3, v4, v5, v6, rfl, hf, h1, h2, h3, h4, h5, h6⟩ := h
  obtain ⟨A1, c1, rfl, -⟩ := h1.form
  obtain ⟨A2, c2, rfl, -⟩ := h2.form
  obtain ⟨A3, c3, rfl, -⟩ := h3.form
  obtain ⟨A4, c4, rfl, -⟩ := h4.form
  have H5 := Lib.hid h5
  obtain ⟨A5, c5, rfl, l5, m5, hk5⟩ := h5.open_
  unfold maxLen at m5
  obtain ⟨A6, c6, rfl, -⟩ := h6.form
  have HF := Lib.hid hf
  have HFC : Hid (FitConfig y.config) := Lib.hid hf.1
  have H1 := Lib.hid h1
  have H2 := Lib.hid h2
  have H3 := Lib.hid h3
  have H4 := Lib.hid h4
  have H6 := Lib.hid h6
  have K5 := Lib.hid hk5
  have HRR := Lib.hid hr
  clear hf h1 h2 h3 h4 h5 h6 hk5 hr
  simp only [cellsYard]
  go_enter Tryz.func104, Tryz.ntmps104
  go_upto_region 1 with (fail)
  obtain ⟨W, B, hW, hB, hx0, a0, b0⟩ := boxes2 w #[.slice A1 y.config.nodes.length c1, .slice A2 y.config.pairs.length c2, .slice A3 y.config.quotas.length c3, .int .i64 y.config.half, .slice A4 y.nodes.length c4, .slice A5 y.tasks.length c5, .slice A6 y.uses.length c6, .int .i64 y.now] #[.int .i64 a.level, .int .i64 a.set] 44 49
  rw [← hW, ← hB]
  have QA := Lib.hid a0
  have QB := Lib.hid b0
  have X := Lib.hid hx0
  clear hW hB hx0 a0 b0
  have al_a : ∀ V, Ext W V → ∀ i, V.cell? ⟨B, i, none⟩ = _ := fun V hx => (QA.out.ext hx).cell
  have al_b : ∀ V, Ext W V → ∀ i, V.cell? ⟨B + 1, i, none⟩ = _ := fun V hx => (QB.out.ext hx).cell
  go_region_held3 (fun V => Ext W V) (first | exact Ext.refl _ | exact (Ext.refl _).drew | assumption | exact Ext.trans (by assumption) hx7 | exact Ext.trans (by assumption) hx8) (first
    | (go_at_call 166; (with_reducible refine (l09Labels_any (S := S) y.config.nodes _ _ (H1.out.ext (X.out.trans (by assumption)))).mono ?_); rintro e w7 ⟨v7, F7, rfl, o7, -, hx7⟩; obtain ⟨A7, c7, rfl, -⟩ := OwS.form o7; have O7 := Lib.hid (OwS.rd o7); clear o7)
    | (go_at_call 143; (with_reducible refine (l05Cleared_is (S := fun b => b ∈ F7) (labelsIn y.config.nodes) a _ _ (by first | exact O7.out | exact O7.out.ext (by assumption) | exact O7.out.ext (Ext.refl _).drew) _ HRR.out).mono ?_); rintro e w8 ⟨rfl, hx8⟩))
  all_goals clear al_a al_b
  have X8 : Hid (Ext W w8) := Lib.hid (by first | assumption | exact Ext.trans (by assumption) hx8 | exact Ext.drew (by assumption))
  go_wp2_with fail
  go_ret
  exact ⟨rfl, X.out.trans X8.out⟩
set_option maxHeartbeats 8000000 in
set_option maxRecDepth 100000 in
theorem l13Code_any {S : Nat → Prop} (y : Yard) (cs : List Value) (a : Label) (n : Int) (w : World) (h : EYard.rel S w cs y) (code : Int) (hc : findCode y a n = code) :
    Calls Tryz.prog 51 #[.agg cs.toArray, .agg #[.int .i64 a.level, .int .i64 a.set], .int .i64 n] w fun e w' => e = .returned (.int .i64 code) ∧ Ext w w' := by
  obtain ⟨v1, v2, v3, v4, v5, v6, rfl, hf, h1, h2, h3, h4, h5, h6⟩ := h
  obtain ⟨A1, c1, rfl, -⟩ := h1.form
  obtain ⟨A2, c2, rfl, -⟩ := h2.form
  obtain ⟨A3, c3, rfl, -⟩ := h3.form
  obtain ⟨A4, c4, rfl, -⟩ := h4.form
  have H5 := Lib.hid h5
  obtain ⟨A5, c5, rfl, l5, m5, hk5⟩ := h5.open_
  unfold maxLen at m5
  obtain ⟨A6, c6, rfl, -⟩ := h6.form
  have HF := Lib.hid hf
  have HFC : Hid (FitConfig y.config) := Lib.hid hf.1
  have H1 := Lib.hid h1
  have H2 := Lib.hid h2
  have H3 := Lib.hid h3
  have H4 := Lib.hid h4
  have H6 := Lib.hid h6
  have K5 := Lib.hid hk5
  have HCO := Lib.hid hc
  clear hf h1 h2 h3 h4 h5 h6 hk5 hc
  simp only [cellsYard]
  obtain ⟨i, hi⟩ : ∃ i, taskIx y.tasks a n = i := ⟨_, rfl⟩
  have HI := Lib.hid hi
  obtain ⟨t, ht⟩ : ∃ t, yardRight y = t := ⟨_, rfl⟩
  have T := Lib.hid ht
  obtain ⟨u, hu⟩ : ∃ u, cleared (labelsIn y.config.nodes) a = u := ⟨_, rfl⟩
  have U := Lib.hid hu
  clear hi ht hu
  go_enter Tryz.func51, Tryz.ntmps51
  go_upto_region 1 with (fail)
  obtain ⟨W, B, hW, hB, hx0, a0, b0⟩ := boxes2 w #[.slice A1 y.config.nodes.length c1, .slice A2 y.config.pairs.length c2, .slice A3 y.config.quotas.length c3, .int .i64 y.config.half, .slice A4 y.nodes.length c4, .slice A5 y.tasks.length c5, .slice A6 y.uses.length c6, .int .i64 y.now] #[.int .i64 a.level, .int .i64 a.set] 44 49
  rw [← hW, ← hB]
  have QA := Lib.hid a0
  have QB := Lib.hid b0
  have X := Lib.hid hx0
  clear hW hB hx0 a0 b0
  have qa := QA.out.cell
  have qb := QB.out.cell
  cases t with
  | false =>
    have hcd : code = 1 := by rw [← HCO.out, find_form T.out]
    subst hcd
    go_wp2_with (first | (go_at_call 75; (with_reducible refine (l12At_any (S := S) y.tasks a n _ _ (H5.out.ext X.out)).mono ?_); rintro e w7 ⟨rfl, hx7⟩; rw [HI.out]; replace X := Lib.hid (X.out.trans hx7); replace QA := Lib.hid (QA.out.ext hx7); replace QB := Lib.hid (QB.out.ext hx7); clear hx7 qa qb; have qa := QA.out.cell; have qb := QB.out.cell) | (go_at_call 82; (with_reducible refine (specYardRight_is (S := S) y _ _ (rel_Yard HF.out (H1.out.ext X.out) (H2.out.ext X.out) (H3.out.ext X.out) (H4.out.ext X.out) (H5.out.ext X.out) (H6.out.ext X.out)) _ T.out).mono ?_); rintro e w7 ⟨rfl, hx7⟩; replace X := Lib.hid (X.out.trans hx7); replace QA := Lib.hid (QA.out.ext hx7); replace QB := Lib.hid (QB.out.ext hx7); clear hx7 qa qb; have qa := QA.out.cell; have qb := QB.out.cell) | (go_at_call 104; (with_reducible refine (l13Has_any (S := S) y _ a _ (rel_Yard HF.out (H1.out.ext X.out) (H2.out.ext X.out) (H3.out.ext X.out) (H4.out.ext X.out) (H5.out.ext X.out) (H6.out.ext X.out)) _ U.out).mono ?_); rintro e w7 ⟨rfl, hx7⟩; replace X := Lib.hid (X.out.trans hx7); replace QA := Lib.hid (QA.out.ext hx7); replace QB := Lib.hid (QB.out.ext hx7); clear hx7 qa qb; have qa := QA.out.cell; have qb := QB.out.cell))
    go_ret
    exact ⟨rfl, X.out⟩
  | true =>
    cases u with
    | false =>
      have hcd : code = 11 := by rw [← HCO.out, find_label T.out U.out]
      subst hcd
      go_wp2_with (first | (go_at_call 75; (with_reducible refine (l12At_any (S := S) y.tasks a n _ _ (H5.out.ext X.out)).mono ?_); rintro e w7 ⟨rfl, hx7⟩; rw [HI.out]; replace X := Lib.hid (X.out.trans hx7); replace QA := Lib.hid (QA.out.ext hx7); replace QB := Lib.hid (QB.out.ext hx7); clear hx7 qa qb; have qa := QA.out.cell; have qb := QB.out.cell) | (go_at_call 82; (with_reducible refine (specYardRight_is (S := S) y _ _ (rel_Yard HF.out (H1.out.ext X.out) (H2.out.ext X.out) (H3.out.ext X.out) (H4.out.ext X.out) (H5.out.ext X.out) (H6.out.ext X.out)) _ T.out).mono ?_); rintro e w7 ⟨rfl, hx7⟩; replace X := Lib.hid (X.out.trans hx7); replace QA := Lib.hid (QA.out.ext hx7); replace QB := Lib.hid (QB.out.ext hx7); clear hx7 qa qb; have qa := QA.out.cell; have qb := QB.out.cell) | (go_at_call 104; (with_reducible refine (l13Has_any (S := S) y _ a _ (rel_Yard HF.out (H1.out.ext X.out) (H2.out.ext X.out) (H3.out.ext X.out) (H4.out.ext X.out) (H5.out.ext X.out) (H6.out.ext X.out)) _ U.out).mono ?_); rintro e w7 ⟨rfl, hx7⟩; replace X := Lib.hid (X.out.trans hx7); replace QA := Lib.hid (QA.out.ext hx7); replace QB := Lib.hid (QB.out.ext hx7); clear hx7 qa qb; have qa := QA.out.cell; have qb := QB.out.cell))
      go_ret
      exact ⟨rfl, X.out⟩
    | true =>
      by_cases hneg : i < 0
      · have hcd : code = 6 := by rw [← HCO.out, find_none T.out U.out (by rw [HI.out]; exact hneg)]
        subst hcd
        go_wp2_with (first | (go_at_call 75; (with_reducible refine (l12At_any (S := S) y.tasks a n _ _ (H5.out.ext X.out)).mono ?_); rintro e w7 ⟨rfl, hx7⟩; rw [HI.out]; replace X := Lib.hid (X.out.trans hx7); replace QA := Lib.hid (QA.out.ext hx7); replace QB := Lib.hid (QB.out.ext hx7); clear hx7 qa qb; have qa := QA.out.cell; have qb := QB.out.cell) | (go_at_call 82; (with_reducible refine (specYardRight_is (S := S) y _ _ (rel_Yard HF.out (H1.out.ext X.out) (H2.out.ext X.out) (H3.out.ext X.out) (H4.out.ext X.out) (H5.out.ext X.out) (H6.out.ext X.out)) _ T.out).mono ?_); rintro e w7 ⟨rfl, hx7⟩; replace X := Lib.hid (X.out.trans hx7); replace QA := Lib.hid (QA.out.ext hx7); replace QB := Lib.hid (QB.out.ext hx7); clear hx7 qa qb; have qa := QA.out.cell; have qb := QB.out.cell) | (go_at_call 104; (with_reducible refine (l13Has_any (S := S) y _ a _ (rel_Yard HF.out (H1.out.ext X.out) (H2.out.ext X.out) (H3.out.ext X.out) (H4.out.ext X.out) (H5.out.ext X.out) (H6.out.ext X.out)) _ U.out).mono ?_); rintro e w7 ⟨rfl, hx7⟩; replace X := Lib.hid (X.out.trans hx7); replace QA := Lib.hid (QA.out.ext hx7); replace QB := Lib.hid (QB.out.ext hx7); clear hx7 qa qb; have qa := QA.out.cell; have qb := QB.out.cell))
        go_ret
        exact ⟨rfl, X.out⟩
      · have hcd : code = 0 := by rw [← HCO.out, find_ok T.out U.out (by rw [HI.out]; exact hneg)]
        subst hcd
        go_wp2_with (first | (go_at_call 75; (with_reducible refine (l12At_any (S := S) y.tasks a n _ _ (H5.out.ext X.out)).mono ?_); rintro e w7 ⟨rfl, hx7⟩; rw [HI.out]; replace X := Lib.hid (X.out.trans hx7); replace QA := Lib.hid (QA.out.ext hx7); replace QB := Lib.hid (QB.out.ext hx7); clear hx7 qa qb; have qa := QA.out.cell; have qb := QB.out.cell) | (go_at_call 82; (with_reducible refine (specYardRight_is (S := S) y _ _ (rel_Yard HF.out (H1.out.ext X.out) (H2.out.ext X.out) (H3.out.ext X.out) (H4.out.ext X.out) (H5.out.ext X.out) (H6.out.ext X.out)) _ T.out).mono ?_); rintro e w7 ⟨rfl, hx7⟩; replace X := Lib.hid (X.out.trans hx7); replace QA := Lib.hid (QA.out.ext hx7); replace QB := Lib.hid (QB.out.ext hx7); clear hx7 qa qb; have qa := QA.out.cell; have qb := QB.out.cell) | (go_at_call 104; (with_reducible refine (l13Has_any (S := S) y _ a _ (rel_Yard HF.out (H1.out.ext X.out) (H2.out.ext X.out) (H3.out.ext X.out) (H4.out.ext X.out) (H5.out.ext X.out) (H6.out.ext X.out)) _ U.out).mono ?_); rintro e w7 ⟨rfl, hx7⟩; replace X := Lib.hid (X.out.trans hx7); replace QA := Lib.hid (QA.out.ext hx7); replace QB := Lib.hid (QB.out.ext hx7); clear hx7 qa qb; have qa := QA.out.cell; have qb := QB.out.cell))
        go_ret
        exact ⟨rfl, X.out⟩
set_option maxHeartbeats 16000000 in
set_option maxRecDepth 100000 in
theorem l13Turn_any {S : Nat → Prop} (y : Yard) (cs : List Value) (a : Label) (n s : Int) (d : Nat) (w : World) (h : EYard.rel S w cs y) (hs : I64 s) (hc : findCode y a n = 0) (hd : d < y.tasks.length) (hi : taskIx y.tasks a n = (d : Int)) :
    Calls Tryz.prog 55 #[.agg cs.toArray, .agg #[.int .i64 a.level, .int .i64 a.set], .int .i64 n, .int .i64 s] w (RetOS OYardOut ⟨setTask y d s, 0, 0⟩ w) := by
  obtain ⟨v1, v2, v3, v4, v5, v6, rfl, hf, h1, h2, h3, h4, h5, h6⟩ := h
  obtain ⟨A1, c1, rfl, -⟩ := h1.form
  obtain ⟨A2, c2, rfl, -⟩ := h2.form
  obtain ⟨A3, c3, rfl, -⟩ := h3.form
  obtain ⟨A4, c4, rfl, -⟩ := h4.form
  have H5 := Lib.hid h5
  obtain ⟨A5, c5, rfl, l5, m5, hk5⟩ := h5.open_
  unfold maxLen at m5
  obtain ⟨A6, c6, rfl, -⟩ := h6.form
  have HF := Lib.hid hf
  have HFC : Hid (FitConfig y.config) := Lib.hid hf.1
  have H1 := Lib.hid h1
  have H2 := Lib.hid h2
  have H3 := Lib.hid h3
  have H4 := Lib.hid h4
  have H6 := Lib.hid h6
  have K5 := Lib.hid hk5
  have HSI := Lib.hid hs
  have HCO := Lib.hid hc
  have HI := Lib.hid hi
  have HD := Lib.hid hd
  have hd1 : (d : Int) < (y.tasks.length : Int) := by omega
  have hd0 : (0 : Int) ≤ (d : Int) := Int.natCast_nonneg _
  have HR := Lib.hid (find_right hc).1
  have HFW := Lib.hid (few_yard HR.out)
  clear hf h1 h2 h3 h4 h5 h6 hk5 hs hc hi
  simp only [cellsYard]
  go_enter Tryz.func55, Tryz.ntmps55
  go_upto_region 1 with (fail)
  obtain ⟨W, B, hW, hB, hx0, a0, b0, r0⟩ := boxes3 w #[.slice A1 y.config.nodes.length c1, .slice A2 y.config.pairs.length c2, .slice A3 y.config.quotas.length c3, .int .i64 y.config.half, .slice A4 y.nodes.length c4, .slice A5 y.tasks.length c5, .slice A6 y.uses.length c6, .int .i64 y.now] #[.int .i64 a.level, .int .i64 a.set] #[.slice none 0 0, .slice none 0 0, .slice none 0 0, .int .i64 0, .slice none 0 0, .slice none 0 0, .slice none 0 0, .int .i64 0, .int .i64 0, .int .i64 0] 44 49 46
  rw [← hW, ← hB]
  have HB : Hid (w.heap.size ≤ B + 1 + 1) := Lib.hid (by omega)
  have QA := Lib.hid a0
  have QB := Lib.hid b0
  have QR := Lib.hid r0
  have X := Lib.hid hx0
  clear hW hB hx0 a0 b0 r0
  have qa := QA.out.cell
  go_upto_region 2 with (go_at_call 84; (with_reducible refine (l13Copy_own (S := S) y _ _ (rel_Yard HF.out (H1.out.ext X.out) (H2.out.ext X.out) (H3.out.ext X.out) (H4.out.ext X.out) (H5.out.ext X.out) (H6.out.ext X.out)) HFW.out).mono ?_); rintro e w9 ⟨cs9, G9, rfl, ⟨u1, u2, u3, u4, u5, u6, G1, G2, G3, G4, G5, G6, rfl, -, o1, o2, o3, o4, o5, o6, hG, hn⟩, g9, hx9⟩; obtain ⟨p1, k1, rfl, -⟩ := OwS.form o1; obtain ⟨p2, k2, rfl, -⟩ := OwS.form o2; obtain ⟨p3, k3, rfl, -⟩ := OwS.form o3; obtain ⟨p4, k4, rfl, -⟩ := OwS.form o4; obtain ⟨p5, k5, rfl, -⟩ := OwS.form o5; obtain ⟨p6, k6, rfl, -⟩ := OwS.form o6; have O1 := Lib.hid o1; have O2 := Lib.hid o2; have O3 := Lib.hid o3; have O4 := Lib.hid o4; have O5 := Lib.hid o5; have O6 := Lib.hid o6; have HG := Lib.hid hG; have HN := Lib.hid hn; have Z9 := Lib.hid g9; have H9 := Lib.hid hx9; clear o1 o2 o3 o4 o5 o6 hG hn g9 hx9 qa; simp only [cellsYard])
  obtain ⟨W9, B9, hW9, hB9, hx9, b9⟩ : ∃ W B, W = w9.alloc (.cells #[.slice p1 y.config.nodes.length k1, .slice p2 y.config.pairs.length k2, .slice p3 y.config.quotas.length k3, .int .i64 y.config.half, .slice p4 y.nodes.length k4, .slice p5 y.tasks.length k5, .slice p6 y.uses.length k6, .int .i64 y.now] 44) ∧ B = w9.heap.size ∧ Ext w9 W ∧ Blk W B 44 #[.slice p1 y.config.nodes.length k1, .slice p2 y.config.pairs.length k2, .slice p3 y.config.quotas.length k3, .int .i64 y.config.half, .slice p4 y.nodes.length k4, .slice p5 y.tasks.length k5, .slice p6 y.uses.length k6, .int .i64 y.now] := ⟨_, _, rfl, rfl, (Ext.refl w9).alloc _, Blk.new _ _ _⟩
  rw [← hW9, ← hB9]
  have E9 := Lib.hid hB9
  have Q9 := Lib.hid b9
  have X9 := Lib.hid hx9
  clear hW9 hB9 hx9 b9
  have qa9 := (QA.out.ext (H9.out.trans X9.out)).cell
  have qb9 := (QB.out.ext (H9.out.trans X9.out)).cell
  go_upto_region 3 with (go_at_call 75; (with_reducible refine (l12At_any (S := S) y.tasks a n _ _ (H5.out.ext (X.out.trans (H9.out.trans X9.out)))).mono ?_); rintro e wz ⟨rfl, hxz⟩; rw [HI.out]; have XO : Hid (Ext w9 wz) := Lib.hid (X9.out.trans hxz); have QO := Lib.hid (Q9.out.ext hxz); clear hxz qa9 qb9)
  have RO := Lib.hid (QR.out.ext (H9.out.trans XO.out))
  obtain ⟨BT, cT5, w1v, w2v, w3v, hv5, hBF, hfz, t1, t2, t3, F5', p5o, hF5⟩ := turn_rows (s := s) (O5.out.ext XO.out) HD.out HSI.out
  injection hv5 with e1 _ e2
  subst e1 e2
  have HBF := Lib.hid hBF
  have P5 := Lib.hid p5o
  have HF5 := Lib.hid hF5
  have LT : Hid (BT < w9.heap.size) := Lib.hid (O5.out.lt BT hBF)
  have N9 : Hid (B9 ≠ BT) := Lib.hid (by have := E9.out; have := LT.out; omega)
  have GE : Hid (∀ b ∈ G1 ++ (G2 ++ (G3 ++ (G4 ++ (G5 ++ G6)))), W.heap.size ≤ b) := Lib.hid (by rw [← HG.out]; exact Z9.out)
  have NR : Hid (B + 1 + 1 ≠ BT) := Lib.hid (by have := GE.out BT (by simp [hBF]); have := QR.out.lt; omega)
  clear hBF p5o hF5
  have nb1 := N9.out
  have nb2 := Ne.symm N9.out
  have q9 := QO.out.cell
  go_upto_region 6 with (fail)
  clear hfz t1 t2 t3 q9 nb1 nb2
  obtain ⟨W10, hW10⟩ : ∃ V, V = wz.setCells BT (d * 14 + 11) [.int .i64 s, .int .i64 0, .slice none 0 0] := ⟨_, rfl⟩
  have KW : Hid (Kept [BT] wz W10) := Lib.hid (by rw [hW10]; exact Kept.setCells (by simp) _ _ _ (Kept.refl _ _))
  have PO : Hid (OwS OTask 87 W10 (.slice (some ⟨BT, 0, none⟩) y.tasks.length k5) (y.tasks.set d (withTask (nth y.tasks d) s)) F5') := Lib.hid (by rw [hW10]; exact P5.out)
  have hww : ((wz.setCell ⟨BT, d * 14 + 11, none⟩ (.int .i64 s)).setCell ⟨BT, d * 14 + 12, none⟩ (.int .i64 0)).setCell ⟨BT, d * 14 + 13, none⟩ (.slice none 0 0) = W10 := by rw [hW10]; rfl
  rw [hww]
  clear hww
  clear hW10
  have Q10 : Hid (Blk W10 B9 44 _) := Lib.hid ((KW.out.block B9 QO.out.lt (fun hm => N9.out (List.mem_singleton.1 hm))).trans QO.out)
  have R10 : Hid (Blk W10 (B + 1 + 1) 46 #[.slice none 0 0, .slice none 0 0, .slice none 0 0, .int .i64 0, .slice none 0 0, .slice none 0 0, .slice none 0 0, .int .i64 0, .int .i64 0, .int .i64 0]) := Lib.hid ((KW.out.block (B + 1 + 1) RO.out.lt (fun hm => NR.out (List.mem_singleton.1 hm))).trans RO.out)
  have q10 := Q10.out.cell
  go_wp2_with (refine wpList_store_mid rfl 46 _ _ rfl (B + 1 + 1) 0 (List.toArray [.slice p1 y.config.nodes.length k1, .slice p2 y.config.pairs.length k2, .slice p3 y.config.quotas.length k3, .int .i64 y.config.half, .slice p4 y.nodes.length k4, .slice (some ⟨BT, 0, none⟩) y.tasks.length k5, .slice p6 y.uses.length k6, .int .i64 y.now, .int .i64 0, .int .i64 0]) rfl rfl (Blk.there (t := 46) (cs := #[.slice none 0 0, .slice none 0 0, .slice none 0 0, .int .i64 0, .slice none 0 0, .slice none 0 0, .slice none 0 0, .int .i64 0, .int .i64 0, .int .i64 0]) R10.out) (by kernel_rfl) (all_oneCell_toArray (cs := [.slice p1 y.config.nodes.length k1, .slice p2 y.config.pairs.length k2, .slice p3 y.config.quotas.length k3, .int .i64 y.config.half, .slice p4 y.nodes.length k4, .slice (some ⟨BT, 0, none⟩) y.tasks.length k5, .slice p6 y.uses.length k6, .int .i64 y.now, .int .i64 0, .int .i64 0]) (by simp [Value.oneCell'])) ?_)
  have OW := own_turn HF.out (O1.out.ext XO.out) (O2.out.ext XO.out) (O3.out.ext XO.out) (O4.out.ext XO.out) (O6.out.ext XO.out) PO.out KW.out HBF.out (by rw [← HG.out]; exact HN.out) HF5.out
  have szR := QR.out.lt
  have szX := XO.out.size
  have far : ∀ b ∈ G1 ++ (G2 ++ (G3 ++ (G4 ++ (F5' ++ G6)))), b ∉ [B + 1 + 1] := fun b hb hm => by
    have := set_ge GE.out HF5.out (by have := H9.out.size; omega) b hb
    have := List.mem_singleton.1 hm
    omega
  exact bodyPost_ret (v := .agg (List.toArray [.slice p1 y.config.nodes.length k1, .slice p2 y.config.pairs.length k2, .slice p3 y.config.quotas.length k3, .int .i64 y.config.half, .slice p4 y.nodes.length k4, .slice (some ⟨BT, 0, none⟩) y.tasks.length k5, .slice p6 y.uses.length k6, .int .i64 y.now, .int .i64 0, .int .i64 0])) (results_blk Tryz.results55 rfl (Blk.setAll (t := 46) (cs := #[.slice none 0 0, .slice none 0 0, .slice none 0 0, .int .i64 0, .slice none 0 0, .slice none 0 0, .slice none 0 0, .int .i64 0, .int .i64 0, .int .i64 0]) (vs := List.toArray [.slice p1 y.config.nodes.length k1, .slice p2 y.config.pairs.length k2, .slice p3 y.config.quotas.length k3, .int .i64 y.config.half, .slice p4 y.nodes.length k4, .slice (some ⟨BT, 0, none⟩) y.tasks.length k5, .slice p6 y.uses.length k6, .int .i64 y.now, .int .i64 0, .int .i64 0]) R10.out rfl) Tryz.underlying46 rfl (by kernel_rfl)) rfl
    ⟨_, G1 ++ (G2 ++ (G3 ++ (G4 ++ (F5' ++ G6)))), rfl, ownk (own_out (y := setTask y d s) OW) (Kept.setCells (F := [B + 1 + 1]) (by simp) _ _ _ (Kept.refl _ _)) far,
      fun b hb => Nat.le_trans X.out.size (set_ge GE.out HF5.out (by have := H9.out.size; omega) b hb),
      setCells_ext HB.out _ _ _ (Kept.ext (X.out.trans (H9.out.trans XO.out)) KW.out (fun b hb => by rw [List.mem_singleton.1 hb]; exact Nat.le_trans X.out.size (GE.out BT (by simp [HBF.out]))))⟩
end Go.Proofs.YtngldifgcgblpaaGreat
