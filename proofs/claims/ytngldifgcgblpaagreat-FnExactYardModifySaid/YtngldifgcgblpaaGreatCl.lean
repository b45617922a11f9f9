/- What the laws YardModify need, and no others. Laid by wip/split.py. -/
import Derived.Test.YtngldifgcgblpaaGreatYardLb
import Derived.Test.YtngldifgcgblpaaGreatYardTs
import Derived.Test.YtngldifgcgblpaaGreatCa
import Derived.Test.YtngldifgcgblpaaGreatCb
import Derived.Test.YtngldifgcgblpaaGreatCc
namespace Go.Proofs.YtngldifgcgblpaaGreat
open Go.RowKit
attribute [local irreducible] wpQuiet
def workTask (x : Task) (need long prio : Int) : Task := ⟨x.label, x.id, x.owner, need, long, prio, x.under, x.after, x.born, x.state, x.start, x.nodes⟩
def modTask (x : Task) (need long prio : Int) : Task := withTask (workTask x need long prio) x.state
def idleB (s : Int) : Bool := decide (s = 1) || decide (s = 3)
/-- One task of a yard is another. -/
def putTask (y : Yard) (k : Nat) (x : Task) : Yard := ⟨y.config, y.nodes, y.tasks.set k x, y.uses, y.now⟩
def modY (y : Yard) (a : Label) (n need long prio : Int) : YardOut :=
  if yardRight y = false ∨ isWorkB need long prio = false then illY 1 else if findCode y a n ≠ 0 then illY (findCode y a n) else if idleB (nth y.tasks (taskIx y.tasks a n).toNat).state = false then illY 10 else if (manyOf y.config.nodes a : Int) < need then illY 11 else ⟨putTask y (taskIx y.tasks a n).toNat (modTask (nth y.tasks (taskIx y.tasks a n).toNat) need long prio), 0, 0⟩
theorem mod_form {y : Yard} {a : Label} {n need long prio : Int} (h : yardRight y = false ∨ isWorkB need long prio = false) : modY y a n need long prio = illY 1 := by rw [modY, if_pos h]
theorem mod_find {y : Yard} {a : Label} {n need long prio c : Int} (h : yardRight y = true) (g : isWorkB need long prio = true) (e : findCode y a n = c) (hc : ¬ c = 0) : modY y a n need long prio = illY c := by rw [modY, if_neg (by simp [h, g]), if_pos (by rw [e]; exact hc), e]
theorem mod_state {y : Yard} {a : Label} {n need long prio : Int} {d : Nat} (h : yardRight y = true) (g : isWorkB need long prio = true) (e : findCode y a n = 0) (hd : taskIx y.tasks a n = (d : Int)) (hs : idleB (nth y.tasks d).state = false) : modY y a n need long prio = illY 10 := by
  rw [modY, if_neg (by simp [h, g]), if_neg (by rw [e]; simp), hd, Int.toNat_natCast, if_pos hs]
theorem mod_label {y : Yard} {a : Label} {n need long prio : Int} {d : Nat} (h : yardRight y = true) (g : isWorkB need long prio = true) (e : findCode y a n = 0) (hd : taskIx y.tasks a n = (d : Int)) (hs : idleB (nth y.tasks d).state = true) (hm : (manyOf y.config.nodes a : Int) < need) : modY y a n need long prio = illY 11 := by
  rw [modY, if_neg (by simp [h, g]), if_neg (by rw [e]; simp), hd, Int.toNat_natCast, if_neg (by simp [hs]), if_pos hm]
theorem mod_done {y : Yard} {a : Label} {n need long prio : Int} {d : Nat} (h : yardRight y = true) (g : isWorkB need long prio = true) (e : findCode y a n = 0) (hd : taskIx y.tasks a n = (d : Int)) (hs : idleB (nth y.tasks d).state = true) (hm : ¬ (manyOf y.config.nodes a : Int) < need) : modY y a n need long prio = ⟨putTask y d (modTask (nth y.tasks d) need long prio), 0, 0⟩ := by
  rw [modY, if_neg (by simp [h, g]), if_neg (by rw [e]; simp), hd, Int.toNat_natCast, if_neg (by simp [hs]), if_neg hm]
theorem cnt_put {y : Yard} {k : Nat} {x : Task} (h : yardRight y = true) (hx : x.nodes = []) : 1 + ((cntsYardOut ⟨putTask y k x, 0, 0⟩ : Nat) : Int) ≤ 1125899906842624 := by
  obtain ⟨c1, c2, c3, c4, c5, c6⟩ := tight_yard h
  refine cnt_tight (o := ⟨putTask y k x, 0, 0⟩) c1 c2 c3 (by show (y.tasks.set _ _).length ≤ _; rw [List.length_set]; omega) (fun z hz => ?_) (by show y.uses.length ≤ _; omega)
  rcases List.mem_or_eq_of_mem_set hz with hz | rfl
  · exact c5 z hz
  · rw [hx]; exact Nat.zero_le _
theorem cnt_mod (y : Yard) (a : Label) (n need long prio : Int) : 1 + ((cntsYardOut (modY y a n need long prio) : Nat) : Int) ≤ 1125899906842624 := by
  unfold modY
  split
  · exact cnt_ill _
  split
  · exact cnt_ill _
  split
  · exact cnt_ill _
  split
  · exact cnt_ill _
  rename_i h1 h2 h3 h4
  exact cnt_put (by cases h : yardRight y <;> simp_all) rfl
theorem work_fit {need long prio : Int} (h : isWorkB need long prio = true) : I64 need ∧ I64 long ∧ I64 prio := by
  simp only [isWorkB, isB, Bool.and_eq_true, decide_eq_true_eq] at h
  unfold I64
  omega
theorem fit_work {x : Task} {need long prio : Int} (h : FitTask x) (h1 : I64 need) (h2 : I64 long) (h3 : I64 prio) : FitTask (workTask x need long prio) := by
  obtain ⟨e1, e2, e3, e4, e5, e6, e7, e8, e9, e10, e11, e12, e13⟩ := h
  exact ⟨e1, e2, e3, e4, h1, h2, h3, e8, e9, e10, e11, e12, e13⟩
theorem range_midY {w : World} {B o : Nat} {a b b' c : List Value} (h : w.rangeAt B o (a ++ (b ++ c))) (hb : b'.length = b.length) (ht : w.there B (o + a.length) b'.length) : (w.setCells B (o + a.length) b').rangeAt B o (a ++ (b' ++ c)) := by
  intro j u hj
  by_cases hlt : j < a.length
  · rw [World.cell?_setCells_out B b' (o + a.length) w ⟨B, o + j, none⟩ (fun _ _ => by simp only; omega)]
    rw [List.getElem?_append_left hlt] at hj
    exact h j u (by rw [List.getElem?_append_left hlt]; exact hj)
  · rw [List.getElem?_append_right (by omega)] at hj
    by_cases hlb : j - a.length < b'.length
    · rw [List.getElem?_append_left hlb] at hj
      have := World.rangeAt_setCells_same w B (o + a.length) b' ht (j - a.length) u hj
      rwa [show o + a.length + (j - a.length) = o + j by omega] at this
    · rw [List.getElem?_append_right (by omega)] at hj
      rw [World.cell?_setCells_out B b' (o + a.length) w ⟨B, o + j, none⟩ (fun _ _ => by simp only; omega)]
      exact h j u (by rw [List.getElem?_append_right (by omega), List.getElem?_append_right (by omega), ← hb]; exact hj)
set_option maxHeartbeats 2000000 in
theorem mod_rows {l : List Task} {v : Value} {F : List Nat} {w : World} {k : Nat} {need long prio : Int} (h : OwS OTask 87 w v l F) (hk : k < l.length) (h1 : I64 need) (h2 : I64 long) (h3 : I64 prio) :
    ∃ B c u1 u2 u3, v = .slice (some ⟨B, 0, none⟩) l.length c ∧ B ∈ F ∧ (∀ i, w.frozen? ⟨B, i, none⟩ = false) ∧ w.cell? ⟨B, k * 14 + 4, none⟩ = some u1 ∧ w.cell? ⟨B, k * 14 + 5, none⟩ = some u2 ∧ w.cell? ⟨B, k * 14 + 6, none⟩ = some u3 ∧
      ∃ F', OwS OTask 87 (w.setCells B (k * 14 + 4) [.int .i64 need, .int .i64 long, .int .i64 prio]) v (l.set k (workTask (nth l k) need long prio)) F' ∧ ∀ b ∈ F', b ∈ F ∨ w.heap.size ≤ b := by
  obtain ⟨B, c, G, cs, hv, hlc, hcm, hBF, hBG, hGF, ho, hc, hfz, hth, hrow, hset⟩ := h.at2 hk
  obtain ⟨u1, rfl, hfit, q1⟩ := ho
  refine ⟨B, c, _, _, _, hv, hBF, hfz, by simpa [ETask] using hc 4 _ rfl, by simpa [ETask] using hc 5 _ rfl, by simpa [ETask] using hc 6 _ rfl, ?_⟩
  refine hset _ (workTask (nth l k) need long prio) (cellsTask (workTask (nth l k) need long prio) u1) G (Kept.setCells (by simp) _ _ _ (Kept.refl _ _)) (RowBut.setCells _ _ _ hrow (by simp only [ETask]; omega) (by simp only [ETask, List.length_cons, List.length_nil]; omega)) ⟨_, rfl, fit_work hfit h1 h2 h3, q1.kept (G := [B]) (Kept.setCells (by simp) _ _ _ (Kept.refl _ _)) (fun b hb hm => hBG (by rw [← List.mem_singleton.1 hm]; exact hb))⟩ (fun b hb => .inl hb) ?_
  exact range_midY (a := [.int .i64 (nth l k).label.level, .int .i64 (nth l k).label.set, .int .i64 (nth l k).id, .string (nth l k).owner]) (b := [.int .i64 (nth l k).need, .int .i64 (nth l k).long, .int .i64 (nth l k).prio]) (c := [.int .i64 (nth l k).under.level, .int .i64 (nth l k).under.set, .int .i64 (nth l k).after, .int .i64 (nth l k).born, .int .i64 (nth l k).state, .int .i64 (nth l k).start, u1]) hc rfl (there_subY hth (by simp [ETask]))
/-- One task of a yard is another now, in memory that was the row's or is new. -/
theorem own_put5 {y : Yard} {k : Nat} {x : Task} {w w' : World} {v1 v2 v3 v4 v5 v6 : Value} {F1 F2 F3 F4 F5 F5' F6 : List Nat} {B : Nat} (hf : FitYard y)
    (o1 : OwS (ORow OLabel 49) 167 w v1 y.config.nodes F1) (o2 : OwS OPair 214 w v2 y.config.pairs F2) (o3 : OwS OQuota 205 w v3 y.config.quotas F3) (o4 : OwS ONode 151 w v4 y.nodes F4) (o6 : OwS OUse 155 w v6 y.uses F6)
    (p5 : OwS OTask 87 w' v5 (y.tasks.set k x) F5') (hk : Kept [B] w w') (hB : B ∈ F5) (hd : (F1 ++ (F2 ++ (F3 ++ (F4 ++ (F5 ++ F6))))).Nodup) (h5 : ∀ b ∈ F5', b ∈ F5 ∨ w.heap.size ≤ b) :
    OYard.own w' [v1, v2, v3, .int .i64 y.config.half, v4, v5, v6, .int .i64 y.now] (putTask y k x) (F1 ++ (F2 ++ (F3 ++ (F4 ++ (F5' ++ F6))))) := by
  have hd' : ((F1 ++ (F2 ++ (F3 ++ F4))) ++ (F5 ++ F6)).Nodup := by
    have h := hd
    simp only [List.append_assoc] at h ⊢
    exact h
  obtain ⟨_, h56, hAd⟩ := List.nodup_append.1 hd'
  obtain ⟨_, _, h56d⟩ := List.nodup_append.1 h56
  have far : ∀ b ∈ F1 ++ (F2 ++ (F3 ++ F4)), b ∉ [B] := fun b hb hm => hAd b hb B (List.mem_append_left _ hB) (List.mem_singleton.1 hm)
  have far6 : ∀ b ∈ F6, b ∉ [B] := fun b hb hm => h56d B hB b hb (List.mem_singleton.1 hm).symm
  have lA : ∀ b ∈ F1 ++ (F2 ++ (F3 ++ F4)), b < w.heap.size := fun b hb => by
    simp only [List.mem_append] at hb
    rcases hb with hb | hb | hb | hb
    · exact o1.lt b hb
    · exact o2.lt b hb
    · exact o3.lt b hb
    · exact o4.lt b hb
  have hn := nodup_swap hd' p5.nodup h5 lA o6.lt
  simp only [List.append_assoc] at hn
  exact ⟨_, _, _, _, _, _, F1, F2, F3, F4, F5', F6, rfl, hf, o1.kept hk (fun b hb => far b (by simp [hb])), o2.kept hk (fun b hb => far b (by simp [hb])), o3.kept hk (fun b hb => far b (by simp [hb])), o4.kept hk (fun b hb => far b (by simp [hb])), p5, o6.kept hk far6, rfl, hn⟩
theorem set_setT {l : List Task} {k : Nat} (hk : k < l.length) (x z : Task) (f : Task → Task) (h : f x = z) : (l.set k x).set k (f (nth (l.set k x) k)) = l.set k z := by
  rw [nth_eq (by rw [List.length_set]; exact hk), List.getElem_set_self, List.set_set, h]
/-- The numbers first, the state behind them: both in the same row of the task. -/
theorem mod_turn_rows {l : List Task} {v : Value} {F : List Nat} {w : World} {k : Nat} {need long prio : Int} (h : OwS OTask 87 w v l F) (hk : k < l.length) (h1 : I64 need) (h2 : I64 long) (h3 : I64 prio) (hs : I64 (nth l k).state) :
    ∃ B c u1 u2 u3 t1 t2 t3, v = .slice (some ⟨B, 0, none⟩) l.length c ∧ B ∈ F ∧ (∀ i, w.frozen? ⟨B, i, none⟩ = false) ∧ w.cell? ⟨B, k * 14 + 4, none⟩ = some u1 ∧ w.cell? ⟨B, k * 14 + 5, none⟩ = some u2 ∧ w.cell? ⟨B, k * 14 + 6, none⟩ = some u3 ∧
      (∀ i, (w.setCells B (k * 14 + 4) [.int .i64 need, .int .i64 long, .int .i64 prio]).frozen? ⟨B, i, none⟩ = false) ∧ (w.setCells B (k * 14 + 4) [.int .i64 need, .int .i64 long, .int .i64 prio]).cell? ⟨B, k * 14 + 11, none⟩ = some t1 ∧ (w.setCells B (k * 14 + 4) [.int .i64 need, .int .i64 long, .int .i64 prio]).cell? ⟨B, k * 14 + 12, none⟩ = some t2 ∧ (w.setCells B (k * 14 + 4) [.int .i64 need, .int .i64 long, .int .i64 prio]).cell? ⟨B, k * 14 + 13, none⟩ = some t3 ∧
      ∃ F', OwS OTask 87 ((w.setCells B (k * 14 + 4) [.int .i64 need, .int .i64 long, .int .i64 prio]).setCells B (k * 14 + 11) [.int .i64 (nth l k).state, .int .i64 0, .slice none 0 0]) v (l.set k (modTask (nth l k) need long prio)) F' ∧ ∀ b ∈ F', b ∈ F ∨ w.heap.size ≤ b := by
  obtain ⟨B, c, u1, u2, u3, hv, hBF, hfz, e1, e2, e3, F1, p1, hF1⟩ := mod_rows h hk h1 h2 h3
  obtain ⟨B', c', t1, t2, t3, hv', hBF', hfz', f1, f2, f3, F2, p2, hF2⟩ := turn_rows (s := (nth l k).state) (k := k) p1 (by rw [List.length_set]; exact hk) hs
  rw [hv] at hv'
  injection hv' with hb hl hc
  injection hb with hb
  injection hb with hb
  subst hb
  refine ⟨B, c, u1, u2, u3, t1, t2, t3, hv, hBF, hfz, e1, e2, e3, hfz', f1, f2, f3, F2, ?_, fun b hb => ?_⟩
  · rwa [set_setT hk (workTask (nth l k) need long prio) (modTask (nth l k) need long prio) (fun x => withTask x (nth l k).state) rfl] at p2
  · rcases hF2 b hb with h | h
    · exact hF1 b h
    · right; simpa using h
end Go.Proofs.YtngldifgcgblpaaGreat
namespace Go.Proofs.YtngldifgcgblpaaGreat
open Go.RowKit
attribute [local irreducible] wpQuiet
theorem mod_code {y : Yard} {a : Label} {n need long prio c : Int} (g : isWorkB need long prio = true) (e : findCode y a n = c) (hc : ¬ c = 0) : modY y a n need long prio = illY c := by
  cases h : yardRight y with
  | false => rw [mod_form (.inl h), ← e, find_form h]
  | true => exact mod_find h g e hc
set_option maxHeartbeats 32000000 in
set_option maxRecDepth 100000 in
theorem specYardModify_any {S : Nat → Prop} (y : Yard) (a : Label) (n need long prio : Int) (cs : List Value) (w : World) (h : EYard.rel S w cs y) :
    Calls Tryz.prog 29 #[.agg cs.toArray, .agg #[.int .i64 a.level, .int .i64 a.set], .int .i64 n, .int .i64 need, .int .i64 long, .int .i64 prio] w (RetOS OYardOut (modY y a n need long prio) w) := by
  obtain ⟨v1, v2, v3, v4, v5, v6, rfl, hf, h1, h2, h3, h4, h5, h6⟩ := h
  obtain ⟨A1, c1, rfl, -⟩ := h1.form
  obtain ⟨A2, c2, rfl, -⟩ := h2.form
  obtain ⟨A3, c3, rfl, -⟩ := h3.form
  obtain ⟨A4, c4, rfl, -⟩ := h4.form
  have H5 := Lib.hid h5
  obtain ⟨A5, c5, rfl, l5, m5, hk5⟩ := h5.open_
  unfold maxLen at m5
  obtain ⟨A6, c6, rfl, -⟩ := h6.form
  have HF := Lib.hid hf
  have HFC : Hid (FitConfig y.config) := Lib.hid hf.1
  have H1 := Lib.hid h1
  have H2 := Lib.hid h2
  have H3 := Lib.hid h3
  have H4 := Lib.hid h4
  have H6 := Lib.hid h6
  have K5 := Lib.hid hk5
  clear hf h1 h2 h3 h4 h5 h6 hk5
  simp only [cellsYard]
  obtain ⟨code, hco⟩ : ∃ c, findCode y a n = c := ⟨_, rfl⟩
  have HCO := Lib.hid hco
  have HCI : Hid (I64 code) := Lib.hid (by rw [← hco]; exact code_fit)
  clear hco
  obtain ⟨b1, hb1⟩ : ∃ b, isB need 1 6 = b := ⟨_, rfl⟩
  obtain ⟨b2, hb2⟩ : ∃ b, isB long 1 20 = b := ⟨_, rfl⟩
  obtain ⟨b3, hb3⟩ : ∃ b, isB prio 0 9 = b := ⟨_, rfl⟩
  have B1 := Lib.hid hb1
  have B2 := Lib.hid hb2
  have B3 := Lib.hid hb3
  have HW : Hid (isWorkB need long prio = (b1 && b2 && b3)) := Lib.hid (by unfold isWorkB; rw [hb1, hb2, hb3])
  clear hb1 hb2 hb3
  go_enter Tryz.func29, Tryz.ntmps29
  go_upto_region 1 with (fail)
  obtain ⟨W, B, hW, hB, hx0, a0, b0, r0⟩ := boxes3 w #[.slice A1 y.config.nodes.length c1, .slice A2 y.config.pairs.length c2, .slice A3 y.config.quotas.length c3, .int .i64 y.config.half, .slice A4 y.nodes.length c4, .slice A5 y.tasks.length c5, .slice A6 y.uses.length c6, .int .i64 y.now] #[.int .i64 a.level, .int .i64 a.set] #[.slice none 0 0, .slice none 0 0, .slice none 0 0, .int .i64 0, .slice none 0 0, .slice none 0 0, .slice none 0 0, .int .i64 0, .int .i64 0, .int .i64 0] 44 49 46
  rw [← hW, ← hB]
  have HB : Hid (w.heap.size ≤ B + 1 + 1) := Lib.hid (by omega)
  have QA := Lib.hid a0
  have QB := Lib.hid b0
  have QR := Lib.hid r0
  have X := Lib.hid hx0
  clear hW hB hx0 a0 b0 r0
  have qa := QA.out.cell
  have qb := QB.out.cell
  cases b1 with
  | false =>
    have HE : Hid (modY y a n need long prio = illY 1) := Lib.hid (mod_form (.inr (by rw [HW.out]; rfl)))
    go_upto_region 2 with (go_at_call 73; (with_reducible refine (l02Is_any _ _ _ _).mono ?_); rintro e ww ⟨rfl, rfl⟩; first | rw [B1.out] | rw [B2.out] | rw [B3.out])
    clear qa qb
    go_wp2_with (first | (go_at_call 52; (with_reducible refine (l13IllT_any _ _).mono ?_); rintro e w8 ⟨rfl, hx8⟩; have H8 := Lib.hid hx8; clear hx8) | refine wpList_store_mid rfl 46 _ _ rfl (B + 1 + 1) 0 #[.slice none 0 0, .slice none 0 0, .slice none 0 0, .int .i64 0, .slice none 0 0, .slice none 0 0, .slice none 0 0, .int .i64 0, .int .i64 0, .int .i64 1] rfl rfl (Blk.there (t := 46) (cs := #[.slice none 0 0, .slice none 0 0, .slice none 0 0, .int .i64 0, .slice none 0 0, .slice none 0 0, .slice none 0 0, .int .i64 0, .int .i64 0, .int .i64 0]) (QR.out.ext H8.out)) (by kernel_rfl) (all_oneCell_toArray (cs := [.slice none 0 0, .slice none 0 0, .slice none 0 0, .int .i64 0, .slice none 0 0, .slice none 0 0, .slice none 0 0, .int .i64 0, .int .i64 0, .int .i64 1]) (by simp [Value.oneCell'])) ?_)
    exact bodyPost_ret (v := .agg #[.slice none 0 0, .slice none 0 0, .slice none 0 0, .int .i64 0, .slice none 0 0, .slice none 0 0, .slice none 0 0, .int .i64 0, .int .i64 0, .int .i64 1]) (results_blk Tryz.results29 rfl (Blk.setAll (t := 46) (cs := #[.slice none 0 0, .slice none 0 0, .slice none 0 0, .int .i64 0, .slice none 0 0, .slice none 0 0, .slice none 0 0, .int .i64 0, .int .i64 0, .int .i64 0]) (vs := #[.slice none 0 0, .slice none 0 0, .slice none 0 0, .int .i64 0, .slice none 0 0, .slice none 0 0, .slice none 0 0, .int .i64 0, .int .i64 0, .int .i64 1]) (QR.out.ext H8.out) rfl) Tryz.underlying46 rfl (by kernel_rfl)) rfl ⟨_, [], rfl, by rw [HE.out]; exact own_ill _ _ (by unfold I64; decide), fun b hb => absurd hb (by simp), setCells_ext HB.out _ _ _ (X.out.trans H8.out)⟩
  | true =>
    cases b2 with
    | false =>
      have HE : Hid (modY y a n need long prio = illY 1) := Lib.hid (mod_form (.inr (by rw [HW.out]; rfl)))
      go_upto_region 2 with (go_at_call 73; (with_reducible refine (l02Is_any _ _ _ _).mono ?_); rintro e ww ⟨rfl, rfl⟩; first | rw [B1.out] | rw [B2.out] | rw [B3.out])
      clear qa qb
      go_wp2_with (first | (go_at_call 52; (with_reducible refine (l13IllT_any _ _).mono ?_); rintro e w8 ⟨rfl, hx8⟩; have H8 := Lib.hid hx8; clear hx8) | refine wpList_store_mid rfl 46 _ _ rfl (B + 1 + 1) 0 #[.slice none 0 0, .slice none 0 0, .slice none 0 0, .int .i64 0, .slice none 0 0, .slice none 0 0, .slice none 0 0, .int .i64 0, .int .i64 0, .int .i64 1] rfl rfl (Blk.there (t := 46) (cs := #[.slice none 0 0, .slice none 0 0, .slice none 0 0, .int .i64 0, .slice none 0 0, .slice none 0 0, .slice none 0 0, .int .i64 0, .int .i64 0, .int .i64 0]) (QR.out.ext H8.out)) (by kernel_rfl) (all_oneCell_toArray (cs := [.slice none 0 0, .slice none 0 0, .slice none 0 0, .int .i64 0, .slice none 0 0, .slice none 0 0, .slice none 0 0, .int .i64 0, .int .i64 0, .int .i64 1]) (by simp [Value.oneCell'])) ?_)
      exact bodyPost_ret (v := .agg #[.slice none 0 0, .slice none 0 0, .slice none 0 0, .int .i64 0, .slice none 0 0, .slice none 0 0, .slice none 0 0, .int .i64 0, .int .i64 0, .int .i64 1]) (results_blk Tryz.results29 rfl (Blk.setAll (t := 46) (cs := #[.slice none 0 0, .slice none 0 0, .slice none 0 0, .int .i64 0, .slice none 0 0, .slice none 0 0, .slice none 0 0, .int .i64 0, .int .i64 0, .int .i64 0]) (vs := #[.slice none 0 0, .slice none 0 0, .slice none 0 0, .int .i64 0, .slice none 0 0, .slice none 0 0, .slice none 0 0, .int .i64 0, .int .i64 0, .int .i64 1]) (QR.out.ext H8.out) rfl) Tryz.underlying46 rfl (by kernel_rfl)) rfl ⟨_, [], rfl, by rw [HE.out]; exact own_ill _ _ (by unfold I64; decide), fun b hb => absurd hb (by simp), setCells_ext HB.out _ _ _ (X.out.trans H8.out)⟩
    | true =>
      cases b3 with
      | false =>
        have HE : Hid (modY y a n need long prio = illY 1) := Lib.hid (mod_form (.inr (by rw [HW.out]; rfl)))
        go_upto_region 2 with (go_at_call 73; (with_reducible refine (l02Is_any _ _ _ _).mono ?_); rintro e ww ⟨rfl, rfl⟩; first | rw [B1.out] | rw [B2.out] | rw [B3.out])
        clear qa qb
        go_wp2_with (first | (go_at_call 52; (with_reducible refine (l13IllT_any _ _).mono ?_); rintro e w8 ⟨rfl, hx8⟩; have H8 := Lib.hid hx8; clear hx8) | refine wpList_store_mid rfl 46 _ _ rfl (B + 1 + 1) 0 #[.slice none 0 0, .slice none 0 0, .slice none 0 0, .int .i64 0, .slice none 0 0, .slice none 0 0, .slice none 0 0, .int .i64 0, .int .i64 0, .int .i64 1] rfl rfl (Blk.there (t := 46) (cs := #[.slice none 0 0, .slice none 0 0, .slice none 0 0, .int .i64 0, .slice none 0 0, .slice none 0 0, .slice none 0 0, .int .i64 0, .int .i64 0, .int .i64 0]) (QR.out.ext H8.out)) (by kernel_rfl) (all_oneCell_toArray (cs := [.slice none 0 0, .slice none 0 0, .slice none 0 0, .int .i64 0, .slice none 0 0, .slice none 0 0, .slice none 0 0, .int .i64 0, .int .i64 0, .int .i64 1]) (by simp [Value.oneCell'])) ?_)
        exact bodyPost_ret (v := .agg #[.slice none 0 0, .slice none 0 0, .slice none 0 0, .int .i64 0, .slice none 0 0, .slice none 0 0, .slice none 0 0, .int .i64 0, .int .i64 0, .int .i64 1]) (results_blk Tryz.results29 rfl (Blk.setAll (t := 46) (cs := #[.slice none 0 0, .slice none 0 0, .slice none 0 0, .int .i64 0, .slice none 0 0, .slice none 0 0, .slice none 0 0, .int .i64 0, .int .i64 0, .int .i64 0]) (vs := #[.slice none 0 0, .slice none 0 0, .slice none 0 0, .int .i64 0, .slice none 0 0, .slice none 0 0, .slice none 0 0, .int .i64 0, .int .i64 0, .int .i64 1]) (QR.out.ext H8.out) rfl) Tryz.underlying46 rfl (by kernel_rfl)) rfl ⟨_, [], rfl, by rw [HE.out]; exact own_ill _ _ (by unfold I64; decide), fun b hb => absurd hb (by simp), setCells_ext HB.out _ _ _ (X.out.trans H8.out)⟩
      | true =>
        have HWT : Hid (isWorkB need long prio = true) := Lib.hid (by rw [HW.out]; rfl)
        have NI := Lib.hid (work_fit HWT.out)
        by_cases hz : code = 0
        case neg =>
          have HE : Hid (modY y a n need long prio = illY code) := Lib.hid (mod_code HWT.out HCO.out hz)
          go_upto_region 5 with (first | (go_at_call 73; (with_reducible refine (l02Is_any _ _ _ _).mono ?_); rintro e ww ⟨rfl, rfl⟩; first | rw [B1.out] | rw [B2.out] | rw [B3.out]) | (go_at_call 51; (with_reducible refine (l13Code_any (S := S) y _ a n _ (rel_Yard HF.out (H1.out.ext X.out) (H2.out.ext X.out) (H3.out.ext X.out) (H4.out.ext X.out) (H5.out.ext X.out) (H6.out.ext X.out)) _ HCO.out).mono ?_); rintro e w7 ⟨rfl, hx7⟩; replace X := Lib.hid (X.out.trans hx7); replace QA := Lib.hid (QA.out.ext hx7); replace QB := Lib.hid (QB.out.ext hx7); replace QR := Lib.hid (QR.out.ext hx7); clear hx7 qa qb; have qa := QA.out.cell; have qb := QB.out.cell))
          clear hz qa qb
          go_wp2_with (first | (go_at_call 52; (with_reducible refine (l13IllT_any _ _).mono ?_); rintro e w8 ⟨rfl, hx8⟩; have H8 := Lib.hid hx8; clear hx8) | refine wpList_store_mid rfl 46 _ _ rfl (B + 1 + 1) 0 #[.slice none 0 0, .slice none 0 0, .slice none 0 0, .int .i64 0, .slice none 0 0, .slice none 0 0, .slice none 0 0, .int .i64 0, .int .i64 0, .int .i64 code] rfl rfl (Blk.there (t := 46) (cs := #[.slice none 0 0, .slice none 0 0, .slice none 0 0, .int .i64 0, .slice none 0 0, .slice none 0 0, .slice none 0 0, .int .i64 0, .int .i64 0, .int .i64 0]) (QR.out.ext H8.out)) (by kernel_rfl) (all_oneCell_toArray (cs := [.slice none 0 0, .slice none 0 0, .slice none 0 0, .int .i64 0, .slice none 0 0, .slice none 0 0, .slice none 0 0, .int .i64 0, .int .i64 0, .int .i64 code]) (by simp [Value.oneCell'])) ?_)
          exact bodyPost_ret (v := .agg #[.slice none 0 0, .slice none 0 0, .slice none 0 0, .int .i64 0, .slice none 0 0, .slice none 0 0, .slice none 0 0, .int .i64 0, .int .i64 0, .int .i64 code]) (results_blk Tryz.results29 rfl (Blk.setAll (t := 46) (cs := #[.slice none 0 0, .slice none 0 0, .slice none 0 0, .int .i64 0, .slice none 0 0, .slice none 0 0, .slice none 0 0, .int .i64 0, .int .i64 0, .int .i64 0]) (vs := #[.slice none 0 0, .slice none 0 0, .slice none 0 0, .int .i64 0, .slice none 0 0, .slice none 0 0, .slice none 0 0, .int .i64 0, .int .i64 0, .int .i64 code]) (QR.out.ext H8.out) rfl) Tryz.underlying46 rfl (by kernel_rfl)) rfl ⟨_, [], rfl, by rw [HE.out]; exact own_ill _ _ (by exact HCI.out), fun b hb => absurd hb (by simp), setCells_ext HB.out _ _ _ (X.out.trans H8.out)⟩
        case pos =>
          subst hz
          obtain ⟨d, hd, hi⟩ := find_ix HCO.out
          have HI := Lib.hid hi
          have HD := Lib.hid hd
          have HR := Lib.hid (find_right HCO.out).1
          have HSF : Hid (I64 (nth y.tasks d).state) := Lib.hid (by obtain ⟨b, o, cs, _, _, ⟨vt, _, hft, _⟩, _⟩ := K5.out d hd; exact hft.2.2.2.2.2.2.2.2.2.2.2.1)
          have HTO : Hid (taskOf y.tasks a n = nth y.tasks d) := Lib.hid (by rw [taskOf, if_pos (right_tasks (find_right HCO.out).1), hi, if_pos (Int.natCast_nonneg _), Int.toNat_natCast])
          have hd1 : (d : Int) < (y.tasks.length : Int) := by omega
          have hd0 : (0 : Int) ≤ (d : Int) := Int.natCast_nonneg _
          clear hi hd
          go_upto_region 7 with (first | (go_at_call 73; (with_reducible refine (l02Is_any _ _ _ _).mono ?_); rintro e ww ⟨rfl, rfl⟩; first | rw [B1.out] | rw [B2.out] | rw [B3.out]) | (go_at_call 51; (with_reducible refine (l13Code_any (S := S) y _ a n _ (rel_Yard HF.out (H1.out.ext X.out) (H2.out.ext X.out) (H3.out.ext X.out) (H4.out.ext X.out) (H5.out.ext X.out) (H6.out.ext X.out)) _ HCO.out).mono ?_); rintro e w7 ⟨rfl, hx7⟩; replace X := Lib.hid (X.out.trans hx7); replace QA := Lib.hid (QA.out.ext hx7); replace QB := Lib.hid (QB.out.ext hx7); replace QR := Lib.hid (QR.out.ext hx7); clear hx7 qa qb; have qa := QA.out.cell; have qb := QB.out.cell) | (go_at_call 54; (with_reducible refine (specTaskOf_any (S := S) y.tasks a n _ _ (H5.out.ext X.out)).mono ?_); rintro e wt ⟨cst, Ft, rfl, ot, -, hxt⟩; rw [HTO.out] at ot; obtain ⟨ut, rfl, -, qt⟩ := ot; obtain ⟨pt, kt, rfl, -⟩ := OwS.form qt; replace X := Lib.hid (X.out.trans hxt); replace QA := Lib.hid (QA.out.ext hxt); replace QB := Lib.hid (QB.out.ext hxt); replace QR := Lib.hid (QR.out.ext hxt); clear hxt qa qb; have qa := QA.out.cell; have qb := QB.out.cell; have qaa := fun ob : Obj => (QA.out.ext ((Ext.refl _).alloc ob)).cell; clear qt; simp only [cellsTask]))
          obtain ⟨WT, B7, hWT, hB7, hxT, b7⟩ : ∃ V B, V = wt.alloc (.cells #[.int .i64 (nth y.tasks d).label.level, .int .i64 (nth y.tasks d).label.set, .int .i64 (nth y.tasks d).id, .string (nth y.tasks d).owner, .int .i64 (nth y.tasks d).need, .int .i64 (nth y.tasks d).long, .int .i64 (nth y.tasks d).prio, .int .i64 (nth y.tasks d).under.level, .int .i64 (nth y.tasks d).under.set, .int .i64 (nth y.tasks d).after, .int .i64 (nth y.tasks d).born, .int .i64 (nth y.tasks d).state, .int .i64 (nth y.tasks d).start, .slice pt (nth y.tasks d).nodes.length kt] 87) ∧ B = wt.heap.size ∧ Ext wt V ∧ Blk V B 87 #[.int .i64 (nth y.tasks d).label.level, .int .i64 (nth y.tasks d).label.set, .int .i64 (nth y.tasks d).id, .string (nth y.tasks d).owner, .int .i64 (nth y.tasks d).need, .int .i64 (nth y.tasks d).long, .int .i64 (nth y.tasks d).prio, .int .i64 (nth y.tasks d).under.level, .int .i64 (nth y.tasks d).under.set, .int .i64 (nth y.tasks d).after, .int .i64 (nth y.tasks d).born, .int .i64 (nth y.tasks d).state, .int .i64 (nth y.tasks d).start, .slice pt (nth y.tasks d).nodes.length kt] := ⟨_, _, rfl, rfl, (Ext.refl wt).alloc _, Blk.new _ _ _⟩
          rw [← hWT, ← hB7]
          clear hWT hB7 qa qb qaa
          replace X := Lib.hid (X.out.trans hxT)
          replace QA := Lib.hid (QA.out.ext hxT)
          replace QB := Lib.hid (QB.out.ext hxT)
          replace QR := Lib.hid (QR.out.ext hxT)
          have Q7 := Lib.hid b7
          clear hxT b7
          have qa := QA.out.cell
          have qb := QB.out.cell
          have q7 := Q7.out.cell
          obtain ⟨m, hmm⟩ : ∃ m, idleB (nth y.tasks d).state = m := ⟨_, rfl⟩
          have MM := Lib.hid hmm
          clear hmm
          cases m with
          | false =>
            have HE : Hid (modY y a n need long prio = illY 10) := Lib.hid (mod_state HR.out HWT.out HCO.out HI.out MM.out)
            have s1 : ((nth y.tasks d).state != 1) = true := by have := MM.out; simp [idleB] at this; simp [this.1]
            have s3 : ((nth y.tasks d).state != 3) = true := by have := MM.out; simp [idleB] at this; simp [this.2]
            go_upto_region 8 with (fail)
            clear s1 s3 qa qb q7
            go_wp2_with (first | (go_at_call 52; (with_reducible refine (l13IllT_any _ _).mono ?_); rintro e w8 ⟨rfl, hx8⟩; have H8 := Lib.hid hx8; clear hx8) | refine wpList_store_mid rfl 46 _ _ rfl (B + 1 + 1) 0 #[.slice none 0 0, .slice none 0 0, .slice none 0 0, .int .i64 0, .slice none 0 0, .slice none 0 0, .slice none 0 0, .int .i64 0, .int .i64 0, .int .i64 10] rfl rfl (Blk.there (t := 46) (cs := #[.slice none 0 0, .slice none 0 0, .slice none 0 0, .int .i64 0, .slice none 0 0, .slice none 0 0, .slice none 0 0, .int .i64 0, .int .i64 0, .int .i64 0]) (QR.out.ext H8.out)) (by kernel_rfl) (all_oneCell_toArray (cs := [.slice none 0 0, .slice none 0 0, .slice none 0 0, .int .i64 0, .slice none 0 0, .slice none 0 0, .slice none 0 0, .int .i64 0, .int .i64 0, .int .i64 10]) (by simp [Value.oneCell'])) ?_)
            exact bodyPost_ret (v := .agg #[.slice none 0 0, .slice none 0 0, .slice none 0 0, .int .i64 0, .slice none 0 0, .slice none 0 0, .slice none 0 0, .int .i64 0, .int .i64 0, .int .i64 10]) (results_blk Tryz.results29 rfl (Blk.setAll (t := 46) (cs := #[.slice none 0 0, .slice none 0 0, .slice none 0 0, .int .i64 0, .slice none 0 0, .slice none 0 0, .slice none 0 0, .int .i64 0, .int .i64 0, .int .i64 0]) (vs := #[.slice none 0 0, .slice none 0 0, .slice none 0 0, .int .i64 0, .slice none 0 0, .slice none 0 0, .slice none 0 0, .int .i64 0, .int .i64 0, .int .i64 10]) (QR.out.ext H8.out) rfl) Tryz.underlying46 rfl (by kernel_rfl)) rfl ⟨_, [], rfl, by rw [HE.out]; exact own_ill _ _ (by unfold I64; decide), fun b hb => absurd hb (by simp), setCells_ext HB.out _ _ _ (X.out.trans H8.out)⟩
          | true =>
            have hs : (nth y.tasks d).state = 1 ∨ (nth y.tasks d).state = 3 := by have := MM.out; simpa [idleB] using this
            have HSS := Lib.hid hs
            clear hs
            go_cut [51] (fun v wx => v = .bool false ∧ wx = WT)
            case first =>
              rcases HSS.out with hs | hs
              · go_wp2_with fail
                go_meet
                exact ⟨rfl, rfl⟩
              · go_wp2_with fail
                go_meet
                exact ⟨rfl, rfl⟩
            case rest =>
              obtain ⟨rfl, rfl⟩ := hcut
              obtain ⟨z, hzz⟩ : ∃ z, ((manyOf y.config.nodes a : Nat) : Int) = z := ⟨_, rfl⟩
              have HZ := Lib.hid hzz
              clear hzz
              by_cases hzn : z < need
              · have HE : Hid (modY y a n need long prio = illY 11) := Lib.hid (mod_label HR.out HWT.out HCO.out HI.out MM.out (by rw [HZ.out]; exact hzn))
                go_upto_region 10 with (go_at_call 74; (with_reducible refine (l13Clear_any (S := S) y.config _ a _ (rel_Config HFC.out (H1.out.ext X.out) (H2.out.ext X.out) (H3.out.ext X.out))).mono ?_); rintro e wl ⟨rfl, hxl⟩; rw [HZ.out]; replace X := Lib.hid (X.out.trans hxl); replace QA := Lib.hid (QA.out.ext hxl); replace QB := Lib.hid (QB.out.ext hxl); replace QR := Lib.hid (QR.out.ext hxl); replace Q7 := Lib.hid (Q7.out.ext hxl); clear hxl q7 qa qb; have qa := QA.out.cell; have qb := QB.out.cell; have q7 := Q7.out.cell)
                clear hzn qa qb q7
                go_wp2_with (first | (go_at_call 52; (with_reducible refine (l13IllT_any _ _).mono ?_); rintro e w8 ⟨rfl, hx8⟩; have H8 := Lib.hid hx8; clear hx8) | refine wpList_store_mid rfl 46 _ _ rfl (B + 1 + 1) 0 #[.slice none 0 0, .slice none 0 0, .slice none 0 0, .int .i64 0, .slice none 0 0, .slice none 0 0, .slice none 0 0, .int .i64 0, .int .i64 0, .int .i64 11] rfl rfl (Blk.there (t := 46) (cs := #[.slice none 0 0, .slice none 0 0, .slice none 0 0, .int .i64 0, .slice none 0 0, .slice none 0 0, .slice none 0 0, .int .i64 0, .int .i64 0, .int .i64 0]) (QR.out.ext H8.out)) (by kernel_rfl) (all_oneCell_toArray (cs := [.slice none 0 0, .slice none 0 0, .slice none 0 0, .int .i64 0, .slice none 0 0, .slice none 0 0, .slice none 0 0, .int .i64 0, .int .i64 0, .int .i64 11]) (by simp [Value.oneCell'])) ?_)
                exact bodyPost_ret (v := .agg #[.slice none 0 0, .slice none 0 0, .slice none 0 0, .int .i64 0, .slice none 0 0, .slice none 0 0, .slice none 0 0, .int .i64 0, .int .i64 0, .int .i64 11]) (results_blk Tryz.results29 rfl (Blk.setAll (t := 46) (cs := #[.slice none 0 0, .slice none 0 0, .slice none 0 0, .int .i64 0, .slice none 0 0, .slice none 0 0, .slice none 0 0, .int .i64 0, .int .i64 0, .int .i64 0]) (vs := #[.slice none 0 0, .slice none 0 0, .slice none 0 0, .int .i64 0, .slice none 0 0, .slice none 0 0, .slice none 0 0, .int .i64 0, .int .i64 0, .int .i64 11]) (QR.out.ext H8.out) rfl) Tryz.underlying46 rfl (by kernel_rfl)) rfl ⟨_, [], rfl, by rw [HE.out]; exact own_ill _ _ (by unfold I64; decide), fun b hb => absurd hb (by simp), setCells_ext HB.out _ _ _ (X.out.trans H8.out)⟩
              · have HE : Hid (modY y a n need long prio = ⟨putTask y d (modTask (nth y.tasks d) need long prio), 0, 0⟩) := Lib.hid (mod_done HR.out HWT.out HCO.out HI.out MM.out (by rw [HZ.out]; exact hzn))
                go_upto_region 12 with (first | (go_at_call 74; (with_reducible refine (l13Clear_any (S := S) y.config _ a _ (rel_Config HFC.out (H1.out.ext X.out) (H2.out.ext X.out) (H3.out.ext X.out))).mono ?_); rintro e wl ⟨rfl, hxl⟩; rw [HZ.out]; replace X := Lib.hid (X.out.trans hxl); replace QA := Lib.hid (QA.out.ext hxl); replace QB := Lib.hid (QB.out.ext hxl); replace QR := Lib.hid (QR.out.ext hxl); replace Q7 := Lib.hid (Q7.out.ext hxl); clear hxl q7 qa qb; have qa := QA.out.cell; have qb := QB.out.cell; have q7 := Q7.out.cell) | (go_at_call 55; (with_reducible refine (l13Turn_any (S := S) y _ a n (nth y.tasks d).state d _ (rel_Yard HF.out (H1.out.ext X.out) (H2.out.ext X.out) (H3.out.ext X.out) (H4.out.ext X.out) (H5.out.ext X.out) (H6.out.ext X.out)) HSF.out HCO.out HD.out HI.out).mono ?_); rintro e w8 ⟨cs8, F8, rfl, ⟨u1, u2, u3, u4, u5, u6, G1, G2, G3, G4, G5, G6, rfl, -, o1, o2, o3, o4, o5, o6, hG, hn⟩, g8, hx8⟩; obtain ⟨p1, k1, rfl, -⟩ := OwS.form o1; obtain ⟨p2, k2, rfl, -⟩ := OwS.form o2; obtain ⟨p3, k3, rfl, -⟩ := OwS.form o3; obtain ⟨p4, k4, rfl, -⟩ := OwS.form o4; obtain ⟨p5, k5, rfl, -⟩ := OwS.form o5; obtain ⟨p6, k6, rfl, -⟩ := OwS.form o6; have O1 : Hid (OwS (ORow OLabel 49) 167 w8 (.slice p1 y.config.nodes.length k1) y.config.nodes G1) := Lib.hid o1; have O2 : Hid (OwS OPair 214 w8 (.slice p2 y.config.pairs.length k2) y.config.pairs G2) := Lib.hid o2; have O3 : Hid (OwS OQuota 205 w8 (.slice p3 y.config.quotas.length k3) y.config.quotas G3) := Lib.hid o3; have O4 : Hid (OwS ONode 151 w8 (.slice p4 y.nodes.length k4) y.nodes G4) := Lib.hid o4; have O5 : Hid (OwS OTask 87 w8 (.slice p5 (y.tasks.set d (withTask (nth y.tasks d) (nth y.tasks d).state)).length k5) (y.tasks.set d (withTask (nth y.tasks d) (nth y.tasks d).state)) G5) := Lib.hid o5; have O6 : Hid (OwS OUse 155 w8 (.slice p6 y.uses.length k6) y.uses G6) := Lib.hid o6; have HG := Lib.hid hG; have HN := Lib.hid hn; have Z9 := Lib.hid g8; have H9 := Lib.hid hx8; clear o1 o2 o3 o4 o5 o6 hG hn g8 hx8 qa qb q7; simp only [cellsYardOut, setTask, List.length_set]))
                clear hzn
                obtain ⟨W9, B9, hW9, hB9, hx9, b9⟩ : ∃ W B, W = w8.alloc (.cells (List.toArray [.slice p1 y.config.nodes.length k1, .slice p2 y.config.pairs.length k2, .slice p3 y.config.quotas.length k3, .int .i64 y.config.half, .slice p4 y.nodes.length k4, .slice p5 y.tasks.length k5, .slice p6 y.uses.length k6, .int .i64 y.now, .int .i64 0, .int .i64 0]) 46) ∧ B = w8.heap.size ∧ Ext w8 W ∧ Blk W B 46 (List.toArray [.slice p1 y.config.nodes.length k1, .slice p2 y.config.pairs.length k2, .slice p3 y.config.quotas.length k3, .int .i64 y.config.half, .slice p4 y.nodes.length k4, .slice p5 y.tasks.length k5, .slice p6 y.uses.length k6, .int .i64 y.now, .int .i64 0, .int .i64 0]) := ⟨_, _, rfl, rfl, (Ext.refl w8).alloc _, Blk.new _ _ _⟩
                rw [← hW9, ← hB9]
                have E9 := Lib.hid hB9
                have Q9 := Lib.hid b9
                have X9 := Lib.hid hx9
                clear hW9 hB9 hx9 b9
                have qa9 := (QA.out.ext (H9.out.trans X9.out)).cell
                have qb9 := (QB.out.ext (H9.out.trans X9.out)).cell
                go_upto_region 13 with (go_at_call 75; (with_reducible refine (l12At_any (S := S) y.tasks a n _ _ (H5.out.ext (X.out.trans (H9.out.trans X9.out)))).mono ?_); rintro e wz ⟨rfl, hxz⟩; rw [HI.out]; have XO : Hid (Ext w8 wz) := Lib.hid (X9.out.trans hxz); have QO := Lib.hid (Q9.out.ext hxz); clear hxz qa9 qb9)
                have RO := Lib.hid (QR.out.ext (H9.out.trans XO.out))
                obtain ⟨BT, cT5, w1v, w2v, w3v, hv5, hBF, hfz, t1, t2, t3, F5', p5o, hF5⟩ := mod_rows (need := need) (long := long) (prio := prio) (O5.out.ext XO.out) (k := d) (by rw [List.length_set]; exact HD.out) NI.out.1 NI.out.2.1 NI.out.2.2
                injection hv5 with e1 _ e2
                subst e1 e2
                rw [set_setT HD.out (withTask (nth y.tasks d) (nth y.tasks d).state) (modTask (nth y.tasks d) need long prio) (fun x => workTask x need long prio) rfl, List.length_set] at p5o
                have HBF := Lib.hid hBF
                have P5 := Lib.hid p5o
                have HF5 := Lib.hid hF5
                have LT : Hid (BT < w8.heap.size) := Lib.hid (O5.out.lt BT hBF)
                have N9 : Hid (B9 ≠ BT) := Lib.hid (by have := E9.out; have := LT.out; omega)
                have GE : Hid (∀ b ∈ G1 ++ (G2 ++ (G3 ++ (G4 ++ (G5 ++ G6)))), wl.heap.size ≤ b) := Lib.hid (by rw [← HG.out]; exact Z9.out)
                have NR : Hid (B + 1 + 1 ≠ BT) := Lib.hid (by have := GE.out BT (by simp [hBF]); have := QR.out.lt; omega)
                clear hBF p5o hF5
                have nb1 := N9.out
                have nb2 := Ne.symm N9.out
                have q9 := QO.out.cell
                go_upto_region 16 with (fail)
                clear hfz t1 t2 t3 q9 nb1 nb2
                obtain ⟨W10, hW10⟩ : ∃ V, V = wz.setCells BT (d * 14 + 4) [.int .i64 need, .int .i64 long, .int .i64 prio] := ⟨_, rfl⟩
                have KW : Hid (Kept [BT] wz W10) := Lib.hid (by rw [hW10]; exact Kept.setCells (by simp) _ _ _ (Kept.refl _ _))
                have PO : Hid (OwS OTask 87 W10 (.slice (some ⟨BT, 0, none⟩) y.tasks.length k5) (y.tasks.set d (modTask (nth y.tasks d) need long prio)) F5') := Lib.hid (by rw [hW10]; exact P5.out)
                have hww : ((wz.setCell ⟨BT, d * 14 + 4, none⟩ (.int .i64 need)).setCell ⟨BT, d * 14 + 5, none⟩ (.int .i64 long)).setCell ⟨BT, d * 14 + 6, none⟩ (.int .i64 prio) = W10 := by rw [hW10]; rfl
                rw [hww]
                clear hww hW10
                have Q10 : Hid (Blk W10 B9 46 _) := Lib.hid ((KW.out.block B9 QO.out.lt (fun hm => N9.out (List.mem_singleton.1 hm))).trans QO.out)
                have R10 : Hid (Blk W10 (B + 1 + 1) 46 #[.slice none 0 0, .slice none 0 0, .slice none 0 0, .int .i64 0, .slice none 0 0, .slice none 0 0, .slice none 0 0, .int .i64 0, .int .i64 0, .int .i64 0]) := Lib.hid ((KW.out.block (B + 1 + 1) RO.out.lt (fun hm => NR.out (List.mem_singleton.1 hm))).trans RO.out)
                have q10 := Q10.out.cell
                go_wp2_with (refine wpList_store_mid rfl 46 _ _ rfl (B + 1 + 1) 0 (List.toArray [.slice p1 y.config.nodes.length k1, .slice p2 y.config.pairs.length k2, .slice p3 y.config.quotas.length k3, .int .i64 y.config.half, .slice p4 y.nodes.length k4, .slice (some ⟨BT, 0, none⟩) y.tasks.length k5, .slice p6 y.uses.length k6, .int .i64 y.now, .int .i64 0, .int .i64 0]) rfl rfl (Blk.there (t := 46) (cs := #[.slice none 0 0, .slice none 0 0, .slice none 0 0, .int .i64 0, .slice none 0 0, .slice none 0 0, .slice none 0 0, .int .i64 0, .int .i64 0, .int .i64 0]) R10.out) (by kernel_rfl) (all_oneCell_toArray (cs := [.slice p1 y.config.nodes.length k1, .slice p2 y.config.pairs.length k2, .slice p3 y.config.quotas.length k3, .int .i64 y.config.half, .slice p4 y.nodes.length k4, .slice (some ⟨BT, 0, none⟩) y.tasks.length k5, .slice p6 y.uses.length k6, .int .i64 y.now, .int .i64 0, .int .i64 0]) (by simp [Value.oneCell'])) ?_)
                have OW := own_put5 HF.out (O1.out.ext XO.out) (O2.out.ext XO.out) (O3.out.ext XO.out) (O4.out.ext XO.out) (O6.out.ext XO.out) PO.out KW.out HBF.out (by rw [← HG.out]; exact HN.out) HF5.out
                have szR := QR.out.lt
                have szX := XO.out.size
                have far : ∀ b ∈ G1 ++ (G2 ++ (G3 ++ (G4 ++ (F5' ++ G6)))), b ∉ [B + 1 + 1] := fun b hb hm => by
                  have := set_ge GE.out HF5.out (by have := H9.out.size; omega) b hb
                  have := List.mem_singleton.1 hm
                  omega
                exact bodyPost_ret (v := .agg (List.toArray [.slice p1 y.config.nodes.length k1, .slice p2 y.config.pairs.length k2, .slice p3 y.config.quotas.length k3, .int .i64 y.config.half, .slice p4 y.nodes.length k4, .slice (some ⟨BT, 0, none⟩) y.tasks.length k5, .slice p6 y.uses.length k6, .int .i64 y.now, .int .i64 0, .int .i64 0])) (results_blk Tryz.results29 rfl (Blk.setAll (t := 46) (cs := #[.slice none 0 0, .slice none 0 0, .slice none 0 0, .int .i64 0, .slice none 0 0, .slice none 0 0, .slice none 0 0, .int .i64 0, .int .i64 0, .int .i64 0]) (vs := List.toArray [.slice p1 y.config.nodes.length k1, .slice p2 y.config.pairs.length k2, .slice p3 y.config.quotas.length k3, .int .i64 y.config.half, .slice p4 y.nodes.length k4, .slice (some ⟨BT, 0, none⟩) y.tasks.length k5, .slice p6 y.uses.length k6, .int .i64 y.now, .int .i64 0, .int .i64 0]) R10.out rfl) Tryz.underlying46 rfl (by kernel_rfl)) rfl
                  ⟨_, G1 ++ (G2 ++ (G3 ++ (G4 ++ (F5' ++ G6)))), rfl, by rw [HE.out]; exact ownk (own_out (y := putTask y d (modTask (nth y.tasks d) need long prio)) OW) (Kept.setCells (F := [B + 1 + 1]) (by simp) _ _ _ (Kept.refl _ _)) far,
                    fun b hb => Nat.le_trans X.out.size (set_ge GE.out HF5.out (by have := H9.out.size; omega) b hb),
                    setCells_ext HB.out _ _ _ (Kept.ext (X.out.trans (H9.out.trans XO.out)) KW.out (fun b hb => by rw [List.mem_singleton.1 hb]; exact Nat.le_trans X.out.size (GE.out BT (by simp [HBF.out]))))⟩
set_option maxHeartbeats 32000000 in
set_option maxRecDepth 100000 in
theorem yardModify_any {S : Nat → Prop} (y : Yard) (a : Label) (n need long prio : Int) (cs : List Value) (w : World) (h : EYard.rel S w cs y) :
    Calls Tryz.prog 30 #[.agg cs.toArray, .agg #[.int .i64 a.level, .int .i64 a.set], .int .i64 n, .int .i64 need, .int .i64 long, .int .i64 prio] w (RetOS OYardOut (modY y a n need long prio) w) := by
  obtain ⟨v1, v2, v3, v4, v5, v6, rfl, hf, h1, h2, h3, h4, h5, h6⟩ := h
  obtain ⟨A1, c1, rfl, -⟩ := h1.form
  obtain ⟨A2, c2, rfl, -⟩ := h2.form
  obtain ⟨A3, c3, rfl, -⟩ := h3.form
  obtain ⟨A4, c4, rfl, -⟩ := h4.form
  have H5 := Lib.hid h5
  obtain ⟨A5, c5, rfl, l5, m5, hk5⟩ := h5.open_
  unfold maxLen at m5
  obtain ⟨A6, c6, rfl, -⟩ := h6.form
  have HF := Lib.hid hf
  have HFC : Hid (FitConfig y.config) := Lib.hid hf.1
  have H1 := Lib.hid h1
  have H2 := Lib.hid h2
  have H3 := Lib.hid h3
  have H4 := Lib.hid h4
  have H6 := Lib.hid h6
  have K5 := Lib.hid hk5
  clear hf h1 h2 h3 h4 h5 h6 hk5
  simp only [cellsYard]
  obtain ⟨code, hco⟩ : ∃ c, findCode y a n = c := ⟨_, rfl⟩
  have HCO := Lib.hid hco
  have HCI : Hid (I64 code) := Lib.hid (by rw [← hco]; exact code_fit)
  clear hco
  obtain ⟨t, ht⟩ : ∃ t, yardRight y = t := ⟨_, rfl⟩
  have T := Lib.hid ht
  obtain ⟨u, hu⟩ : ∃ u, isWorkB need long prio = u := ⟨_, rfl⟩
  have U := Lib.hid hu
  clear ht hu
  go_enter Tryz.func30, Tryz.ntmps30
  go_upto_region 1 with (fail)
  obtain ⟨W, B, hW, hB, hx0, a0, b0, r0⟩ := boxes3 w #[.slice A1 y.config.nodes.length c1, .slice A2 y.config.pairs.length c2, .slice A3 y.config.quotas.length c3, .int .i64 y.config.half, .slice A4 y.nodes.length c4, .slice A5 y.tasks.length c5, .slice A6 y.uses.length c6, .int .i64 y.now] #[.int .i64 a.level, .int .i64 a.set] #[.slice none 0 0, .slice none 0 0, .slice none 0 0, .int .i64 0, .slice none 0 0, .slice none 0 0, .slice none 0 0, .int .i64 0, .int .i64 0, .int .i64 0] 44 49 46
  rw [← hW, ← hB]
  have HB : Hid (w.heap.size ≤ B + 1 + 1) := Lib.hid (by omega)
  have QA := Lib.hid a0
  have QB := Lib.hid b0
  have QR := Lib.hid r0
  have X := Lib.hid hx0
  clear hW hB hx0 a0 b0 r0
  have qa := QA.out.cell
  have qb := QB.out.cell
  cases t with
  | false =>
    have HE : Hid (modY y a n need long prio = illY 1) := Lib.hid (mod_form (.inl T.out))
    go_upto_region 2 with (go_at_call 76; (with_reducible refine (yardRight_is (S := S) y _ _ (rel_Yard HF.out (H1.out.ext X.out) (H2.out.ext X.out) (H3.out.ext X.out) (H4.out.ext X.out) (H5.out.ext X.out) (H6.out.ext X.out)) _ T.out).mono ?_); rintro e w7 ⟨rfl, hx7⟩; replace X := Lib.hid (X.out.trans hx7); replace QA := Lib.hid (QA.out.ext hx7); replace QB := Lib.hid (QB.out.ext hx7); replace QR := Lib.hid (QR.out.ext hx7); clear hx7 qa qb; have qa := QA.out.cell; have qb := QB.out.cell)
    clear qa qb
    go_wp2_with (refine wpList_store_mid rfl 46 _ _ rfl (B + 1 + 1) 0 #[.slice none 0 0, .slice none 0 0, .slice none 0 0, .int .i64 0, .slice none 0 0, .slice none 0 0, .slice none 0 0, .int .i64 0, .int .i64 0, .int .i64 1] rfl rfl (Blk.there (t := 46) (cs := #[.slice none 0 0, .slice none 0 0, .slice none 0 0, .int .i64 0, .slice none 0 0, .slice none 0 0, .slice none 0 0, .int .i64 0, .int .i64 0, .int .i64 0]) QR.out) (by kernel_rfl) (all_oneCell_toArray (cs := [.slice none 0 0, .slice none 0 0, .slice none 0 0, .int .i64 0, .slice none 0 0, .slice none 0 0, .slice none 0 0, .int .i64 0, .int .i64 0, .int .i64 1]) (by simp [Value.oneCell'])) ?_)
    exact bodyPost_ret (v := .agg #[.slice none 0 0, .slice none 0 0, .slice none 0 0, .int .i64 0, .slice none 0 0, .slice none 0 0, .slice none 0 0, .int .i64 0, .int .i64 0, .int .i64 1]) (results_blk Tryz.results30 rfl (Blk.setAll (t := 46) (cs := #[.slice none 0 0, .slice none 0 0, .slice none 0 0, .int .i64 0, .slice none 0 0, .slice none 0 0, .slice none 0 0, .int .i64 0, .int .i64 0, .int .i64 0]) (vs := #[.slice none 0 0, .slice none 0 0, .slice none 0 0, .int .i64 0, .slice none 0 0, .slice none 0 0, .slice none 0 0, .int .i64 0, .int .i64 0, .int .i64 1]) QR.out rfl) Tryz.underlying46 rfl (by kernel_rfl)) rfl ⟨_, [], rfl, by rw [HE.out]; exact own_ill _ _ (by unfold I64; decide), fun b hb => absurd hb (by simp), setCells_ext HB.out _ _ _ X.out⟩
  | true =>
    cases u with
    | false =>
      have HE : Hid (modY y a n need long prio = illY 1) := Lib.hid (mod_form (.inr U.out))
      go_upto_region 2 with (first | (go_at_call 76; (with_reducible refine (yardRight_is (S := S) y _ _ (rel_Yard HF.out (H1.out.ext X.out) (H2.out.ext X.out) (H3.out.ext X.out) (H4.out.ext X.out) (H5.out.ext X.out) (H6.out.ext X.out)) _ T.out).mono ?_); rintro e w7 ⟨rfl, hx7⟩; replace X := Lib.hid (X.out.trans hx7); replace QA := Lib.hid (QA.out.ext hx7); replace QB := Lib.hid (QB.out.ext hx7); replace QR := Lib.hid (QR.out.ext hx7); clear hx7 qa qb; have qa := QA.out.cell; have qb := QB.out.cell) | (go_at_call 77; (with_reducible refine (isWork_any _ _ _ _).mono ?_); rintro e ww ⟨rfl, rfl⟩; rw [U.out]))
      clear qa qb
      go_wp2_with (refine wpList_store_mid rfl 46 _ _ rfl (B + 1 + 1) 0 #[.slice none 0 0, .slice none 0 0, .slice none 0 0, .int .i64 0, .slice none 0 0, .slice none 0 0, .slice none 0 0, .int .i64 0, .int .i64 0, .int .i64 1] rfl rfl (Blk.there (t := 46) (cs := #[.slice none 0 0, .slice none 0 0, .slice none 0 0, .int .i64 0, .slice none 0 0, .slice none 0 0, .slice none 0 0, .int .i64 0, .int .i64 0, .int .i64 0]) QR.out) (by kernel_rfl) (all_oneCell_toArray (cs := [.slice none 0 0, .slice none 0 0, .slice none 0 0, .int .i64 0, .slice none 0 0, .slice none 0 0, .slice none 0 0, .int .i64 0, .int .i64 0, .int .i64 1]) (by simp [Value.oneCell'])) ?_)
      exact bodyPost_ret (v := .agg #[.slice none 0 0, .slice none 0 0, .slice none 0 0, .int .i64 0, .slice none 0 0, .slice none 0 0, .slice none 0 0, .int .i64 0, .int .i64 0, .int .i64 1]) (results_blk Tryz.results30 rfl (Blk.setAll (t := 46) (cs := #[.slice none 0 0, .slice none 0 0, .slice none 0 0, .int .i64 0, .slice none 0 0, .slice none 0 0, .slice none 0 0, .int .i64 0, .int .i64 0, .int .i64 0]) (vs := #[.slice none 0 0, .slice none 0 0, .slice none 0 0, .int .i64 0, .slice none 0 0, .slice none 0 0, .slice none 0 0, .int .i64 0, .int .i64 0, .int .i64 1]) QR.out rfl) Tryz.underlying46 rfl (by kernel_rfl)) rfl ⟨_, [], rfl, by rw [HE.out]; exact own_ill _ _ (by unfold I64; decide), fun b hb => absurd hb (by simp), setCells_ext HB.out _ _ _ X.out⟩
    | true =>
      have NI := Lib.hid (work_fit U.out)
      by_cases hz : code = 0
      case neg =>
        have HE : Hid (modY y a n need long prio = illY code) := Lib.hid (mod_code U.out HCO.out hz)
        go_upto_region 5 with (first | (go_at_call 76; (with_reducible refine (yardRight_is (S := S) y _ _ (rel_Yard HF.out (H1.out.ext X.out) (H2.out.ext X.out) (H3.out.ext X.out) (H4.out.ext X.out) (H5.out.ext X.out) (H6.out.ext X.out)) _ T.out).mono ?_); rintro e w7 ⟨rfl, hx7⟩; replace X := Lib.hid (X.out.trans hx7); replace QA := Lib.hid (QA.out.ext hx7); replace QB := Lib.hid (QB.out.ext hx7); replace QR := Lib.hid (QR.out.ext hx7); clear hx7 qa qb; have qa := QA.out.cell; have qb := QB.out.cell) | (go_at_call 77; (with_reducible refine (isWork_any _ _ _ _).mono ?_); rintro e ww ⟨rfl, rfl⟩; rw [U.out]) | (go_at_call 78; (with_reducible refine (find_any (S := S) y _ a n _ (rel_Yard HF.out (H1.out.ext X.out) (H2.out.ext X.out) (H3.out.ext X.out) (H4.out.ext X.out) (H5.out.ext X.out) (H6.out.ext X.out)) code _ HCO.out rfl).mono ?_); rintro e w7 ⟨rfl, hx7⟩; replace X := Lib.hid (X.out.trans hx7); replace QA := Lib.hid (QA.out.ext hx7); replace QB := Lib.hid (QB.out.ext hx7); replace QR := Lib.hid (QR.out.ext hx7); clear hx7 qa qb; have qa := QA.out.cell; have qb := QB.out.cell))
        clear hz qa qb
        go_wp2_with (refine wpList_store_mid rfl 46 _ _ rfl (B + 1 + 1) 0 #[.slice none 0 0, .slice none 0 0, .slice none 0 0, .int .i64 0, .slice none 0 0, .slice none 0 0, .slice none 0 0, .int .i64 0, .int .i64 0, .int .i64 code] rfl rfl (Blk.there (t := 46) (cs := #[.slice none 0 0, .slice none 0 0, .slice none 0 0, .int .i64 0, .slice none 0 0, .slice none 0 0, .slice none 0 0, .int .i64 0, .int .i64 0, .int .i64 0]) QR.out) (by kernel_rfl) (all_oneCell_toArray (cs := [.slice none 0 0, .slice none 0 0, .slice none 0 0, .int .i64 0, .slice none 0 0, .slice none 0 0, .slice none 0 0, .int .i64 0, .int .i64 0, .int .i64 code]) (by simp [Value.oneCell'])) ?_)
        exact bodyPost_ret (v := .agg #[.slice none 0 0, .slice none 0 0, .slice none 0 0, .int .i64 0, .slice none 0 0, .slice none 0 0, .slice none 0 0, .int .i64 0, .int .i64 0, .int .i64 code]) (results_blk Tryz.results30 rfl (Blk.setAll (t := 46) (cs := #[.slice none 0 0, .slice none 0 0, .slice none 0 0, .int .i64 0, .slice none 0 0, .slice none 0 0, .slice none 0 0, .int .i64 0, .int .i64 0, .int .i64 0]) (vs := #[.slice none 0 0, .slice none 0 0, .slice none 0 0, .int .i64 0, .slice none 0 0, .slice none 0 0, .slice none 0 0, .int .i64 0, .int .i64 0, .int .i64 code]) QR.out rfl) Tryz.underlying46 rfl (by kernel_rfl)) rfl ⟨_, [], rfl, by rw [HE.out]; exact own_ill _ _ (by exact HCI.out), fun b hb => absurd hb (by simp), setCells_ext HB.out _ _ _ X.out⟩
      case pos =>
        subst hz
        obtain ⟨d, hd, hi⟩ := find_ix HCO.out
        have HI := Lib.hid hi
        have HKI : Hid ((if (0 : Int) = 0 then taskIx y.tasks a n else 0) = (d : Int)) := Lib.hid (by rw [if_pos rfl, hi])
        have HD := Lib.hid hd
        have HR := Lib.hid (find_right HCO.out).1
        have HFW := Lib.hid (few_yard HR.out)
        have HNL : Hid (y.config.nodes.length ≤ 6) := Lib.hid (clear_length (config_clear (right_config HR.out))).2
        have hd1 : (d : Int) < (y.tasks.length : Int) := by omega
        have hd0 : (0 : Int) ≤ (d : Int) := Int.natCast_nonneg _
        clear hi
        go_upto_region 6 with (first | (go_at_call 76; (with_reducible refine (yardRight_is (S := S) y _ _ (rel_Yard HF.out (H1.out.ext X.out) (H2.out.ext X.out) (H3.out.ext X.out) (H4.out.ext X.out) (H5.out.ext X.out) (H6.out.ext X.out)) _ T.out).mono ?_); rintro e w7 ⟨rfl, hx7⟩; replace X := Lib.hid (X.out.trans hx7); replace QA := Lib.hid (QA.out.ext hx7); replace QB := Lib.hid (QB.out.ext hx7); replace QR := Lib.hid (QR.out.ext hx7); clear hx7 qa qb; have qa := QA.out.cell; have qb := QB.out.cell) | (go_at_call 77; (with_reducible refine (isWork_any _ _ _ _).mono ?_); rintro e ww ⟨rfl, rfl⟩; rw [U.out]) | (go_at_call 78; (with_reducible refine (find_any (S := S) y _ a n _ (rel_Yard HF.out (H1.out.ext X.out) (H2.out.ext X.out) (H3.out.ext X.out) (H4.out.ext X.out) (H5.out.ext X.out) (H6.out.ext X.out)) 0 (d : Int) HCO.out ((if_pos rfl).trans HI.out)).mono ?_); rintro e w7 ⟨rfl, hx7⟩; replace X := Lib.hid (X.out.trans hx7); replace QA := Lib.hid (QA.out.ext hx7); replace QB := Lib.hid (QB.out.ext hx7); replace QR := Lib.hid (QR.out.ext hx7); clear hx7 qa qb; have qa := QA.out.cell; have qb := QB.out.cell))
        obtain ⟨b, o, cs, rfl, _, ⟨vt, rfl, hft, hrt⟩, hc⟩ := K5.out d hd
        obtain ⟨AT, cT, rfl, -⟩ := hrt.form
        have hxx := X.out
        have z0 := Ext.some hxx (hc 0 _ rfl)
        have z1 := Ext.some hxx (hc 1 _ rfl)
        have z2 := Ext.some hxx (hc 2 _ rfl)
        have z3 := Ext.some hxx (hc 3 _ rfl)
        have z4 := Ext.some hxx (hc 4 _ rfl)
        have z5 := Ext.some hxx (hc 5 _ rfl)
        have z6 := Ext.some hxx (hc 6 _ rfl)
        have z7 := Ext.some hxx (hc 7 _ rfl)
        have z8 := Ext.some hxx (hc 8 _ rfl)
        have z9 := Ext.some hxx (hc 9 _ rfl)
        have z10 := Ext.some hxx (hc 10 _ rfl)
        have z11 := Ext.some hxx (hc 11 _ rfl)
        have z12 := Ext.some hxx (hc 12 _ rfl)
        have z13 := Ext.some hxx (hc 13 _ rfl)
        simp only [ETask, Nat.add_zero] at z0 z1 z2 z3 z4 z5 z6 z7 z8 z9 z10 z11 z12 z13
        have HSF : Hid (I64 (nth y.tasks d).state) := Lib.hid (hft.2.2.2.2.2.2.2.2.2.2.2.1)
        clear hc hft hrt hxx hd z0 z1 z2 z3 z4 z5 z6 z7 z8 z9 z10 z12 z13
        obtain ⟨st, hst⟩ : ∃ s, (nth y.tasks d).state = s := ⟨_, rfl⟩
        rw [hst] at z11
        have HST := Lib.hid hst
        clear hst
        obtain ⟨m, hmm⟩ : ∃ m, idleB (nth y.tasks d).state = m := ⟨_, rfl⟩
        have MM := Lib.hid hmm
        have MS : Hid (idleB st = m) := Lib.hid (by rw [← HST.out]; exact hmm)
        clear hmm
        cases m with
        | false =>
          have HE : Hid (modY y a n need long prio = illY 10) := Lib.hid (mod_state HR.out U.out HCO.out HI.out MM.out)
          have s1 : (st != 1) = true := by have := MS.out; simp [idleB] at this; simp [this.1]
          have s3 : (st != 3) = true := by have := MS.out; simp [idleB] at this; simp [this.2]
          go_upto_region 8 with (fail)
          clear s1 s3 qa qb z11
          go_wp2_with (refine wpList_store_mid rfl 46 _ _ rfl (B + 1 + 1) 0 #[.slice none 0 0, .slice none 0 0, .slice none 0 0, .int .i64 0, .slice none 0 0, .slice none 0 0, .slice none 0 0, .int .i64 0, .int .i64 0, .int .i64 10] rfl rfl (Blk.there (t := 46) (cs := #[.slice none 0 0, .slice none 0 0, .slice none 0 0, .int .i64 0, .slice none 0 0, .slice none 0 0, .slice none 0 0, .int .i64 0, .int .i64 0, .int .i64 0]) QR.out) (by kernel_rfl) (all_oneCell_toArray (cs := [.slice none 0 0, .slice none 0 0, .slice none 0 0, .int .i64 0, .slice none 0 0, .slice none 0 0, .slice none 0 0, .int .i64 0, .int .i64 0, .int .i64 10]) (by simp [Value.oneCell'])) ?_)
          exact bodyPost_ret (v := .agg #[.slice none 0 0, .slice none 0 0, .slice none 0 0, .int .i64 0, .slice none 0 0, .slice none 0 0, .slice none 0 0, .int .i64 0, .int .i64 0, .int .i64 10]) (results_blk Tryz.results30 rfl (Blk.setAll (t := 46) (cs := #[.slice none 0 0, .slice none 0 0, .slice none 0 0, .int .i64 0, .slice none 0 0, .slice none 0 0, .slice none 0 0, .int .i64 0, .int .i64 0, .int .i64 0]) (vs := #[.slice none 0 0, .slice none 0 0, .slice none 0 0, .int .i64 0, .slice none 0 0, .slice none 0 0, .slice none 0 0, .int .i64 0, .int .i64 0, .int .i64 10]) QR.out rfl) Tryz.underlying46 rfl (by kernel_rfl)) rfl ⟨_, [], rfl, by rw [HE.out]; exact own_ill _ _ (by unfold I64; decide), fun b hb => absurd hb (by simp), setCells_ext HB.out _ _ _ X.out⟩
        | true =>
          have hs : st = 1 ∨ st = 3 := by have := MS.out; simpa [idleB] using this
          obtain ⟨n0, hn0⟩ : ∃ n0, (clearOf y.config.nodes a y.config.nodes.length).length = n0 := ⟨_, rfl⟩
          have HZN := Lib.hid hn0
          clear hn0
          rcases hs with rfl | rfl
          all_goals
            by_cases hzn : (n0 : Int) < need
            · have HE : Hid (modY y a n need long prio = illY 11) := Lib.hid (mod_label HR.out U.out HCO.out HI.out MM.out (by unfold manyOf; rw [HZN.out]; exact hzn))
              go_upto_region 10 with (go_at_call 79; (with_reducible refine (clearForC_any (S := S) y.config _ a _ (rel_Config HFC.out (H1.out.ext X.out) (H2.out.ext X.out) (H3.out.ext X.out)) HNL.out).mono ?_); rintro e wl ⟨v8, F8, rfl, o8, -, hxl⟩; obtain ⟨A8, c8, rfl, -⟩ := o8.form; rw [HZN.out]; replace X := Lib.hid (X.out.trans hxl); replace QA := Lib.hid (QA.out.ext hxl); replace QB := Lib.hid (QB.out.ext hxl); replace QR := Lib.hid (QR.out.ext hxl); clear hxl qa qb; have qa := QA.out.cell; have qb := QB.out.cell; clear o8)
              clear hzn qa qb
              go_wp2_with (refine wpList_store_mid rfl 46 _ _ rfl (B + 1 + 1) 0 #[.slice none 0 0, .slice none 0 0, .slice none 0 0, .int .i64 0, .slice none 0 0, .slice none 0 0, .slice none 0 0, .int .i64 0, .int .i64 0, .int .i64 11] rfl rfl (Blk.there (t := 46) (cs := #[.slice none 0 0, .slice none 0 0, .slice none 0 0, .int .i64 0, .slice none 0 0, .slice none 0 0, .slice none 0 0, .int .i64 0, .int .i64 0, .int .i64 0]) QR.out) (by kernel_rfl) (all_oneCell_toArray (cs := [.slice none 0 0, .slice none 0 0, .slice none 0 0, .int .i64 0, .slice none 0 0, .slice none 0 0, .slice none 0 0, .int .i64 0, .int .i64 0, .int .i64 11]) (by simp [Value.oneCell'])) ?_)
              exact bodyPost_ret (v := .agg #[.slice none 0 0, .slice none 0 0, .slice none 0 0, .int .i64 0, .slice none 0 0, .slice none 0 0, .slice none 0 0, .int .i64 0, .int .i64 0, .int .i64 11]) (results_blk Tryz.results30 rfl (Blk.setAll (t := 46) (cs := #[.slice none 0 0, .slice none 0 0, .slice none 0 0, .int .i64 0, .slice none 0 0, .slice none 0 0, .slice none 0 0, .int .i64 0, .int .i64 0, .int .i64 0]) (vs := #[.slice none 0 0, .slice none 0 0, .slice none 0 0, .int .i64 0, .slice none 0 0, .slice none 0 0, .slice none 0 0, .int .i64 0, .int .i64 0, .int .i64 11]) QR.out rfl) Tryz.underlying46 rfl (by kernel_rfl)) rfl ⟨_, [], rfl, by rw [HE.out]; exact own_ill _ _ (by unfold I64; decide), fun b hb => absurd hb (by simp), setCells_ext HB.out _ _ _ X.out⟩
            · have HE : Hid (modY y a n need long prio = ⟨putTask y d (modTask (nth y.tasks d) need long prio), 0, 0⟩) := Lib.hid (mod_done HR.out U.out HCO.out HI.out MM.out (by unfold manyOf; rw [HZN.out]; exact hzn))
              go_upto_region 12 with (first | (go_at_call 79; (with_reducible refine (clearForC_any (S := S) y.config _ a _ (rel_Config HFC.out (H1.out.ext X.out) (H2.out.ext X.out) (H3.out.ext X.out)) HNL.out).mono ?_); rintro e wl ⟨v8, F8, rfl, o8, -, hxl⟩; obtain ⟨A8, c8, rfl, -⟩ := o8.form; rw [HZN.out]; replace X := Lib.hid (X.out.trans hxl); replace QA := Lib.hid (QA.out.ext hxl); replace QB := Lib.hid (QB.out.ext hxl); replace QR := Lib.hid (QR.out.ext hxl); clear hxl qa qb; have qa := QA.out.cell; have qb := QB.out.cell; clear o8) | (go_at_call 80; (with_reducible refine (copyYard_own (S := S) y _ _ (rel_Yard HF.out (H1.out.ext X.out) (H2.out.ext X.out) (H3.out.ext X.out) (H4.out.ext X.out) (H5.out.ext X.out) (H6.out.ext X.out)) HFW.out).mono ?_); rintro e w9 ⟨cs9, G9, rfl, ⟨u1, u2, u3, u4, u5, u6, G1, G2, G3, G4, G5, G6, rfl, -, o1, o2, o3, o4, o5, o6, hG, hn⟩, g9, hx9⟩; obtain ⟨p1, k1, rfl, -⟩ := OwS.form o1; obtain ⟨p2, k2, rfl, -⟩ := OwS.form o2; obtain ⟨p3, k3, rfl, -⟩ := OwS.form o3; obtain ⟨p4, k4, rfl, -⟩ := OwS.form o4; obtain ⟨p5, k5, rfl, -⟩ := OwS.form o5; obtain ⟨p6, k6, rfl, -⟩ := OwS.form o6; have O1 := Lib.hid o1; have O2 := Lib.hid o2; have O3 := Lib.hid o3; have O4 := Lib.hid o4; have O5 := Lib.hid o5; have O6 := Lib.hid o6; have HG := Lib.hid hG; have HN := Lib.hid hn; have Z9 := Lib.hid g9; have H9 := Lib.hid hx9; clear o1 o2 o3 o4 o5 o6 hG hn g9 hx9 qa qb; simp only [cellsYard]))
              clear hzn z11
              obtain ⟨W9, B9, hW9, hB9, hx9, b9⟩ : ∃ W B, W = w9.alloc (.cells (List.toArray [.slice p1 y.config.nodes.length k1, .slice p2 y.config.pairs.length k2, .slice p3 y.config.quotas.length k3, .int .i64 y.config.half, .slice p4 y.nodes.length k4, .slice p5 y.tasks.length k5, .slice p6 y.uses.length k6, .int .i64 y.now]) 44) ∧ B = w9.heap.size ∧ Ext w9 W ∧ Blk W B 44 (List.toArray [.slice p1 y.config.nodes.length k1, .slice p2 y.config.pairs.length k2, .slice p3 y.config.quotas.length k3, .int .i64 y.config.half, .slice p4 y.nodes.length k4, .slice p5 y.tasks.length k5, .slice p6 y.uses.length k6, .int .i64 y.now]) := ⟨_, _, rfl, rfl, (Ext.refl w9).alloc _, Blk.new _ _ _⟩
              rw [← hW9, ← hB9]
              have E9 := Lib.hid hB9
              have Q9 := Lib.hid b9
              have XO := Lib.hid hx9
              clear hW9 hB9 hx9 b9
              have RO := Lib.hid (QR.out.ext (H9.out.trans XO.out))
              obtain ⟨BT, cT5, w1v, w2v, w3v, x1v, x2v, x3v, hv5, hBF, hfz, t1, t2, t3, hfy, y1, y2, y3, F5', p5o, hF5⟩ := mod_turn_rows (need := need) (long := long) (prio := prio) (O5.out.ext XO.out) HD.out NI.out.1 NI.out.2.1 NI.out.2.2 HSF.out
              injection hv5 with e1 _ e2
              subst e1 e2
              have HBF := Lib.hid hBF
              have P5 := Lib.hid p5o
              have HF5 := Lib.hid hF5
              have LT : Hid (BT < w9.heap.size) := Lib.hid (O5.out.lt BT hBF)
              have N9 : Hid (B9 ≠ BT) := Lib.hid (by have := E9.out; have := LT.out; omega)
              have GE : Hid (∀ b ∈ G1 ++ (G2 ++ (G3 ++ (G4 ++ (G5 ++ G6)))), wl.heap.size ≤ b) := Lib.hid (by rw [← HG.out]; exact Z9.out)
              have NR : Hid (B + 1 + 1 ≠ BT) := Lib.hid (by have := GE.out BT (by simp [hBF]); have := QR.out.lt; omega)
              have HFY := Lib.hid hfy
              have Y1 := Lib.hid y1
              have Y2 := Lib.hid y2
              have Y3 := Lib.hid y3
              clear hBF p5o hF5 hfy y1 y2 y3
              have q9 := Q9.out.cell
              go_upto_region 14 with (fail)
              clear hfz t1 t2 t3 q9
              obtain ⟨WA, hWA⟩ : ∃ V, V = W9.setCells BT (d * 14 + 4) [.int .i64 need, .int .i64 long, .int .i64 prio] := ⟨_, rfl⟩
              have hww : ((W9.setCell ⟨BT, d * 14 + 4, none⟩ (.int .i64 need)).setCell ⟨BT, d * 14 + 5, none⟩ (.int .i64 long)).setCell ⟨BT, d * 14 + 6, none⟩ (.int .i64 prio) = WA := by rw [hWA]; rfl
              rw [hww]
              have KA : Hid (Kept [BT] W9 WA) := Lib.hid (by rw [hWA]; exact Kept.setCells (by simp) _ _ _ (Kept.refl _ _))
              rw [← hWA] at P5 HFY Y1 Y2 Y3
              clear hww hWA
              have QOA := Lib.hid ((KA.out.block B9 Q9.out.lt (fun hm => N9.out (List.mem_singleton.1 hm))).trans Q9.out)
              have qoa := QOA.out
              go_upto_region 15 with (go_at_call 81; (with_reducible refine (clearY_any BT (d * 14) _ _ _ _ _ HFY.out Y1.out Y2.out Y3.out).mono ?_); rintro e w10 ⟨rfl, rfl⟩; clear qoa)
              rw [← HST.out]
              obtain ⟨W10, hW10⟩ : ∃ V, V = WA.setCells BT (d * 14 + 11) [.int .i64 (nth y.tasks d).state, .int .i64 0, .slice none 0 0] := ⟨_, rfl⟩
              have KW : Hid (Kept [BT] W9 W10) := Lib.hid (by rw [hW10]; exact Kept.setCells (by simp) _ _ _ KA.out)
              have PO : Hid (OwS OTask 87 W10 (.slice (some ⟨BT, 0, none⟩) y.tasks.length k5) (y.tasks.set d (modTask (nth y.tasks d) need long prio)) F5') := Lib.hid (by rw [hW10]; exact P5.out)
              rw [← hW10]
              clear hW10
              have Q10 : Hid (Blk W10 B9 44 _) := Lib.hid ((KW.out.block B9 Q9.out.lt (fun hm => N9.out (List.mem_singleton.1 hm))).trans Q9.out)
              have R10 : Hid (Blk W10 (B + 1 + 1) 46 #[.slice none 0 0, .slice none 0 0, .slice none 0 0, .int .i64 0, .slice none 0 0, .slice none 0 0, .slice none 0 0, .int .i64 0, .int .i64 0, .int .i64 0]) := Lib.hid ((KW.out.block (B + 1 + 1) RO.out.lt (fun hm => NR.out (List.mem_singleton.1 hm))).trans RO.out)
              have q10 := Q10.out.cell
              go_wp2_with (refine wpList_store_mid rfl 46 _ _ rfl (B + 1 + 1) 0 (List.toArray [.slice p1 y.config.nodes.length k1, .slice p2 y.config.pairs.length k2, .slice p3 y.config.quotas.length k3, .int .i64 y.config.half, .slice p4 y.nodes.length k4, .slice (some ⟨BT, 0, none⟩) y.tasks.length k5, .slice p6 y.uses.length k6, .int .i64 y.now, .int .i64 0, .int .i64 0]) rfl rfl (Blk.there (t := 46) (cs := #[.slice none 0 0, .slice none 0 0, .slice none 0 0, .int .i64 0, .slice none 0 0, .slice none 0 0, .slice none 0 0, .int .i64 0, .int .i64 0, .int .i64 0]) R10.out) (by kernel_rfl) (all_oneCell_toArray (cs := [.slice p1 y.config.nodes.length k1, .slice p2 y.config.pairs.length k2, .slice p3 y.config.quotas.length k3, .int .i64 y.config.half, .slice p4 y.nodes.length k4, .slice (some ⟨BT, 0, none⟩) y.tasks.length k5, .slice p6 y.uses.length k6, .int .i64 y.now, .int .i64 0, .int .i64 0]) (by simp [Value.oneCell'])) ?_)
              have OW := own_put5 HF.out (O1.out.ext XO.out) (O2.out.ext XO.out) (O3.out.ext XO.out) (O4.out.ext XO.out) (O6.out.ext XO.out) PO.out KW.out HBF.out (by rw [← HG.out]; exact HN.out) HF5.out
              have szR := QR.out.lt
              have szX := XO.out.size
              have far : ∀ b ∈ G1 ++ (G2 ++ (G3 ++ (G4 ++ (F5' ++ G6)))), b ∉ [B + 1 + 1] := fun b hb hm => by
                have := set_ge GE.out HF5.out (by have := H9.out.size; omega) b hb
                have := List.mem_singleton.1 hm
                omega
              exact bodyPost_ret (v := .agg (List.toArray [.slice p1 y.config.nodes.length k1, .slice p2 y.config.pairs.length k2, .slice p3 y.config.quotas.length k3, .int .i64 y.config.half, .slice p4 y.nodes.length k4, .slice (some ⟨BT, 0, none⟩) y.tasks.length k5, .slice p6 y.uses.length k6, .int .i64 y.now, .int .i64 0, .int .i64 0])) (results_blk Tryz.results30 rfl (Blk.setAll (t := 46) (cs := #[.slice none 0 0, .slice none 0 0, .slice none 0 0, .int .i64 0, .slice none 0 0, .slice none 0 0, .slice none 0 0, .int .i64 0, .int .i64 0, .int .i64 0]) (vs := List.toArray [.slice p1 y.config.nodes.length k1, .slice p2 y.config.pairs.length k2, .slice p3 y.config.quotas.length k3, .int .i64 y.config.half, .slice p4 y.nodes.length k4, .slice (some ⟨BT, 0, none⟩) y.tasks.length k5, .slice p6 y.uses.length k6, .int .i64 y.now, .int .i64 0, .int .i64 0]) R10.out rfl) Tryz.underlying46 rfl (by kernel_rfl)) rfl
                ⟨_, G1 ++ (G2 ++ (G3 ++ (G4 ++ (F5' ++ G6)))), rfl, by rw [HE.out]; exact ownk (own_out (y := putTask y d (modTask (nth y.tasks d) need long prio)) OW) (Kept.setCells (F := [B + 1 + 1]) (by simp) _ _ _ (Kept.refl _ _)) far,
                  fun b hb => Nat.le_trans X.out.size (set_ge GE.out HF5.out (by have := H9.out.size; omega) b hb),
                  setCells_ext HB.out _ _ _ (Kept.ext (X.out.trans (H9.out.trans XO.out)) KW.out (fun b hb => by rw [List.mem_singleton.1 hb]; exact Nat.le_trans X.out.size (GE.out BT (by simp [HBF.out]))))⟩
end Go.Proofs.YtngldifgcgblpaaGreat
