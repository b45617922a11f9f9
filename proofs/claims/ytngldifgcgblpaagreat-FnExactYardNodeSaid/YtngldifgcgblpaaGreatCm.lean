/- What the laws YardNode need, and no others. Laid by wip/split.py. -/
import Derived.Test.YtngldifgcgblpaaGreatNodes
import Derived.Test.YtngldifgcgblpaaGreatOwn2
import Derived.Test.YtngldifgcgblpaaGreatClones
import Derived.Deep.RegionHeld3
import Derived.Test.YtngldifgcgblpaaGreatYardLb
import Derived.Test.YtngldifgcgblpaaGreatNodeC
import Derived.Test.YtngldifgcgblpaaGreatPut
import Derived.Deep.RegionLaw
import Derived.Test.YtngldifgcgblpaaGreatCounts
import Derived.Test.YtngldifgcgblpaaGreatYardTs
import Derived.Test.YtngldifgcgblpaaGreatInsSpan
import Derived.Test.YtngldifgcgblpaaGreatYardUi
import Derived.Test.YtngldifgcgblpaaGreatCb
import Derived.Test.YtngldifgcgblpaaGreatCe
namespace Go.Proofs.YtngldifgcgblpaaGreat
open Go.RowKit
def nodeSet (l : List Node) (n state : Int) : NodesOut :=
  if 400 < l.length then ⟨[], 2⟩ else if nodesRight l = false ∨ stateOk state = false then ⟨[], 1⟩ else if isNode l n = false then ⟨[], 6⟩ else if (nth l n.toNat).state = state then ⟨[], 10⟩
  else ⟨l.set n.toNat { nth l n.toNat with state := state }, 0⟩
end Go.Proofs.YtngldifgcgblpaaGreat
namespace Go.Proofs.YtngldifgcgblpaaGreat
open Go.RowKit
attribute [local irreducible] wpQuiet
theorem fit_state {st : Int} {x : Node} (h : stateOk st = true) : FitNode { x with state := st } := by
  have := isB_true h
  unfold FitNode I64
  simp only
  omega
theorem there_sub {w : World} {B o n m : Nat} {i : Nat} (h : w.there B o n) (hi : i + m ≤ n) : w.there B (o + i) m := fun j hj => by
  have := h (i + j) (by omega)
  rwa [← Nat.add_assoc] at this
end Go.Proofs.YtngldifgcgblpaaGreat
namespace Go.Proofs.YtngldifgcgblpaaGreat
open Go.RowKit
attribute [local irreducible] wpQuiet
end Go.Proofs.YtngldifgcgblpaaGreat
namespace Go.Proofs.YtngldifgcgblpaaGreat
open Go.RowKit
attribute [local irreducible] wpQuiet
theorem nodeSet_small (l : List Node) (n s : Int) : (nodeSet l n s).nodes.length ≤ 1000 ∧ ∀ z ∈ (nodeSet l n s).nodes, z.books.length ≤ 1000 := by
  unfold nodeSet
  split
  · exact nil_small
  split
  · exact nil_small
  split
  · exact nil_small
  split
  · exact nil_small
  rename_i h1 h2 h3 h4
  simp only [Bool.not_eq_false] at h3
  have h5 : nodesRight l = true := by
    cases h : nodesRight l
    · exact absurd (.inl h) h2
    · rfl
  refine set_small h5 ?_
  have := (nodesRight_books h5 (isNode_lt h3)).1
  show (nth l n.toNat).books.length ≤ _
  omega
/-- The tasks of a yard are others now, in memory that was the row's or is new. -/
def withT (y : Yard) (l : List Task) : Yard := ⟨y.config, y.nodes, l, y.uses, y.now⟩
theorem own_tasks {y : Yard} {l : List Task} {w w' : World} {v1 v2 v3 v4 v5 v6 : Value} {F1 F2 F3 F4 F5 F5' F6 : List Nat} (hf : FitYard y)
    (o1 : OwS (ORow OLabel 49) 167 w v1 y.config.nodes F1) (o2 : OwS OPair 214 w v2 y.config.pairs F2) (o3 : OwS OQuota 205 w v3 y.config.quotas F3) (o4 : OwS ONode 151 w v4 y.nodes F4) (o6 : OwS OUse 155 w v6 y.uses F6)
    (p5 : OwS OTask 87 w' v5 l F5') (hk : Kept F5 w w') (hd : (F1 ++ (F2 ++ (F3 ++ (F4 ++ (F5 ++ F6))))).Nodup) (h5 : ∀ b ∈ F5', b ∈ F5 ∨ w.heap.size ≤ b) :
    OYard.own w' [v1, v2, v3, .int .i64 y.config.half, v4, v5, v6, .int .i64 y.now] (withT y l) (F1 ++ (F2 ++ (F3 ++ (F4 ++ (F5' ++ F6))))) := by
  have hd' : ((F1 ++ (F2 ++ (F3 ++ F4))) ++ (F5 ++ F6)).Nodup := by
    have h := hd
    simp only [List.append_assoc] at h ⊢
    exact h
  obtain ⟨_, h56, hAd⟩ := List.nodup_append.1 hd'
  obtain ⟨_, _, h56d⟩ := List.nodup_append.1 h56
  have far : ∀ b ∈ F1 ++ (F2 ++ (F3 ++ F4)), b ∉ F5 := fun b hb hm => hAd b hb b (List.mem_append_left _ hm) rfl
  have far6 : ∀ b ∈ F6, b ∉ F5 := fun b hb hm => h56d b hm b hb rfl
  have lA : ∀ b ∈ F1 ++ (F2 ++ (F3 ++ F4)), b < w.heap.size := fun b hb => by
    simp only [List.mem_append] at hb
    rcases hb with hb | hb | hb | hb
    · exact o1.lt b hb
    · exact o2.lt b hb
    · exact o3.lt b hb
    · exact o4.lt b hb
  have hn := nodup_swap hd' p5.nodup h5 lA o6.lt
  simp only [List.append_assoc] at hn
  exact ⟨_, _, _, _, _, _, F1, F2, F3, F4, F5', F6, rfl, hf, o1.kept hk (fun b hb => far b (by simp [hb])), o2.kept hk (fun b hb => far b (by simp [hb])), o3.kept hk (fun b hb => far b (by simp [hb])), o4.kept hk (fun b hb => far b (by simp [hb])), p5, o6.kept hk far6, rfl, hn⟩
/-- A node that is down takes its tasks' places. -/
def downT (n : Int) (x : Task) : Task := if x.state = 2 ∧ x.nodes.any (isNum n) = true then withTask x 1 else x
def downM (n : Int) (l : List Task) (k : Nat) : List Task := mixL (fun _ x => downT n x) (fun _ => 0) 0 l k
def downL (n : Int) (l : List Task) : List Task := markL (fun _ x => downT n x) (fun _ => 0) 0 l
theorem downM_zero (n : Int) (l : List Task) : downM n l 0 = l := mixL_zero 0 l
theorem downM_full (n : Int) (l : List Task) : downM n l l.length = downL n l := mixL_full 0 l
theorem downM_length {n : Int} {l : List Task} {k : Nat} (h : k ≤ l.length) : (downM n l k).length = l.length := mixL_length 0 l k h
theorem downM_nth {n : Int} {l : List Task} {k : Nat} (h : k < l.length) : nth (downM n l k) k = nth l k := mixL_nth h
theorem downM_set {n : Int} {l : List Task} {k : Nat} (h : k < l.length) : (downM n l k).set k (downT n (nth l k)) = downM n l (k + 1) := mixL_set (m := fun _ x => downT n x) (n := fun _ => 0) (q := 0) h
theorem downM_yes {n : Int} {l : List Task} {k : Nat} (h : k < l.length) (e : (nth l k).state = 2) (g : (nth l k).nodes.any (isNum n) = true) : (downM n l k).set k (withTask (nth (downM n l k) k) 1) = downM n l (k + 1) := by
  rw [← downM_set h, downM_nth h, downT, if_pos ⟨e, g⟩]
theorem set_same {α : Type} [Inhabited α] {l : List α} {k : Nat} {x : α} (h : k < l.length) (e : nth l k = x) : l.set k x = l := by
  rw [← e, nth_eq h, List.set_getElem_self]
theorem downM_no {n : Int} {l : List Task} {k : Nat} (h : k < l.length) (e : ¬ ((nth l k).state = 2 ∧ (nth l k).nodes.any (isNum n) = true)) : downM n l (k + 1) = downM n l k := by
  rw [← downM_set h, downT, if_neg e]
  exact set_same (by rw [downM_length (by omega)]; exact h) (downM_nth h)
theorem downM_ne {n : Int} {l : List Task} {k : Nat} (h : k < l.length) (e : ¬ (nth l k).state = 2) : downM n l (k + 1) = downM n l k := downM_no h fun g => e g.1
theorem downM_out {n : Int} {l : List Task} {k : Nat} (h : k < l.length) (e : (nth l k).nodes.any (isNum n) = false) : downM n l (k + 1) = downM n l k := downM_no h fun g => by rw [e] at g; exact absurd g.2 (by simp)
def nodeDown (y : Yard) (n s : Int) : YardOut :=
  if (nodeY y (nodeSet y.nodes n s)).code ≠ 0 ∨ s ≠ 3 then nodeY y (nodeSet y.nodes n s)
  else ⟨withT (nodeY y (nodeSet y.nodes n s)).yard (downL n (nodeY y (nodeSet y.nodes n s)).yard.tasks), (nodeY y (nodeSet y.nodes n s)).id, (nodeY y (nodeSet y.nodes n s)).code⟩
theorem nodeDown_form {y : Yard} {n s : Int} (h : yardRight y = false) : nodeDown y n s = illY 1 := by
  rw [nodeDown, nodeY_form h]
  exact if_pos (.inl (by simp [illY]))
theorem nodeDown_code {y : Yard} {n s c : Int} {x : NodesOut} (hx : nodeSet y.nodes n s = x) (h : yardRight y = true) (e : x.code = c) (g : ¬ c = 0) : nodeDown y n s = illY c := by
  rw [nodeDown, hx, nodeY_code h e g]
  exact if_pos (.inl g)
theorem nodeDown_up {y : Yard} {n s : Int} {x : NodesOut} (hx : nodeSet y.nodes n s = x) (h : yardRight y = true) (e : x.code = 0) (g : ¬ s = 3) : nodeDown y n s = ⟨withN y x.nodes, 0, 0⟩ := by
  rw [nodeDown, hx, nodeY_done h e]
  exact if_pos (.inr g)
theorem nodeDown_down {y : Yard} {n : Int} {x : NodesOut} (hx : nodeSet y.nodes n 3 = x) (h : yardRight y = true) (e : x.code = 0) : nodeDown y n 3 = ⟨withT (withN y x.nodes) (downL n y.tasks), 0, 0⟩ := by
  rw [nodeDown, hx, nodeY_done h e]
  exact if_neg (by simp)
theorem cnt_down (y : Yard) (n s : Int) : 1 + ((cntsYardOut (nodeDown y n s) : Nat) : Int) ≤ 1125899906842624 := by
  have hs := nodeSet_small y.nodes n s
  unfold nodeDown
  split
  · exact cnt_nodeY fun _ => hs
  rename_i h
  unfold nodeY at h ⊢
  split
  · rename_i h1
    rw [if_pos h1] at h
    exact absurd (.inl (by simp [illY])) h
  split
  · rename_i h1 h2
    rw [if_neg h1, if_pos h2] at h
    exact absurd (.inl h2) h
  rename_i h1 h2
  simp only [Bool.not_eq_false] at h1
  obtain ⟨c1, c2, c3, c4, c5, c6⟩ := tight_yard h1
  refine cnt_tight (o := ⟨withT (withN y (nodeSet y.nodes n s).nodes) (downL n y.tasks), 0, 0⟩) c1 hs.1 hs.2 (by show (downL n y.tasks).length ≤ _; rw [downL, markL_length]; omega) (fun z hz => ?_) (by show y.uses.length ≤ _; omega)
  obtain ⟨j, hj, rfl⟩ := mem_nth hz
  have hj' : j < y.tasks.length := by simpa [withT, downL, markL_length] using hj
  have he : nth (downL n y.tasks) j = downT n (nth y.tasks j) := markL_nth (m := fun _ x => downT n x) (n := fun _ => 0) 0 hj'
  have hm : nth y.tasks j ∈ y.tasks := by rw [nth_eq hj']; exact List.getElem_mem hj'
  show (nth (downL n y.tasks) j).nodes.length ≤ 1000
  rw [he, downT]
  split
  · exact Nat.zero_le _
  · exact c5 _ hm
theorem nodeDown_keep {y : Yard} {n s c : Int} {m : YardOut} (hm : nodeY y (nodeSet y.nodes n s) = m) (hc : m.code = c) (h : ¬ c = 0 ∨ ¬ s = 3) : nodeDown y n s = m := by
  rw [nodeDown, hm]
  exact if_pos (by rw [hc]; exact h)
theorem nodeDown_loop {y : Yard} {n : Int} {m : YardOut} (hm : nodeY y (nodeSet y.nodes n 3) = m) (hc : m.code = 0) : nodeDown y n 3 = ⟨withT m.yard (downL n m.yard.tasks), m.id, m.code⟩ := by
  rw [nodeDown, hm]
  exact if_neg (by rw [hc]; simp)
theorem down_row {n : Int} {l : List Task} {v : Value} {F : List Nat} {w : World} {k : Nat} (h : OwS OTask 87 w v (downM n l k) F) (hk : k < l.length) :
    ∃ B c u G, v = .slice (some ⟨B, 0, none⟩) l.length c ∧ B ∈ F ∧ (∀ i, w.frozen? ⟨B, i, none⟩ = false) ∧ w.rangeAt B (k * 14) (cellsTask (nth l k) u) ∧ OwS OInt 2 w u (nth l k).nodes G := by
  obtain ⟨B, c, G, cs, hv, hlc, hcm, hBF, hBG, hGF, ho, hc, hfz, hth, hrow, hset⟩ := h.at2 (k := k) (by rw [downM_length (by omega)]; exact hk)
  rw [downM_length (by omega)] at hv
  rw [downM_nth hk] at ho
  obtain ⟨u1, rfl, hfit, q1⟩ := ho
  exact ⟨B, c, u1, G, hv, hBF, hfz, hc, q1⟩
theorem down_yes {n : Int} {l : List Task} {v : Value} {F : List Nat} {w : World} {k : Nat} (h : OwS OTask 87 w v (downM n l k) F) (hk : k < l.length) (e : (nth l k).state = 2) (g : (nth l k).nodes.any (isNum n) = true) :
    ∃ B c u1 u2 u3, v = .slice (some ⟨B, 0, none⟩) l.length c ∧ (∀ i, w.frozen? ⟨B, i, none⟩ = false) ∧ w.cell? ⟨B, k * 14 + 11, none⟩ = some u1 ∧ w.cell? ⟨B, k * 14 + 12, none⟩ = some u2 ∧ w.cell? ⟨B, k * 14 + 13, none⟩ = some u3 ∧
      ∃ F', OwS OTask 87 (w.setCells B (k * 14 + 11) [.int .i64 1, .int .i64 0, .slice none 0 0]) v (downM n l (k + 1)) F' ∧ ∀ b ∈ F', b ∈ F ∨ w.heap.size ≤ b := by
  obtain ⟨B, c, u1, u2, u3, hv, hBF, hfz, e1, e2, e3, F', p, hF'⟩ := turn_rows (s := 1) h (by rw [downM_length (by omega)]; exact hk) (by unfold I64; decide)
  rw [downM_yes hk e g] at p
  rw [downM_length (by omega)] at hv
  exact ⟨B, c, u1, u2, u3, hv, hfz, e1, e2, e3, F', p, hF'⟩
theorem nodup_put4 {F1 F2 F3 F4 H F5 F6 : List Nat} {a : Nat} (hd : (F1 ++ (F2 ++ (F3 ++ (F4 ++ (F5 ++ F6))))).Nodup) (hH : H.Nodup) (lH : ∀ b ∈ H, b < a) (gG : ∀ b ∈ F1 ++ (F2 ++ (F3 ++ (F4 ++ (F5 ++ F6)))), a ≤ b) : (F1 ++ (F2 ++ (F3 ++ (H ++ (F5 ++ F6))))).Nodup := by
  have hd' : ((F1 ++ (F2 ++ F3)) ++ (F4 ++ (F5 ++ F6))).Nodup := by
    have h := hd
    simp only [List.append_assoc] at h ⊢
    exact h
  have hn := nodup_four hd' hH lH (fun b hb => gG b (by simp only [List.mem_append] at hb ⊢; rcases hb with h | h | h <;> simp [h])) (fun b hb => gG b (by simp only [List.mem_append] at hb ⊢; rcases hb with h | h <;> simp [h]))
  simp only [List.append_assoc] at hn
  exact hn
theorem own_tasksO {m : YardOut} {l : List Task} {w w' : World} {v1 v2 v3 v4 v5 v6 : Value} {F1 F2 F3 F4 F5 F5' F6 : List Nat} (hf : FitYardOut m)
    (o1 : OwS (ORow OLabel 49) 167 w v1 m.yard.config.nodes F1) (o2 : OwS OPair 214 w v2 m.yard.config.pairs F2) (o3 : OwS OQuota 205 w v3 m.yard.config.quotas F3) (o4 : OwS ONode 151 w v4 m.yard.nodes F4) (o6 : OwS OUse 155 w v6 m.yard.uses F6)
    (p5 : OwS OTask 87 w' v5 l F5') (hk : Kept F5 w w') (hd : (F1 ++ (F2 ++ (F3 ++ (F4 ++ (F5 ++ F6))))).Nodup) (h5 : ∀ b ∈ F5', b ∈ F5 ∨ w.heap.size ≤ b) :
    OYardOut.own w' [v1, v2, v3, .int .i64 m.yard.config.half, v4, v5, v6, .int .i64 m.yard.now, .int .i64 m.id, .int .i64 m.code] ⟨withT m.yard l, m.id, m.code⟩ (F1 ++ (F2 ++ (F3 ++ (F4 ++ (F5' ++ F6))))) := by
  obtain ⟨u1, u2, u3, u4, u5, u6, G1, G2, G3, G4, G5, G6, hc, hf', q1, q2, q3, q4, q5, q6, hF, hn⟩ := own_tasks (y := m.yard) (l := l) ⟨hf.1, hf.2.1⟩ o1 o2 o3 o4 o6 p5 hk hd h5
  simp only [cellsYard, List.cons.injEq, and_true] at hc
  obtain ⟨rfl, rfl, rfl, -, rfl, rfl, rfl, -⟩ := hc
  exact ⟨_, _, _, _, _, _, G1, G2, G3, G4, G5, G6, rfl, ⟨hf.1, hf.2.1, hf.2.2.1, hf.2.2.2⟩, q1, q2, q3, q4, q5, q6, hF, hn⟩
end Go.Proofs.YtngldifgcgblpaaGreat
namespace Go.Proofs.YtngldifgcgblpaaGreat
open Go.RowKit
attribute [local irreducible] wpQuiet
set_option maxHeartbeats 8000000 in
set_option maxRecDepth 100000 in
theorem nodeSet_any {S : Nat → Prop} (l : List Node) (n st : Int) (v : Value) (w : World) (h : Rd ENode S w v l) :
    Calls Tryz.prog 91 #[v, .int .i64 n, .int .i64 st] w (RetOS ONodesOut (nodeSet l n st) w) := by
  have HR := Lib.hid h
  obtain ⟨A, c, rfl, h1, h2, hk⟩ := h.open_
  unfold maxLen at h2
  have HK := Lib.hid hk
  clear h hk
  go_enter Tryz.func91, Tryz.ntmps91
  go_upto_region 1 with (fail)
  obtain ⟨W, R, hW, hB, hx0, b0⟩ : ∃ W B, W = w.alloc (.cells #[.slice none 0 0, .int .i64 0] 114) ∧ B = w.heap.size ∧ Ext w W ∧ Blk W B 114 #[.slice none 0 0, .int .i64 0] := ⟨_, _, rfl, rfl, (Ext.refl w).alloc _, Blk.new _ _ _⟩
  rw [← hW, ← hB]
  have HRB : Hid (w.heap.size ≤ R) := Lib.hid (by omega)
  have R0 := Lib.hid b0
  have X0 := Lib.hid hx0
  clear hW hB hx0 b0
  by_cases hl : 400 < l.length
  · have HE : Hid (nodeSet l n st = ⟨[], 2⟩) := Lib.hid (by rw [nodeSet, if_pos hl])
    go_wp2_with (first | (refine wpList_store_mid rfl 114 _ _ rfl R 0 #[.slice none 0 0, .int .i64 2] rfl rfl (Blk.there (t := 114) (cs := #[.slice none 0 0, .int .i64 0]) R0.out) (by kernel_rfl) (all_oneCell_toArray (cs := [.slice none 0 0, .int .i64 2]) (by simp [Value.oneCell'])) ?_))
    exact bodyPost_ret (v := .agg #[.slice none 0 0, .int .i64 2]) (results_blk Tryz.results91 rfl (Blk.setAll (t := 114) (cs := #[.slice none 0 0, .int .i64 0]) (vs := #[.slice none 0 0, .int .i64 2]) R0.out rfl) Tryz.underlying114 rfl (by kernel_rfl)) rfl ⟨_, [], rfl, ⟨.slice none 0 0, by rw [HE.out]; rfl, by rw [HE.out]; simp [FitNodesOut, I64], by rw [HE.out]; exact OwS.nil _⟩, fun b hb => absurd hb (by simp), setCells_ext HRB.out _ _ _ X0.out⟩
  have hl2 : l.length ≤ 400 := by omega
  cases ht : nodesRight l with
  | false =>
    have HE : Hid (nodeSet l n st = ⟨[], 1⟩) := Lib.hid (by rw [nodeSet, if_neg hl, if_pos (.inl ht)])
    clear hl
    go_wp2_with (first | (go_at_call 145; (with_reducible refine (nodesRight_any (S := S) l _ _ (HR.out.ext X0.out)).mono ?_); rintro e w1 ⟨rfl, hx1⟩; have X1 := Lib.hid (X0.out.trans hx1); have R1 := Lib.hid (R0.out.ext hx1); clear hx1) | (refine wpList_store_mid rfl 114 _ _ rfl R 0 #[.slice none 0 0, .int .i64 1] rfl rfl (Blk.there (t := 114) (cs := #[.slice none 0 0, .int .i64 0]) R1.out) (by kernel_rfl) (all_oneCell_toArray (cs := [.slice none 0 0, .int .i64 1]) (by simp [Value.oneCell'])) ?_))
    exact bodyPost_ret (v := .agg #[.slice none 0 0, .int .i64 1]) (results_blk Tryz.results91 rfl (Blk.setAll (t := 114) (cs := #[.slice none 0 0, .int .i64 0]) (vs := #[.slice none 0 0, .int .i64 1]) R1.out rfl) Tryz.underlying114 rfl (by kernel_rfl)) rfl ⟨_, [], rfl, ⟨.slice none 0 0, by rw [HE.out]; rfl, by rw [HE.out]; simp [FitNodesOut, I64], by rw [HE.out]; exact OwS.nil _⟩, fun b hb => absurd hb (by simp), setCells_ext HRB.out _ _ _ X1.out⟩
  | true =>
  cases hs : stateOk st with
  | false =>
    have HE : Hid (nodeSet l n st = ⟨[], 1⟩) := Lib.hid (by rw [nodeSet, if_neg hl, if_pos (.inr hs)])
    clear hl
    go_wp2_with (first | (go_at_call 145; (with_reducible refine (nodesRight_any (S := S) l _ _ (HR.out.ext X0.out)).mono ?_); rintro e w1 ⟨rfl, hx1⟩; have X1 := Lib.hid (X0.out.trans hx1); have R1 := Lib.hid (R0.out.ext hx1); clear hx1) | (go_at_call 177; refine (isNodeState_any _ _).mono ?_; rintro e w' ⟨rfl, rfl⟩) | (refine wpList_store_mid rfl 114 _ _ rfl R 0 #[.slice none 0 0, .int .i64 1] rfl rfl (Blk.there (t := 114) (cs := #[.slice none 0 0, .int .i64 0]) R1.out) (by kernel_rfl) (all_oneCell_toArray (cs := [.slice none 0 0, .int .i64 1]) (by simp [Value.oneCell'])) ?_))
    exact bodyPost_ret (v := .agg #[.slice none 0 0, .int .i64 1]) (results_blk Tryz.results91 rfl (Blk.setAll (t := 114) (cs := #[.slice none 0 0, .int .i64 0]) (vs := #[.slice none 0 0, .int .i64 1]) R1.out rfl) Tryz.underlying114 rfl (by kernel_rfl)) rfl ⟨_, [], rfl, ⟨.slice none 0 0, by rw [HE.out]; rfl, by rw [HE.out]; simp [FitNodesOut, I64], by rw [HE.out]; exact OwS.nil _⟩, fun b hb => absurd hb (by simp), setCells_ext HRB.out _ _ _ X1.out⟩
  | true =>
  cases hn : isNode l n with
  | false =>
    have HE : Hid (nodeSet l n st = ⟨[], 6⟩) := Lib.hid (by rw [nodeSet, if_neg hl, if_neg (by simp [ht, hs]), if_pos hn])
    clear hl
    go_wp2_with (first | (go_at_call 145; (with_reducible refine (nodesRight_any (S := S) l _ _ (HR.out.ext X0.out)).mono ?_); rintro e w1 ⟨rfl, hx1⟩; have X1 := Lib.hid (X0.out.trans hx1); have R1 := Lib.hid (R0.out.ext hx1); clear hx1) | (go_at_call 177; refine (isNodeState_any _ _).mono ?_; rintro e w' ⟨rfl, rfl⟩) | (go_at_call 172; refine (isNodeOf_any l n _ _ _ hl2).mono ?_; rintro e w' ⟨rfl, rfl⟩) | (refine wpList_store_mid rfl 114 _ _ rfl R 0 #[.slice none 0 0, .int .i64 6] rfl rfl (Blk.there (t := 114) (cs := #[.slice none 0 0, .int .i64 0]) R1.out) (by kernel_rfl) (all_oneCell_toArray (cs := [.slice none 0 0, .int .i64 6]) (by simp [Value.oneCell'])) ?_))
    exact bodyPost_ret (v := .agg #[.slice none 0 0, .int .i64 6]) (results_blk Tryz.results91 rfl (Blk.setAll (t := 114) (cs := #[.slice none 0 0, .int .i64 0]) (vs := #[.slice none 0 0, .int .i64 6]) R1.out rfl) Tryz.underlying114 rfl (by kernel_rfl)) rfl ⟨_, [], rfl, ⟨.slice none 0 0, by rw [HE.out]; rfl, by rw [HE.out]; simp [FitNodesOut, I64], by rw [HE.out]; exact OwS.nil _⟩, fun b hb => absurd hb (by simp), setCells_ext HRB.out _ _ _ X1.out⟩
  | true =>
  obtain ⟨d, rfl, hd⟩ := isNode_nat hn
  obtain ⟨b, q, cs, rfl, _, ⟨v1, rfl, hfit, hrd⟩, hc⟩ := HK.out d hd
  have hd0 : (0 : Int) ≤ (d : Int) := Int.natCast_nonneg _
  have hdl : (d : Int) < (l.length : Int) := by omega
  have CE : Hid (∀ V, Ext w V → V.cell? ⟨b, q + d * 2, none⟩ = some (.int .i64 (nth l d).state)) := Lib.hid fun V hV => by have := Ext.some hV (hc 0 _ rfl); simpa [ENode] using this
  clear hc hrd
  by_cases he : (nth l d).state = st
  · have HE : Hid (nodeSet l (d : Int) st = ⟨[], 10⟩) := Lib.hid (by rw [nodeSet, if_neg hl, if_neg (by simp [ht, hs]), if_neg (by simp [hn]), Int.toNat_natCast, if_pos he])
    clear hl
    go_wp2_with (first | (go_at_call 145; (with_reducible refine (nodesRight_any (S := S) l _ _ (HR.out.ext X0.out)).mono ?_); rintro e w1 ⟨rfl, hx1⟩; have X1 := Lib.hid (X0.out.trans hx1); have R1 := Lib.hid (R0.out.ext hx1); clear hx1; have ce := CE.out _ X1.out) | (go_at_call 177; refine (isNodeState_any _ _).mono ?_; rintro e w' ⟨rfl, rfl⟩) | (go_at_call 172; refine (isNodeOf_any l (d : Int) _ _ _ hl2).mono ?_; rintro e w' ⟨rfl, rfl⟩) | (refine wpList_store_mid rfl 114 _ _ rfl R 0 #[.slice none 0 0, .int .i64 10] rfl rfl (Blk.there (t := 114) (cs := #[.slice none 0 0, .int .i64 0]) R1.out) (by kernel_rfl) (all_oneCell_toArray (cs := [.slice none 0 0, .int .i64 10]) (by simp [Value.oneCell'])) ?_))
    exact bodyPost_ret (v := .agg #[.slice none 0 0, .int .i64 10]) (results_blk Tryz.results91 rfl (Blk.setAll (t := 114) (cs := #[.slice none 0 0, .int .i64 0]) (vs := #[.slice none 0 0, .int .i64 10]) R1.out rfl) Tryz.underlying114 rfl (by kernel_rfl)) rfl ⟨_, [], rfl, ⟨.slice none 0 0, by rw [HE.out]; rfl, by rw [HE.out]; simp [FitNodesOut, I64], by rw [HE.out]; exact OwS.nil _⟩, fun b hb => absurd hb (by simp), setCells_ext HRB.out _ _ _ X1.out⟩
  have HE : Hid (nodeSet l (d : Int) st = ⟨l.set d { nth l d with state := st }, 0⟩) := Lib.hid (by rw [nodeSet, if_neg hl, if_neg (by simp [ht, hs]), if_neg (by simp [hn]), Int.toNat_natCast, if_neg he])
  have HS : Hid (∀ k, k < l.length → (nth l k).books.length ≤ 1000000000) := Lib.hid fun k hk => by have := (nodesRight_books ht hk).1; omega
  have HSt := Lib.hid hs
  clear hl
  go_upto_region 10 with (first | (go_at_call 145; (with_reducible refine (nodesRight_any (S := S) l _ _ (HR.out.ext X0.out)).mono ?_); rintro e w1 ⟨rfl, hx1⟩; have X1 := Lib.hid (X0.out.trans hx1); have R1 := Lib.hid (R0.out.ext hx1); clear hx1; have ce := CE.out _ X1.out) | (go_at_call 177; refine (isNodeState_any _ _).mono ?_; rintro e w' ⟨rfl, rfl⟩) | (go_at_call 172; refine (isNodeOf_any l (d : Int) _ _ _ hl2).mono ?_; rintro e w' ⟨rfl, rfl⟩) | (go_at_call 158; (with_reducible refine (copyNodes_any (S := S) l _ _ (HR.out.ext X1.out) (by omega) HS.out).mono ?_); rintro e w2 ⟨v2, F2, rfl, o2, g2, hx2⟩))
  have LF2 := Lib.hid o2.lt
  obtain ⟨B2, cc, G, cs2, hv2, hlc, hcm, hBF, hBG, hGF, ho, hc2, hfz, hth, hrow, hset⟩ := o2.at2 (k := d) hd
  subst hv2
  obtain ⟨u1, rfl, hfit2, q1⟩ := ho
  have e0 := hc2 0 _ rfl
  have z0 := hfz (d * 2)
  simp only [ENode, Nat.add_zero] at e0
  obtain ⟨W3, hW3⟩ : ∃ W3, W3 = w2.setCell ⟨B2, d * 2, none⟩ (.int .i64 st) := ⟨_, rfl⟩
  have HN : Hid (∃ F', OwS ONode 151 W3 (.slice (some ⟨B2, 0, none⟩) l.length cc) (l.set d { nth l d with state := st }) F' ∧ ∀ b ∈ F', b ∈ F2 ∨ w2.heap.size ≤ b) := Lib.hid (by
    rw [hW3]
    refine hset _ _ [.int .i64 st, u1] G (Kept.setCell (Kept.refl _ _) (by simp) _) (RowBut.setCell hrow (by simp [ENode]) (by simp [ENode]) _) ⟨u1, rfl, fit_state HSt.out, q1.kept (G := [B2]) (Kept.setCell (Kept.refl _ _) (by simp) _) (fun b hb => by simp; intro e; exact hBG (e ▸ hb))⟩ (fun b hb => .inl hb) ?_
    exact range_front (a := [.int .i64 (nth l d).state]) (a' := [.int .i64 st]) (b := [u1]) hc2 rfl (by have := there_sub (i := 0) (m := 1) hth (by simp [ENode]); simpa [ENode] using this))
  have X3 : Hid (Ext w W3) := Lib.hid (by rw [hW3]; exact (X1.out.trans hx2).setCell (Nat.le_trans X1.out.size (g2 _ hBF)) _)
  have hR : R < w1.heap.size := R1.out.lt
  have R3 : Hid (Blk W3 R 114 #[.slice none 0 0, .int .i64 0]) := Lib.hid (by rw [hW3]; exact (R1.out.ext hx2).far (by simp only; have := g2 _ hBF; omega) _)
  have HF2 : Hid (∀ b ∈ F2, w1.heap.size ≤ b) := Lib.hid g2
  have HX2 : Hid (w1.heap.size ≤ w2.heap.size) := Lib.hid hx2.size
  have HX1 : Hid (w.heap.size ≤ w1.heap.size) := Lib.hid X1.out.size
  clear o2 g2 hx2 hset hrow hth hc2 q1 hBF hBG hGF hlc hcm
  go_upto_region 11 with (fail)
  rw [← hW3]
  clear hW3 e0 z0 hfz
  obtain ⟨F3, o3, f3⟩ := HN.out
  have O3 := Lib.hid o3
  have G3 : Hid (∀ b ∈ F3, w1.heap.size ≤ b) := Lib.hid fun b hb => by rcases f3 b hb with h | h; exact HF2.out b h; exact Nat.le_trans HX2.out h
  clear o3 f3
  go_wp2_with (refine wpList_store_mid rfl 114 _ _ rfl R 0 #[.slice (some ⟨B2, 0, none⟩) l.length cc, .int .i64 0] rfl rfl (Blk.there (t := 114) (cs := #[.slice none 0 0, .int .i64 0]) R3.out) (by kernel_rfl) (all_oneCell_toArray (cs := [.slice (some ⟨B2, 0, none⟩) l.length cc, .int .i64 0]) (by simp [Value.oneCell'])) ?_)
  exact bodyPost_ret (v := .agg #[.slice (some ⟨B2, 0, none⟩) l.length cc, .int .i64 0]) (results_blk Tryz.results91 rfl (Blk.setAll (t := 114) (cs := #[.slice none 0 0, .int .i64 0]) (vs := #[.slice (some ⟨B2, 0, none⟩) l.length cc, .int .i64 0]) R3.out rfl) Tryz.underlying114 rfl (by kernel_rfl)) rfl ⟨_, F3, rfl, ⟨.slice (some ⟨B2, 0, none⟩) l.length cc, by rw [HE.out]; rfl, by rw [HE.out]; simp [FitNodesOut, I64], by rw [HE.out]; exact O3.out.kept (G := [R]) (Kept.setCells (by simp) _ _ _ (Kept.refl _ _)) (fun b hb => by have := G3.out b hb; simp; omega)⟩, fun b hb => Nat.le_trans HX1.out (G3.out b hb), setCells_ext HRB.out _ _ _ X3.out⟩
set_option maxHeartbeats 8000000 in
set_option maxRecDepth 100000 in
theorem specNodeSet_any {S : Nat → Prop} (l : List Node) (n st : Int) (v : Value) (w : World) (h : Rd ENode S w v l) :
    Calls Tryz.prog 88 #[v, .int .i64 n, .int .i64 st] w (RetOS ONodesOut (nodeSet l n st) w) := by
  have HR := Lib.hid h
  obtain ⟨A, c, rfl, h1, h2, hk⟩ := h.open_
  unfold maxLen at h2
  have HK := Lib.hid hk
  clear h hk
  go_enter Tryz.func88, Tryz.ntmps88
  go_upto_region 1 with (fail)
  obtain ⟨W, R, hW, hB, hx0, b0⟩ : ∃ W B, W = w.alloc (.cells #[.slice none 0 0, .int .i64 0] 114) ∧ B = w.heap.size ∧ Ext w W ∧ Blk W B 114 #[.slice none 0 0, .int .i64 0] := ⟨_, _, rfl, rfl, (Ext.refl w).alloc _, Blk.new _ _ _⟩
  rw [← hW, ← hB]
  have HRB : Hid (w.heap.size ≤ R) := Lib.hid (by omega)
  have R0 := Lib.hid b0
  have X0 := Lib.hid hx0
  clear hW hB hx0 b0
  by_cases hl : 400 < l.length
  · have HE : Hid (nodeSet l n st = ⟨[], 2⟩) := Lib.hid (by rw [nodeSet, if_pos hl])
    go_wp2_with (first | (go_at_call 167; refine (l10Ill_any _ _).mono ?_; rintro e wi ⟨rfl, hxi⟩; have XI := Lib.hid (X0.out.trans hxi); have RI := Lib.hid (R0.out.ext hxi); clear hxi) | (refine wpList_store_mid rfl 114 _ _ rfl R 0 #[.slice none 0 0, .int .i64 2] rfl rfl (Blk.there (t := 114) (cs := #[.slice none 0 0, .int .i64 0]) RI.out) (by kernel_rfl) (all_oneCell_toArray (cs := [.slice none 0 0, .int .i64 2]) (by simp [Value.oneCell'])) ?_))
    exact bodyPost_ret (v := .agg #[.slice none 0 0, .int .i64 2]) (results_blk Tryz.results88 rfl (Blk.setAll (t := 114) (cs := #[.slice none 0 0, .int .i64 0]) (vs := #[.slice none 0 0, .int .i64 2]) RI.out rfl) Tryz.underlying114 rfl (by kernel_rfl)) rfl ⟨_, [], rfl, ⟨.slice none 0 0, by rw [HE.out]; rfl, by rw [HE.out]; simp [FitNodesOut, I64], by rw [HE.out]; exact OwS.nil _⟩, fun b hb => absurd hb (by simp), setCells_ext HRB.out _ _ _ XI.out⟩
  have hl2 : l.length ≤ 400 := by omega
  cases ht : nodesRight l with
  | false =>
    have HE : Hid (nodeSet l n st = ⟨[], 1⟩) := Lib.hid (by rw [nodeSet, if_neg hl, if_pos (.inl ht)])
    clear hl
    go_wp2_with (first | (go_at_call 163; (with_reducible refine (specNodesRight_any (S := S) l _ _ (HR.out.ext X0.out)).mono ?_); rintro e w1 ⟨rfl, hx1⟩; have X1 := Lib.hid (X0.out.trans hx1); have R1 := Lib.hid (R0.out.ext hx1); clear hx1) | (go_at_call 167; refine (l10Ill_any _ _).mono ?_; rintro e wi ⟨rfl, hxi⟩; have XI := Lib.hid (X1.out.trans hxi); have RI := Lib.hid (R1.out.ext hxi); clear hxi) | (refine wpList_store_mid rfl 114 _ _ rfl R 0 #[.slice none 0 0, .int .i64 1] rfl rfl (Blk.there (t := 114) (cs := #[.slice none 0 0, .int .i64 0]) RI.out) (by kernel_rfl) (all_oneCell_toArray (cs := [.slice none 0 0, .int .i64 1]) (by simp [Value.oneCell'])) ?_))
    exact bodyPost_ret (v := .agg #[.slice none 0 0, .int .i64 1]) (results_blk Tryz.results88 rfl (Blk.setAll (t := 114) (cs := #[.slice none 0 0, .int .i64 0]) (vs := #[.slice none 0 0, .int .i64 1]) RI.out rfl) Tryz.underlying114 rfl (by kernel_rfl)) rfl ⟨_, [], rfl, ⟨.slice none 0 0, by rw [HE.out]; rfl, by rw [HE.out]; simp [FitNodesOut, I64], by rw [HE.out]; exact OwS.nil _⟩, fun b hb => absurd hb (by simp), setCells_ext HRB.out _ _ _ XI.out⟩
  | true =>
  cases hs : stateOk st with
  | false =>
    have HE : Hid (nodeSet l n st = ⟨[], 1⟩) := Lib.hid (by rw [nodeSet, if_neg hl, if_pos (.inr hs)])
    clear hl
    go_wp2_with (first | (go_at_call 163; (with_reducible refine (specNodesRight_any (S := S) l _ _ (HR.out.ext X0.out)).mono ?_); rintro e w1 ⟨rfl, hx1⟩; have X1 := Lib.hid (X0.out.trans hx1); have R1 := Lib.hid (R0.out.ext hx1); clear hx1) | (go_at_call 176; refine (l10State_any _ _).mono ?_; rintro e w' ⟨rfl, rfl⟩) | (go_at_call 167; refine (l10Ill_any _ _).mono ?_; rintro e wi ⟨rfl, hxi⟩; have XI := Lib.hid (X1.out.trans hxi); have RI := Lib.hid (R1.out.ext hxi); clear hxi) | (refine wpList_store_mid rfl 114 _ _ rfl R 0 #[.slice none 0 0, .int .i64 1] rfl rfl (Blk.there (t := 114) (cs := #[.slice none 0 0, .int .i64 0]) RI.out) (by kernel_rfl) (all_oneCell_toArray (cs := [.slice none 0 0, .int .i64 1]) (by simp [Value.oneCell'])) ?_))
    exact bodyPost_ret (v := .agg #[.slice none 0 0, .int .i64 1]) (results_blk Tryz.results88 rfl (Blk.setAll (t := 114) (cs := #[.slice none 0 0, .int .i64 0]) (vs := #[.slice none 0 0, .int .i64 1]) RI.out rfl) Tryz.underlying114 rfl (by kernel_rfl)) rfl ⟨_, [], rfl, ⟨.slice none 0 0, by rw [HE.out]; rfl, by rw [HE.out]; simp [FitNodesOut, I64], by rw [HE.out]; exact OwS.nil _⟩, fun b hb => absurd hb (by simp), setCells_ext HRB.out _ _ _ XI.out⟩
  | true =>
  cases hn : isNode l n with
  | false =>
    have HE : Hid (nodeSet l n st = ⟨[], 6⟩) := Lib.hid (by rw [nodeSet, if_neg hl, if_neg (by simp [ht, hs]), if_pos hn])
    clear hl
    go_wp2_with (first | (go_at_call 163; (with_reducible refine (specNodesRight_any (S := S) l _ _ (HR.out.ext X0.out)).mono ?_); rintro e w1 ⟨rfl, hx1⟩; have X1 := Lib.hid (X0.out.trans hx1); have R1 := Lib.hid (R0.out.ext hx1); clear hx1) | (go_at_call 176; refine (l10State_any _ _).mono ?_; rintro e w' ⟨rfl, rfl⟩) | (go_at_call 168; refine (l10Place_any l n _ _ _ hl2).mono ?_; rintro e w' ⟨rfl, rfl⟩) | (go_at_call 167; refine (l10Ill_any _ _).mono ?_; rintro e wi ⟨rfl, hxi⟩; have XI := Lib.hid (X1.out.trans hxi); have RI := Lib.hid (R1.out.ext hxi); clear hxi) | (refine wpList_store_mid rfl 114 _ _ rfl R 0 #[.slice none 0 0, .int .i64 6] rfl rfl (Blk.there (t := 114) (cs := #[.slice none 0 0, .int .i64 0]) RI.out) (by kernel_rfl) (all_oneCell_toArray (cs := [.slice none 0 0, .int .i64 6]) (by simp [Value.oneCell'])) ?_))
    exact bodyPost_ret (v := .agg #[.slice none 0 0, .int .i64 6]) (results_blk Tryz.results88 rfl (Blk.setAll (t := 114) (cs := #[.slice none 0 0, .int .i64 0]) (vs := #[.slice none 0 0, .int .i64 6]) RI.out rfl) Tryz.underlying114 rfl (by kernel_rfl)) rfl ⟨_, [], rfl, ⟨.slice none 0 0, by rw [HE.out]; rfl, by rw [HE.out]; simp [FitNodesOut, I64], by rw [HE.out]; exact OwS.nil _⟩, fun b hb => absurd hb (by simp), setCells_ext HRB.out _ _ _ XI.out⟩
  | true =>
  obtain ⟨d, rfl, hd⟩ := isNode_nat hn
  obtain ⟨b, q, cs, rfl, _, ⟨v1, rfl, hfit, hrd⟩, hc⟩ := HK.out d hd
  have hd0 : (0 : Int) ≤ (d : Int) := Int.natCast_nonneg _
  have hdl : (d : Int) < (l.length : Int) := by omega
  have CE : Hid (∀ V, Ext w V → V.cell? ⟨b, q + d * 2, none⟩ = some (.int .i64 (nth l d).state)) := Lib.hid fun V hV => by have := Ext.some hV (hc 0 _ rfl); simpa [ENode] using this
  clear hc hrd
  by_cases he : (nth l d).state = st
  · have HE : Hid (nodeSet l (d : Int) st = ⟨[], 10⟩) := Lib.hid (by rw [nodeSet, if_neg hl, if_neg (by simp [ht, hs]), if_neg (by simp [hn]), Int.toNat_natCast, if_pos he])
    clear hl
    go_wp2_with (first | (go_at_call 163; (with_reducible refine (specNodesRight_any (S := S) l _ _ (HR.out.ext X0.out)).mono ?_); rintro e w1 ⟨rfl, hx1⟩; have X1 := Lib.hid (X0.out.trans hx1); have R1 := Lib.hid (R0.out.ext hx1); clear hx1; have ce := CE.out _ X1.out) | (go_at_call 176; refine (l10State_any _ _).mono ?_; rintro e w' ⟨rfl, rfl⟩) | (go_at_call 168; refine (l10Place_any l (d : Int) _ _ _ hl2).mono ?_; rintro e w' ⟨rfl, rfl⟩) | (go_at_call 167; refine (l10Ill_any _ _).mono ?_; rintro e wi ⟨rfl, hxi⟩; have XI := Lib.hid (X1.out.trans hxi); have RI := Lib.hid (R1.out.ext hxi); clear hxi) | (refine wpList_store_mid rfl 114 _ _ rfl R 0 #[.slice none 0 0, .int .i64 10] rfl rfl (Blk.there (t := 114) (cs := #[.slice none 0 0, .int .i64 0]) RI.out) (by kernel_rfl) (all_oneCell_toArray (cs := [.slice none 0 0, .int .i64 10]) (by simp [Value.oneCell'])) ?_))
    exact bodyPost_ret (v := .agg #[.slice none 0 0, .int .i64 10]) (results_blk Tryz.results88 rfl (Blk.setAll (t := 114) (cs := #[.slice none 0 0, .int .i64 0]) (vs := #[.slice none 0 0, .int .i64 10]) RI.out rfl) Tryz.underlying114 rfl (by kernel_rfl)) rfl ⟨_, [], rfl, ⟨.slice none 0 0, by rw [HE.out]; rfl, by rw [HE.out]; simp [FitNodesOut, I64], by rw [HE.out]; exact OwS.nil _⟩, fun b hb => absurd hb (by simp), setCells_ext HRB.out _ _ _ XI.out⟩
  have HE : Hid (nodeSet l (d : Int) st = ⟨l.set d { nth l d with state := st }, 0⟩) := Lib.hid (by rw [nodeSet, if_neg hl, if_neg (by simp [ht, hs]), if_neg (by simp [hn]), Int.toNat_natCast, if_neg he])
  have HS : Hid (∀ k, k < l.length → (nth l k).books.length ≤ 1000000000) := Lib.hid fun k hk => by have := (nodesRight_books ht hk).1; omega
  have HSt := Lib.hid hs
  clear hl
  go_upto_region 10 with (first | (go_at_call 163; (with_reducible refine (specNodesRight_any (S := S) l _ _ (HR.out.ext X0.out)).mono ?_); rintro e w1 ⟨rfl, hx1⟩; have X1 := Lib.hid (X0.out.trans hx1); have R1 := Lib.hid (R0.out.ext hx1); clear hx1; have ce := CE.out _ X1.out) | (go_at_call 176; refine (l10State_any _ _).mono ?_; rintro e w' ⟨rfl, rfl⟩) | (go_at_call 168; refine (l10Place_any l (d : Int) _ _ _ hl2).mono ?_; rintro e w' ⟨rfl, rfl⟩) | (go_at_call 169; (with_reducible refine (l10Copy_any (S := S) l _ _ (HR.out.ext X1.out) (by omega) HS.out).mono ?_); rintro e w2 ⟨v2, F2, rfl, o2, g2, hx2⟩))
  have LF2 := Lib.hid o2.lt
  obtain ⟨B2, cc, G, cs2, hv2, hlc, hcm, hBF, hBG, hGF, ho, hc2, hfz, hth, hrow, hset⟩ := o2.at2 (k := d) hd
  subst hv2
  obtain ⟨u1, rfl, hfit2, q1⟩ := ho
  have e0 := hc2 0 _ rfl
  have z0 := hfz (d * 2)
  simp only [ENode, Nat.add_zero] at e0
  obtain ⟨W3, hW3⟩ : ∃ W3, W3 = w2.setCell ⟨B2, d * 2, none⟩ (.int .i64 st) := ⟨_, rfl⟩
  have HN : Hid (∃ F', OwS ONode 151 W3 (.slice (some ⟨B2, 0, none⟩) l.length cc) (l.set d { nth l d with state := st }) F' ∧ ∀ b ∈ F', b ∈ F2 ∨ w2.heap.size ≤ b) := Lib.hid (by
    rw [hW3]
    refine hset _ _ [.int .i64 st, u1] G (Kept.setCell (Kept.refl _ _) (by simp) _) (RowBut.setCell hrow (by simp [ENode]) (by simp [ENode]) _) ⟨u1, rfl, fit_state HSt.out, q1.kept (G := [B2]) (Kept.setCell (Kept.refl _ _) (by simp) _) (fun b hb => by simp; intro e; exact hBG (e ▸ hb))⟩ (fun b hb => .inl hb) ?_
    exact range_front (a := [.int .i64 (nth l d).state]) (a' := [.int .i64 st]) (b := [u1]) hc2 rfl (by have := there_sub (i := 0) (m := 1) hth (by simp [ENode]); simpa [ENode] using this))
  have X3 : Hid (Ext w W3) := Lib.hid (by rw [hW3]; exact (X1.out.trans hx2).setCell (Nat.le_trans X1.out.size (g2 _ hBF)) _)
  have hR : R < w1.heap.size := R1.out.lt
  have R3 : Hid (Blk W3 R 114 #[.slice none 0 0, .int .i64 0]) := Lib.hid (by rw [hW3]; exact (R1.out.ext hx2).far (by simp only; have := g2 _ hBF; omega) _)
  have HF2 : Hid (∀ b ∈ F2, w1.heap.size ≤ b) := Lib.hid g2
  have HX2 : Hid (w1.heap.size ≤ w2.heap.size) := Lib.hid hx2.size
  have HX1 : Hid (w.heap.size ≤ w1.heap.size) := Lib.hid X1.out.size
  clear o2 g2 hx2 hset hrow hth hc2 q1 hBF hBG hGF hlc hcm
  go_upto_region 11 with (fail)
  rw [← hW3]
  clear hW3 e0 z0 hfz
  obtain ⟨F3, o3, f3⟩ := HN.out
  have O3 := Lib.hid o3
  have G3 : Hid (∀ b ∈ F3, w1.heap.size ≤ b) := Lib.hid fun b hb => by rcases f3 b hb with h | h; exact HF2.out b h; exact Nat.le_trans HX2.out h
  clear o3 f3
  go_wp2_with (refine wpList_store_mid rfl 114 _ _ rfl R 0 #[.slice (some ⟨B2, 0, none⟩) l.length cc, .int .i64 0] rfl rfl (Blk.there (t := 114) (cs := #[.slice none 0 0, .int .i64 0]) R3.out) (by kernel_rfl) (all_oneCell_toArray (cs := [.slice (some ⟨B2, 0, none⟩) l.length cc, .int .i64 0]) (by simp [Value.oneCell'])) ?_)
  exact bodyPost_ret (v := .agg #[.slice (some ⟨B2, 0, none⟩) l.length cc, .int .i64 0]) (results_blk Tryz.results88 rfl (Blk.setAll (t := 114) (cs := #[.slice none 0 0, .int .i64 0]) (vs := #[.slice (some ⟨B2, 0, none⟩) l.length cc, .int .i64 0]) R3.out rfl) Tryz.underlying114 rfl (by kernel_rfl)) rfl ⟨_, F3, rfl, ⟨.slice (some ⟨B2, 0, none⟩) l.length cc, by rw [HE.out]; rfl, by rw [HE.out]; simp [FitNodesOut, I64], by rw [HE.out]; exact O3.out.kept (G := [R]) (Kept.setCells (by simp) _ _ _ (Kept.refl _ _)) (fun b hb => by have := G3.out b hb; simp; omega)⟩, fun b hb => Nat.le_trans HX1.out (G3.out b hb), setCells_ext HRB.out _ _ _ X3.out⟩
end Go.Proofs.YtngldifgcgblpaaGreat
namespace Go.Proofs.YtngldifgcgblpaaGreat
open Go.RowKit
attribute [local irreducible] wpQuiet
theorem call_Node1 : ∀ (args : Array Value) (W : World), (callFunc 90 args).run Tryz.prog W = .ok (.enter 90 args) W := by
  intro args W
  go_simp
set_option maxHeartbeats 8000000 in
set_option maxRecDepth 100000 in
theorem node1_any {S : Nat → Prop} (l : List Node) (n st : Int) (v : Value) (B1 B2 : Nat) (w : World) (h : Rd ENode S w v l) (hp : w.cell? ⟨B1, 0, none⟩ = some (.int .i64 n)) (hq : w.cell? ⟨B2, 0, none⟩ = some (.int .i64 st)) :
    Calls Tryz.prog 90 #[v, .pointer (some ⟨B1, 0, none⟩), .pointer (some ⟨B2, 0, none⟩)] w (RetOS ONodesOut (nodeSet l n st) w) := by
  obtain ⟨A, c, rfl, -⟩ := h.form
  have HR := Lib.hid h
  obtain ⟨m, hm⟩ : ∃ m, nodeSet l n st = m := ⟨_, rfl⟩
  rw [hm]
  have HM := Lib.hid hm
  clear hm h
  go_enter Tryz.func90, Tryz.ntmps90
  go_upto_region 1 with (fail)
  obtain ⟨W, B, hW, hB, hx0, r0⟩ : ∃ W B, W = w.alloc (.cells #[.slice none 0 0, .int .i64 0] 114) ∧ B = w.heap.size ∧ Ext w W ∧ Blk W B 114 #[.slice none 0 0, .int .i64 0] := ⟨_, _, rfl, rfl, (Ext.refl w).alloc _, Blk.new _ _ _⟩
  rw [← hW, ← hB]
  have HB : Hid (w.heap.size ≤ B) := Lib.hid (by omega)
  have R := Lib.hid r0
  have X := Lib.hid hx0
  have g_hp := Ext.some hx0 hp
  have g_hq := Ext.some hx0 hq
  clear hW hB hx0 r0 hp hq
  go_wp2_with (first
    | (go_at_call 91; (with_reducible refine (nodeSet_any (S := S) l n st _ _ (HR.out.ext X.out)).mono ?_); rw [HM.out]; rintro e w8 ⟨cs8, F8, rfl, ⟨u8, rfl, ft8, q8⟩, g8, hx8⟩; obtain ⟨p8, k8, rfl, -⟩ := OwS.form q8; have Q8 := Lib.hid q8; have FT := Lib.hid ft8; have G8 := Lib.hid g8; have H8 := Lib.hid hx8; clear q8 ft8 g8 hx8 g_hp g_hq; simp only [cellsNodesOut])
    | refine wpList_store_mid rfl 114 _ _ rfl B 0 (List.toArray [.slice p8 m.nodes.length k8, .int .i64 m.code]) rfl rfl (Blk.there (t := 114) (cs := #[.slice none 0 0, .int .i64 0]) (R.out.ext H8.out)) (by kernel_rfl) (all_oneCell_toArray (cs := [.slice p8 m.nodes.length k8, .int .i64 m.code]) (by simp [Value.oneCell'])) ?_)
  exact bodyPost_ret (v := .agg (List.toArray [.slice p8 m.nodes.length k8, .int .i64 m.code])) (results_blk Tryz.results90 rfl (Blk.setAll (t := 114) (cs := #[.slice none 0 0, .int .i64 0]) (vs := List.toArray [.slice p8 m.nodes.length k8, .int .i64 m.code]) (R.out.ext H8.out) rfl) Tryz.underlying114 rfl (by kernel_rfl)) rfl
    ⟨_, F8, rfl, ownk (O := ONodesOut) ⟨_, rfl, FT.out, Q8.out⟩ (Kept.setCells (F := [B]) (by simp) _ _ _ (Kept.refl _ _)) (fun b hb hm => by have := G8.out b hb; have := R.out.lt; have := List.mem_singleton.1 hm; omega), fun b hb => Nat.le_trans X.out.size (G8.out b hb), setCells_ext HB.out _ _ _ (X.out.trans H8.out)⟩
end Go.Proofs.YtngldifgcgblpaaGreat
namespace Go.Proofs.YtngldifgcgblpaaGreat
open Go.RowKit
attribute [local irreducible] wpQuiet
theorem any_yes {l : List Int} {n : Int} {k : Nat} (h : k < l.length) (e : nth l k = n) : l.any (isNum n) = true := List.any_eq_true.2 ⟨nth l k, by rw [nth_eq h]; exact List.getElem_mem h, by simp [isNum, e]⟩
theorem any_no {l : List Int} {n : Int} (h : ∀ j, j < l.length → isNum n (nth l j) = false) : l.any (isNum n) = false := List.any_eq_false.2 fun x hx => by
  obtain ⟨j, hj, rfl⟩ := mem_nth hx
  simp [h j hj]
set_option maxHeartbeats 4000000 in
theorem specIn_any {S : Nat → Prop} (l : List Int) (n : Int) (v : Value) (w : World) (h : Rd EInt S w v l) :
    Calls Tryz.prog 89 #[v, .int .i64 n] w fun e w' => e = .returned (.bool (l.any (isNum n))) ∧ Ext w w' := by
  obtain ⟨A, c, rfl, h1, h2, hk⟩ := h.open_
  unfold maxLen at h2
  have HK := Lib.hid hk
  clear hk h
  go_enter Tryz.func89, Tryz.ntmps89
  go_wp2_with fail
  go_loopw [5] (fun i w' => ∃ k : Nat, k ≤ l.length ∧ i = .int .i64 k ∧ (∀ j, j < k → isNum n (nth l j) = false) ∧ Ext w w') (fun i _ => l.length - (intOf i).toNat)
  case atStart => exact ⟨0, by omega, rfl, fun j hj => by omega, Ext.refl _⟩
  case round =>
    obtain ⟨k, hk1, rfl, hall, hx⟩ := hrel
    have HA := Lib.hid hall
    have HX := Lib.hid hx
    clear hall
    by_cases hlt : k < l.length
    · obtain ⟨b, q, cs, rfl, _, ⟨rfl, hfit⟩, hc⟩ := HK.out k hlt
      have c0 := Ext.some hx (hc 0 _ rfl)
      simp only [EInt, Nat.mul_one, Nat.add_zero] at c0
      clear hc hfit hx
      by_cases he : nth l k = n
      · have HE := Lib.hid (any_yes hlt he)
        go_wp2_with fail
        go_ret
        exact ⟨ret_bool HE.out.symm, HX.out⟩
      · have HE := Lib.hid (all_succ (p := fun j => isNum n (nth l j) = false) HA.out (by simp [isNum, he]))
        go_wp2_with fail
        go_roundw
        case rel => exact ⟨k + 1, by omega, by go_num, HE.out, HX.out⟩
        case measure => simp [intOf]; omega
    · have HE := Lib.hid (any_no (l := l) (n := n) fun j hj => HA.out j (by omega))
      go_wp2_with fail
      go_ret
      exact ⟨ret_bool HE.out.symm, HX.out⟩
set_option maxHeartbeats 16000000 in
set_option maxRecDepth 100000 in
theorem specYardNode_any {S : Nat → Prop} (y : Yard) (n s : Int) (cs : List Value) (w : World) (h : EYard.rel S w cs y) :
    Calls Tryz.prog 33 #[.agg cs.toArray, .int .i64 n, .int .i64 s] w (RetOS OYardOut (nodeDown y n s) w) := by
  obtain ⟨v1, v2, v3, v4, v5, v6, rfl, hf, h1, h2, h3, h4, h5, h6⟩ := h
  obtain ⟨A1, c1, rfl, -⟩ := h1.form
  obtain ⟨A2, c2, rfl, -⟩ := h2.form
  obtain ⟨A3, c3, rfl, -⟩ := h3.form
  obtain ⟨A4, c4, rfl, -⟩ := h4.form
  obtain ⟨A5, c5, rfl, -⟩ := h5.form
  obtain ⟨A6, c6, rfl, -⟩ := h6.form
  have HF := Lib.hid hf
  have HFC : Hid (FitConfig y.config) := Lib.hid hf.1
  have H1 := Lib.hid h1
  have H2 := Lib.hid h2
  have H3 := Lib.hid h3
  have H4 := Lib.hid h4
  have H5 := Lib.hid h5
  have H6 := Lib.hid h6
  clear hf h1 h2 h3 h4 h5 h6
  simp only [cellsYard]
  obtain ⟨x, hx⟩ : ∃ x, nodeSet y.nodes n s = x := ⟨_, rfl⟩
  have HX := Lib.hid hx
  clear hx
  obtain ⟨t, ht⟩ : ∃ t, yardRight y = t := ⟨_, rfl⟩
  have T := Lib.hid ht
  obtain ⟨c, hc⟩ : ∃ c, x.code = c := ⟨_, rfl⟩
  have HC := Lib.hid hc
  clear ht hc
  go_enter Tryz.func33, Tryz.ntmps33
  go_upto_region 1 with (fail)
  obtain ⟨W, B, hW, hB, hx0, a0, r0⟩ := boxes2 w #[.slice A1 y.config.nodes.length c1, .slice A2 y.config.pairs.length c2, .slice A3 y.config.quotas.length c3, .int .i64 y.config.half, .slice A4 y.nodes.length c4, .slice A5 y.tasks.length c5, .slice A6 y.uses.length c6, .int .i64 y.now] #[.slice none 0 0, .slice none 0 0, .slice none 0 0, .int .i64 0, .slice none 0 0, .slice none 0 0, .slice none 0 0, .int .i64 0, .int .i64 0, .int .i64 0] 44 46
  rw [← hW, ← hB]
  have HB : Hid (w.heap.size ≤ B + 1) := Lib.hid (by omega)
  have QA := Lib.hid a0
  have QR := Lib.hid r0
  have X := Lib.hid hx0
  clear hW hB hx0 a0 r0
  have qa := QA.out.cell
  have HLT : Hid (B + 1 < W.heap.size) := Lib.hid QR.out.lt
  have HXW := Lib.hid X.out
  have XV : Hid (Ext W W) := Lib.hid (Ext.refl W)
  cases t with
  | false =>
    have HE : Hid (nodeDown y n s = illY 1) := Lib.hid (nodeDown_form T.out)
    go_upto_region 2 with (go_at_call 82; (with_reducible refine (specYardRight_is (S := S) y _ _ (rel_Yard HF.out (H1.out.ext X.out) (H2.out.ext X.out) (H3.out.ext X.out) (H4.out.ext X.out) (H5.out.ext X.out) (H6.out.ext X.out)) _ T.out).mono ?_); rintro e w7 ⟨rfl, hx7⟩; replace X := Lib.hid (X.out.trans hx7); replace XV := Lib.hid (XV.out.trans hx7); replace QA := Lib.hid (QA.out.ext hx7); replace QR := Lib.hid (QR.out.ext hx7); clear hx7 qa; have qa := QA.out.cell)
    clear qa
    go_wp2_with (first | (go_at_call 52; (with_reducible refine (l13IllT_any _ _).mono ?_); rintro e w8 ⟨rfl, hx8⟩; have H8 := Lib.hid hx8; clear hx8) | refine wpList_store_mid rfl 46 _ _ rfl (B + 1) 0 #[.slice none 0 0, .slice none 0 0, .slice none 0 0, .int .i64 0, .slice none 0 0, .slice none 0 0, .slice none 0 0, .int .i64 0, .int .i64 0, .int .i64 1] rfl rfl (Blk.there (t := 46) (cs := #[.slice none 0 0, .slice none 0 0, .slice none 0 0, .int .i64 0, .slice none 0 0, .slice none 0 0, .slice none 0 0, .int .i64 0, .int .i64 0, .int .i64 0]) (QR.out.ext H8.out)) (by kernel_rfl) (all_oneCell_toArray (cs := [.slice none 0 0, .slice none 0 0, .slice none 0 0, .int .i64 0, .slice none 0 0, .slice none 0 0, .slice none 0 0, .int .i64 0, .int .i64 0, .int .i64 1]) (by simp [Value.oneCell'])) ?_)
    exact bodyPost_ret (v := .agg #[.slice none 0 0, .slice none 0 0, .slice none 0 0, .int .i64 0, .slice none 0 0, .slice none 0 0, .slice none 0 0, .int .i64 0, .int .i64 0, .int .i64 1]) (results_blk Tryz.results33 rfl (Blk.setAll (t := 46) (cs := #[.slice none 0 0, .slice none 0 0, .slice none 0 0, .int .i64 0, .slice none 0 0, .slice none 0 0, .slice none 0 0, .int .i64 0, .int .i64 0, .int .i64 0]) (vs := #[.slice none 0 0, .slice none 0 0, .slice none 0 0, .int .i64 0, .slice none 0 0, .slice none 0 0, .slice none 0 0, .int .i64 0, .int .i64 0, .int .i64 1]) (QR.out.ext H8.out) rfl) Tryz.underlying46 rfl (by kernel_rfl)) rfl ⟨_, [], rfl, by rw [HE.out]; exact own_ill _ _ (by unfold I64; decide), fun b hb => absurd hb (by simp), setCells_ext HB.out _ _ _ (X.out.trans H8.out)⟩
  | true =>
    by_cases hz : c = 0
    case neg =>
      have HE : Hid (nodeDown y n s = illY c) := Lib.hid (nodeDown_code HX.out T.out HC.out hz)
      go_upto_region 4 with (first | (go_at_call 82; (with_reducible refine (specYardRight_is (S := S) y _ _ (rel_Yard HF.out (H1.out.ext X.out) (H2.out.ext X.out) (H3.out.ext X.out) (H4.out.ext X.out) (H5.out.ext X.out) (H6.out.ext X.out)) _ T.out).mono ?_); rintro e w7 ⟨rfl, hx7⟩; replace X := Lib.hid (X.out.trans hx7); replace XV := Lib.hid (XV.out.trans hx7); replace QA := Lib.hid (QA.out.ext hx7); replace QR := Lib.hid (QR.out.ext hx7); clear hx7 qa; have qa := QA.out.cell) | (go_at_call 88; (with_reducible refine (specNodeSet_any (S := S) y.nodes n s _ _ (H4.out.ext X.out)).mono ?_); rw [HX.out]; rintro e wn ⟨csn, FN, rfl, ⟨un, rfl, hfn, qn⟩, gn, hxn⟩; obtain ⟨pn, kn, rfl, -⟩ := OwS.form qn; have QX := Lib.hid qn; have HFN : Hid (FitNodesOut x) := Lib.hid hfn; have GN : Hid (∀ b ∈ FN, W.heap.size ≤ b) := Lib.hid (fun b hb => Nat.le_trans XV.out.size (gn b hb)); have LN := Lib.hid qn.lt; replace X := Lib.hid (X.out.trans hxn); replace XV := Lib.hid (XV.out.trans hxn); replace QA := Lib.hid (QA.out.ext hxn); replace QR := Lib.hid (QR.out.ext hxn); clear hxn qa; clear qn hfn gn; simp only [cellsNodesOut]; rw [HC.out]))
      have HCI : Hid (I64 c) := Lib.hid (by rw [← HC.out]; exact HFN.out)
      obtain ⟨WN, BN, hWN, hBN, hxN, bN⟩ : ∃ V B, V = wn.alloc (.cells #[.slice pn x.nodes.length kn, .int .i64 c] 114) ∧ B = wn.heap.size ∧ Ext wn V ∧ Blk V B 114 #[.slice pn x.nodes.length kn, .int .i64 c] := ⟨_, _, rfl, rfl, (Ext.refl wn).alloc _, Blk.new _ _ _⟩
      rw [← hWN, ← hBN]
      have QN := Lib.hid bN
      have XN := Lib.hid hxN
      clear hWN hBN bN hxN
      replace X := Lib.hid (X.out.trans XN.out)
      replace XV := Lib.hid (XV.out.trans XN.out)
      replace QA := Lib.hid (QA.out.ext XN.out)
      replace QR := Lib.hid (QR.out.ext XN.out)
      have qn := QN.out.cell
      go_upto_region 5 with (fail)
      clear hz
      go_wp2_with (first | (go_at_call 52; (with_reducible refine (l13IllT_any _ _).mono ?_); rintro e w8 ⟨rfl, hx8⟩; have H8 := Lib.hid hx8; clear hx8) | refine wpList_store_mid rfl 46 _ _ rfl (B + 1) 0 #[.slice none 0 0, .slice none 0 0, .slice none 0 0, .int .i64 0, .slice none 0 0, .slice none 0 0, .slice none 0 0, .int .i64 0, .int .i64 0, .int .i64 c] rfl rfl (Blk.there (t := 46) (cs := #[.slice none 0 0, .slice none 0 0, .slice none 0 0, .int .i64 0, .slice none 0 0, .slice none 0 0, .slice none 0 0, .int .i64 0, .int .i64 0, .int .i64 0]) (QR.out.ext H8.out)) (by kernel_rfl) (all_oneCell_toArray (cs := [.slice none 0 0, .slice none 0 0, .slice none 0 0, .int .i64 0, .slice none 0 0, .slice none 0 0, .slice none 0 0, .int .i64 0, .int .i64 0, .int .i64 c]) (by simp [Value.oneCell'])) ?_)
      exact bodyPost_ret (v := .agg #[.slice none 0 0, .slice none 0 0, .slice none 0 0, .int .i64 0, .slice none 0 0, .slice none 0 0, .slice none 0 0, .int .i64 0, .int .i64 0, .int .i64 c]) (results_blk Tryz.results33 rfl (Blk.setAll (t := 46) (cs := #[.slice none 0 0, .slice none 0 0, .slice none 0 0, .int .i64 0, .slice none 0 0, .slice none 0 0, .slice none 0 0, .int .i64 0, .int .i64 0, .int .i64 0]) (vs := #[.slice none 0 0, .slice none 0 0, .slice none 0 0, .int .i64 0, .slice none 0 0, .slice none 0 0, .slice none 0 0, .int .i64 0, .int .i64 0, .int .i64 c]) (QR.out.ext H8.out) rfl) Tryz.underlying46 rfl (by kernel_rfl)) rfl ⟨_, [], rfl, by rw [HE.out]; exact own_ill _ _ (by exact HCI.out), fun b hb => absurd hb (by simp), setCells_ext HB.out _ _ _ (X.out.trans H8.out)⟩
    case pos =>
      subst hz
      have HFW := Lib.hid (few_yard T.out)
      go_upto_region 4 with (first | (go_at_call 82; (with_reducible refine (specYardRight_is (S := S) y _ _ (rel_Yard HF.out (H1.out.ext X.out) (H2.out.ext X.out) (H3.out.ext X.out) (H4.out.ext X.out) (H5.out.ext X.out) (H6.out.ext X.out)) _ T.out).mono ?_); rintro e w7 ⟨rfl, hx7⟩; replace X := Lib.hid (X.out.trans hx7); replace XV := Lib.hid (XV.out.trans hx7); replace QA := Lib.hid (QA.out.ext hx7); replace QR := Lib.hid (QR.out.ext hx7); clear hx7 qa; have qa := QA.out.cell) | (go_at_call 88; (with_reducible refine (specNodeSet_any (S := S) y.nodes n s _ _ (H4.out.ext X.out)).mono ?_); rw [HX.out]; rintro e wn ⟨csn, FN, rfl, ⟨un, rfl, hfn, qn⟩, gn, hxn⟩; obtain ⟨pn, kn, rfl, -⟩ := OwS.form qn; have QX := Lib.hid qn; have HFN : Hid (FitNodesOut x) := Lib.hid hfn; have GN : Hid (∀ b ∈ FN, W.heap.size ≤ b) := Lib.hid (fun b hb => Nat.le_trans XV.out.size (gn b hb)); have LN := Lib.hid qn.lt; replace X := Lib.hid (X.out.trans hxn); replace XV := Lib.hid (XV.out.trans hxn); replace QA := Lib.hid (QA.out.ext hxn); replace QR := Lib.hid (QR.out.ext hxn); clear hxn qa; clear qn hfn gn; simp only [cellsNodesOut]; rw [HC.out]))
      obtain ⟨WN, BN, hWN, hBN, hxN, bN⟩ : ∃ V B, V = wn.alloc (.cells #[.slice pn x.nodes.length kn, .int .i64 0] 114) ∧ B = wn.heap.size ∧ Ext wn V ∧ Blk V B 114 #[.slice pn x.nodes.length kn, .int .i64 0] := ⟨_, _, rfl, rfl, (Ext.refl wn).alloc _, Blk.new _ _ _⟩
      rw [← hWN, ← hBN]
      have QN := Lib.hid bN
      have XN := Lib.hid hxN
      clear hWN hBN bN hxN
      replace X := Lib.hid (X.out.trans XN.out)
      replace XV := Lib.hid (XV.out.trans XN.out)
      replace QA := Lib.hid (QA.out.ext XN.out)
      replace QR := Lib.hid (QR.out.ext XN.out)
      have qa := QA.out.cell
      have qn := QN.out.cell
      go_upto_region 7 with ((go_at_call 84; (with_reducible refine (l13Copy_own (S := S) y _ _ (rel_Yard HF.out (H1.out.ext X.out) (H2.out.ext X.out) (H3.out.ext X.out) (H4.out.ext X.out) (H5.out.ext X.out) (H6.out.ext X.out)) HFW.out).mono ?_); rintro e w9 ⟨cs9, G9, rfl, ⟨u1, u2, u3, u4, u5, u6, G1, G2, G3, G4, G5, G6, rfl, -, o1, o2, o3, o4, o5, o6, hG, hn⟩, g9, hx9⟩; obtain ⟨p1, k1, rfl, -⟩ := OwS.form o1; obtain ⟨p2, k2, rfl, -⟩ := OwS.form o2; obtain ⟨p3, k3, rfl, -⟩ := OwS.form o3; obtain ⟨p4, k4, rfl, -⟩ := OwS.form o4; obtain ⟨p5, k5, rfl, -⟩ := OwS.form o5; obtain ⟨p6, k6, rfl, -⟩ := OwS.form o6; have O1 := Lib.hid o1; have O2 := Lib.hid o2; have O3 := Lib.hid o3; have O4 := Lib.hid o4; have O5 := Lib.hid o5; have O6 := Lib.hid o6; have HG := Lib.hid hG; have HN := Lib.hid hn; have Z9 := Lib.hid g9; have H9 := Lib.hid hx9; clear o1 o2 o3 o4 o5 o6 hG hn g9 hx9 qa; simp only [cellsYard]))
      clear qn
      have qn9 := fun ob : Obj => (QN.out.ext (H9.out.trans ((Ext.refl w9).alloc ob))).cell
      go_upto_region 8 with (fail)
      clear qn9
      obtain ⟨W9, B9, hW9, hB9, hx9, b9⟩ : ∃ W B, W = w9.alloc (.cells #[.slice p1 y.config.nodes.length k1, .slice p2 y.config.pairs.length k2, .slice p3 y.config.quotas.length k3, .int .i64 y.config.half, .slice pn x.nodes.length kn, .slice p5 y.tasks.length k5, .slice p6 y.uses.length k6, .int .i64 y.now] 44) ∧ B = w9.heap.size ∧ Ext w9 W ∧ Blk W B 44 #[.slice p1 y.config.nodes.length k1, .slice p2 y.config.pairs.length k2, .slice p3 y.config.quotas.length k3, .int .i64 y.config.half, .slice pn x.nodes.length kn, .slice p5 y.tasks.length k5, .slice p6 y.uses.length k6, .int .i64 y.now] := ⟨_, _, rfl, rfl, (Ext.refl w9).alloc _, Blk.new _ _ _⟩
      rw [← hW9, ← hB9]
      have E9 := Lib.hid hB9
      have Q9 := Lib.hid b9
      have XO := Lib.hid hx9
      clear hW9 hB9 hx9 b9
      have RO := Lib.hid (QR.out.ext (H9.out.trans XO.out))
      have GE : Hid (∀ b ∈ G1 ++ (G2 ++ (G3 ++ (G4 ++ (G5 ++ G6)))), WN.heap.size ≤ b) := Lib.hid (by rw [← HG.out]; exact Z9.out)
      have N9 : Hid (B9 ∉ G5) := Lib.hid (fun hm => by have := O5.out.lt B9 hm; have := E9.out; omega)
      have NDP := Lib.hid (nodup_put4 (by rw [← HG.out]; exact HN.out) QX.out.nodup (fun b hb => Nat.lt_of_lt_of_le (LN.out b hb) XN.out.size) GE.out)
      by_cases hs3 : s = 3
      case neg =>
        have HE : Hid (nodeDown y n s = ⟨withT (withN y x.nodes) y.tasks, 0, 0⟩) := Lib.hid (nodeDown_up HX.out T.out HC.out hs3)
        have KW : Hid (Kept G5 W9 W9) := Lib.hid (Kept.refl _ _)
        have PO := Lib.hid (O5.out.ext XO.out)
        have HF5 : Hid (∀ b ∈ G5, b ∈ G5 ∨ W9.heap.size ≤ b) := Lib.hid (fun b hb => .inl hb)
        have q9 := Q9.out.cell
        go_upto_region 9 with (fail)
        go_loopw [9] (fun i w' => i = .int .i64 0 ∧ W9 = w') (fun _ _ => 0)
        case atStart => exact ⟨rfl, rfl⟩
        case round =>
          obtain ⟨rfl, rfl⟩ := hrel
          have h0 : y.tasks.length = 0 ∨ 0 < y.tasks.length := by omega
          rcases h0 with h0 | h0
          · have h1 : ¬ (0 : Int) < (y.tasks.length : Int) := by omega
            clear h0
            have R10 := Lib.hid ((KW.out.block (B + 1) RO.out.lt (fun hm => by have := GE.out (B + 1) (by simp [hm]); have := HLT.out; have := XV.out.size; omega)).trans RO.out)
            go_wp2_with (refine wpList_store_mid rfl 46 _ _ rfl (B + 1) 0 (List.toArray [.slice p1 y.config.nodes.length k1, .slice p2 y.config.pairs.length k2, .slice p3 y.config.quotas.length k3, .int .i64 y.config.half, .slice pn x.nodes.length kn, .slice p5 y.tasks.length k5, .slice p6 y.uses.length k6, .int .i64 y.now, .int .i64 0, .int .i64 0]) rfl rfl (Blk.there (t := 46) (cs := #[.slice none 0 0, .slice none 0 0, .slice none 0 0, .int .i64 0, .slice none 0 0, .slice none 0 0, .slice none 0 0, .int .i64 0, .int .i64 0, .int .i64 0]) R10.out) (by kernel_rfl) (all_oneCell_toArray (cs := [.slice p1 y.config.nodes.length k1, .slice p2 y.config.pairs.length k2, .slice p3 y.config.quotas.length k3, .int .i64 y.config.half, .slice pn x.nodes.length kn, .slice p5 y.tasks.length k5, .slice p6 y.uses.length k6, .int .i64 y.now, .int .i64 0, .int .i64 0]) (by simp [Value.oneCell'])) ?_)
            have OW := own_tasks (y := withN y x.nodes) (l := y.tasks) HF.out (O1.out.ext XO.out) (O2.out.ext XO.out) (O3.out.ext XO.out) (QX.out.ext (XN.out.trans (H9.out.trans XO.out))) (O6.out.ext XO.out) PO.out KW.out NDP.out HF5.out
            have all : ∀ b ∈ G1 ++ (G2 ++ (G3 ++ (FN ++ (G5 ++ G6)))), W.heap.size ≤ b := fun b hb => by
              have szN := XN.out.size
              have szX := XV.out.size
              have sz9 := H9.out.size
              have szO := XO.out.size
              have ge := fun h => GE.out b h
              simp only [List.mem_append] at ge hb
              rcases hb with h | h | h | h | h | h
              · have := ge (by simp [h]); omega
              · have := ge (by simp [h]); omega
              · have := ge (by simp [h]); omega
              · exact GN.out b h
              · rcases HF5.out b h with h | h
                · have := ge (by simp [h]); omega
                · omega
              · have := ge (by simp [h]); omega
            exact bodyPost_ret (v := .agg (List.toArray [.slice p1 y.config.nodes.length k1, .slice p2 y.config.pairs.length k2, .slice p3 y.config.quotas.length k3, .int .i64 y.config.half, .slice pn x.nodes.length kn, .slice p5 y.tasks.length k5, .slice p6 y.uses.length k6, .int .i64 y.now, .int .i64 0, .int .i64 0])) (results_blk Tryz.results33 rfl (Blk.setAll (t := 46) (cs := #[.slice none 0 0, .slice none 0 0, .slice none 0 0, .int .i64 0, .slice none 0 0, .slice none 0 0, .slice none 0 0, .int .i64 0, .int .i64 0, .int .i64 0]) (vs := List.toArray [.slice p1 y.config.nodes.length k1, .slice p2 y.config.pairs.length k2, .slice p3 y.config.quotas.length k3, .int .i64 y.config.half, .slice pn x.nodes.length kn, .slice p5 y.tasks.length k5, .slice p6 y.uses.length k6, .int .i64 y.now, .int .i64 0, .int .i64 0]) R10.out rfl) Tryz.underlying46 rfl (by kernel_rfl)) rfl
              ⟨_, G1 ++ (G2 ++ (G3 ++ (FN ++ (G5 ++ G6)))), rfl, by rw [HE.out]; exact ownk (own_out (y := withT (withN y x.nodes) y.tasks) OW) (Kept.setCells (F := [B + 1]) (by simp) _ _ _ (Kept.refl _ _)) (fun b hb hm => by have := all b hb; have := List.mem_singleton.1 hm; have := HLT.out; omega),
                fun b hb => Nat.le_trans HXW.out.size (all b hb),
                setCells_ext HB.out _ _ _ (Kept.ext (X.out.trans (H9.out.trans XO.out)) KW.out (fun b hb => Nat.le_trans X.out.size (GE.out b (by simp [hb]))))⟩
          · have h1 : (0 : Int) < (y.tasks.length : Int) := by omega
            clear h0
            have R10 := Lib.hid ((KW.out.block (B + 1) RO.out.lt (fun hm => by have := GE.out (B + 1) (by simp [hm]); have := HLT.out; have := XV.out.size; omega)).trans RO.out)
            go_wp2_with (refine wpList_store_mid rfl 46 _ _ rfl (B + 1) 0 (List.toArray [.slice p1 y.config.nodes.length k1, .slice p2 y.config.pairs.length k2, .slice p3 y.config.quotas.length k3, .int .i64 y.config.half, .slice pn x.nodes.length kn, .slice p5 y.tasks.length k5, .slice p6 y.uses.length k6, .int .i64 y.now, .int .i64 0, .int .i64 0]) rfl rfl (Blk.there (t := 46) (cs := #[.slice none 0 0, .slice none 0 0, .slice none 0 0, .int .i64 0, .slice none 0 0, .slice none 0 0, .slice none 0 0, .int .i64 0, .int .i64 0, .int .i64 0]) R10.out) (by kernel_rfl) (all_oneCell_toArray (cs := [.slice p1 y.config.nodes.length k1, .slice p2 y.config.pairs.length k2, .slice p3 y.config.quotas.length k3, .int .i64 y.config.half, .slice pn x.nodes.length kn, .slice p5 y.tasks.length k5, .slice p6 y.uses.length k6, .int .i64 y.now, .int .i64 0, .int .i64 0]) (by simp [Value.oneCell'])) ?_)
            have OW := own_tasks (y := withN y x.nodes) (l := y.tasks) HF.out (O1.out.ext XO.out) (O2.out.ext XO.out) (O3.out.ext XO.out) (QX.out.ext (XN.out.trans (H9.out.trans XO.out))) (O6.out.ext XO.out) PO.out KW.out NDP.out HF5.out
            have all : ∀ b ∈ G1 ++ (G2 ++ (G3 ++ (FN ++ (G5 ++ G6)))), W.heap.size ≤ b := fun b hb => by
              have szN := XN.out.size
              have szX := XV.out.size
              have sz9 := H9.out.size
              have szO := XO.out.size
              have ge := fun h => GE.out b h
              simp only [List.mem_append] at ge hb
              rcases hb with h | h | h | h | h | h
              · have := ge (by simp [h]); omega
              · have := ge (by simp [h]); omega
              · have := ge (by simp [h]); omega
              · exact GN.out b h
              · rcases HF5.out b h with h | h
                · have := ge (by simp [h]); omega
                · omega
              · have := ge (by simp [h]); omega
            exact bodyPost_ret (v := .agg (List.toArray [.slice p1 y.config.nodes.length k1, .slice p2 y.config.pairs.length k2, .slice p3 y.config.quotas.length k3, .int .i64 y.config.half, .slice pn x.nodes.length kn, .slice p5 y.tasks.length k5, .slice p6 y.uses.length k6, .int .i64 y.now, .int .i64 0, .int .i64 0])) (results_blk Tryz.results33 rfl (Blk.setAll (t := 46) (cs := #[.slice none 0 0, .slice none 0 0, .slice none 0 0, .int .i64 0, .slice none 0 0, .slice none 0 0, .slice none 0 0, .int .i64 0, .int .i64 0, .int .i64 0]) (vs := List.toArray [.slice p1 y.config.nodes.length k1, .slice p2 y.config.pairs.length k2, .slice p3 y.config.quotas.length k3, .int .i64 y.config.half, .slice pn x.nodes.length kn, .slice p5 y.tasks.length k5, .slice p6 y.uses.length k6, .int .i64 y.now, .int .i64 0, .int .i64 0]) R10.out rfl) Tryz.underlying46 rfl (by kernel_rfl)) rfl
              ⟨_, G1 ++ (G2 ++ (G3 ++ (FN ++ (G5 ++ G6)))), rfl, by rw [HE.out]; exact ownk (own_out (y := withT (withN y x.nodes) y.tasks) OW) (Kept.setCells (F := [B + 1]) (by simp) _ _ _ (Kept.refl _ _)) (fun b hb hm => by have := all b hb; have := List.mem_singleton.1 hm; have := HLT.out; omega),
                fun b hb => Nat.le_trans HXW.out.size (all b hb),
                setCells_ext HB.out _ _ _ (Kept.ext (X.out.trans (H9.out.trans XO.out)) KW.out (fun b hb => Nat.le_trans X.out.size (GE.out b (by simp [hb]))))⟩
      case pos =>
        subst hs3
        have HE : Hid (nodeDown y n 3 = ⟨withT (withN y x.nodes) (downL n y.tasks), 0, 0⟩) := Lib.hid (nodeDown_down HX.out T.out HC.out)
        have HLN : Hid (y.tasks.length ≤ 96) := Lib.hid (few_tasks (right_tasks T.out))
        have q9 := Q9.out.cell
        go_upto_region 9 with (fail)
        clear q9
        go_loopw [9] (fun i w' => ∃ (k : Nat) (F' : List Nat), k ≤ y.tasks.length ∧ i = .int .i64 k ∧ OwS OTask 87 w' (.slice p5 y.tasks.length k5) (downM n y.tasks k) F' ∧ Kept G5 W9 w' ∧ (∀ b ∈ F', b ∈ G5 ∨ W9.heap.size ≤ b)) (fun i _ => y.tasks.length - (intOf i).toNat)
        case atStart => exact ⟨0, G5, by omega, rfl, by rw [downM_zero]; exact O5.out.ext XO.out, Kept.refl _ _, fun b hb => .inl hb⟩
        case round =>
          obtain ⟨k, F5', hk1, rfl, hown, hkept, hF'⟩ := hrel
          have KW := Lib.hid hkept
          have HF5 := Lib.hid hF'
          have HLE := Lib.hid HLN.out
          have h96 := HLN.out
          have Q10 : Hid (Blk wr B9 44 _) := Lib.hid ((hkept.block B9 Q9.out.lt N9.out).trans Q9.out)
          have q10 := Q10.out.cell
          clear hkept hF'
          by_cases hlt : k < y.tasks.length
          · have PO := Lib.hid hown
            obtain ⟨BT, c5, _, _, hv0, _, _, hBF, _⟩ := O5.out.at2 (k := k) hlt
            injection hv0 with e1 _ e2
            subst e1 e2
            obtain ⟨BX, cX, u1, GT, hv5, -, hfz, hc, hq⟩ := down_row hown hlt
            clear hown
            injection hv5 with e1 _ e2
            injection e1 with e1
            injection e1 with e1
            subst e1 e2
            obtain ⟨AT, cT, rfl, -⟩ := hq.form
            have hx0 := Ext.refl wr
            have hcE : wr.rangeAt BT (k * ETask.size) _ := hc
            have c0 := Ext.some hx0 (hcE 0 _ rfl)
            have c1 := Ext.some hx0 (hcE 1 _ rfl)
            have c2 := Ext.some hx0 (hcE 2 _ rfl)
            have c3 := Ext.some hx0 (hcE 3 _ rfl)
            have c4 := Ext.some hx0 (hcE 4 _ rfl)
            have c5 := Ext.some hx0 (hcE 5 _ rfl)
            have c6 := Ext.some hx0 (hcE 6 _ rfl)
            have c7 := Ext.some hx0 (hcE 7 _ rfl)
            have c8 := Ext.some hx0 (hcE 8 _ rfl)
            have c9 := Ext.some hx0 (hcE 9 _ rfl)
            have c10 := Ext.some hx0 (hcE 10 _ rfl)
            have c11 := Ext.some hx0 (hcE 11 _ rfl)
            have c12 := Ext.some hx0 (hcE 12 _ rfl)
            have c13 := Ext.some hx0 (hcE 13 _ rfl)
            simp only [ETask, Nat.add_zero] at c0 c1 c2 c3 c4 c5 c6 c7 c8 c9 c10 c11 c12 c13
            clear hcE
            have HQ := Lib.hid hq
            have HBF := Lib.hid hBF
            have NB : Hid (B9 ≠ BT) := Lib.hid (fun e => N9.out (by rw [e]; exact hBF))
            clear hc hq hx0 hBF hfz
            by_cases hst : (nth y.tasks k).state = 2
            case neg =>
              have HN := Lib.hid (downM_ne (n := n) hlt hst)
              go_wp2_with fail
              go_roundw
              case rel => exact ⟨k + 1, F5', by omega, by go_num, by rw [HN.out]; exact PO.out.ext ((Ext.refl _).alloc _), KW.out.trans (Kept.of_ext ((Ext.refl _).alloc _)), HF5.out⟩
              case measure => simp [intOf]; omega
            case pos =>
              obtain ⟨g, hg⟩ : ∃ g, (nth y.tasks k).nodes.any (isNum n) = g := ⟨_, rfl⟩
              have HIN : Hid (∀ V, Ext wr V → Calls Tryz.prog 89 #[.slice AT (nth y.tasks k).nodes.length cT, .int .i64 n] V fun e w' => e = .returned (.bool g) ∧ Ext V w') := Lib.hid fun V hV => by rw [← hg]; exact specIn_any (S := fun b => b ∈ GT) _ n _ V (HQ.out.ext hV).rd
              have HGG := Lib.hid hg
              have HST := Lib.hid hst
              clear hg
              cases g with
              | false =>
                have HN := Lib.hid (downM_out hlt HGG.out)
                go_wp2_with (go_at_call 89; (with_reducible refine (HIN.out _ ((Ext.refl _).alloc _)).mono ?_); rintro e w1 ⟨rfl, hx1⟩; have X1 := Lib.hid (((Ext.refl wr).alloc _).trans hx1); clear hx1)
                go_roundw
                case rel => exact ⟨k + 1, F5', by omega, by go_num, by rw [HN.out]; exact PO.out.ext X1.out, KW.out.trans (Kept.of_ext X1.out), HF5.out⟩
                case measure => simp [intOf]; omega
              | true =>
                go_upto_region 13 with (go_at_call 89; (with_reducible refine (HIN.out _ ((Ext.refl _).alloc _)).mono ?_); rintro e w1 ⟨rfl, hx1⟩; have X1 := Lib.hid (((Ext.refl wr).alloc _).trans hx1); clear hx1)
                clear c0 c1 c2 c3 c4 c5 c6 c7 c8 c9 c10 c11 c12 c13 q10 hst
                obtain ⟨BT', c5', t1v, t2v, t3v, hv6, hfz, t1, t2, t3, F6', p6, hF6⟩ := down_yes (PO.out.ext X1.out) hlt HST.out HGG.out
                injection hv6 with e1 _ e2
                injection e1 with e1
                injection e1 with e1
                subst e1 e2
                have P6 := Lib.hid p6
                have HF6 := Lib.hid hF6
                clear p6 hF6
                have q11 := (Q10.out.ext X1.out).cell
                have nb1 := NB.out
                have nb2 := Ne.symm NB.out
                go_wp2_with fail
                go_roundw
                case rel =>
                  refine ⟨k + 1, F6', by omega, by go_num, P6.out, ?_, fun b hb => ?_⟩
                  · exact Kept.setCells HBF.out [.int .i64 1, .int .i64 0, .slice none 0 0] _ _ (KW.out.trans (Kept.of_ext X1.out))
                  · rcases HF6.out b hb with h | h
                    · exact HF5.out b h
                    · exact .inr (Nat.le_trans KW.out.size (Nat.le_trans X1.out.size h))
                case measure => simp [intOf]; omega
          · obtain rfl : k = y.tasks.length := by omega
            rw [downM_full] at hown
            have PO := Lib.hid hown
            clear hown
            have R10 := Lib.hid ((KW.out.block (B + 1) RO.out.lt (fun hm => by have := GE.out (B + 1) (by simp [hm]); have := HLT.out; have := XV.out.size; omega)).trans RO.out)
            go_wp2_with (refine wpList_store_mid rfl 46 _ _ rfl (B + 1) 0 (List.toArray [.slice p1 y.config.nodes.length k1, .slice p2 y.config.pairs.length k2, .slice p3 y.config.quotas.length k3, .int .i64 y.config.half, .slice pn x.nodes.length kn, .slice p5 y.tasks.length k5, .slice p6 y.uses.length k6, .int .i64 y.now, .int .i64 0, .int .i64 0]) rfl rfl (Blk.there (t := 46) (cs := #[.slice none 0 0, .slice none 0 0, .slice none 0 0, .int .i64 0, .slice none 0 0, .slice none 0 0, .slice none 0 0, .int .i64 0, .int .i64 0, .int .i64 0]) R10.out) (by kernel_rfl) (all_oneCell_toArray (cs := [.slice p1 y.config.nodes.length k1, .slice p2 y.config.pairs.length k2, .slice p3 y.config.quotas.length k3, .int .i64 y.config.half, .slice pn x.nodes.length kn, .slice p5 y.tasks.length k5, .slice p6 y.uses.length k6, .int .i64 y.now, .int .i64 0, .int .i64 0]) (by simp [Value.oneCell'])) ?_)
            have OW := own_tasks (y := withN y x.nodes) (l := (downL n y.tasks)) HF.out (O1.out.ext XO.out) (O2.out.ext XO.out) (O3.out.ext XO.out) (QX.out.ext (XN.out.trans (H9.out.trans XO.out))) (O6.out.ext XO.out) PO.out KW.out NDP.out HF5.out
            have all : ∀ b ∈ G1 ++ (G2 ++ (G3 ++ (FN ++ (F5' ++ G6)))), W.heap.size ≤ b := fun b hb => by
              have szN := XN.out.size
              have szX := XV.out.size
              have sz9 := H9.out.size
              have szO := XO.out.size
              have ge := fun h => GE.out b h
              simp only [List.mem_append] at ge hb
              rcases hb with h | h | h | h | h | h
              · have := ge (by simp [h]); omega
              · have := ge (by simp [h]); omega
              · have := ge (by simp [h]); omega
              · exact GN.out b h
              · rcases HF5.out b h with h | h
                · have := ge (by simp [h]); omega
                · omega
              · have := ge (by simp [h]); omega
            exact bodyPost_ret (v := .agg (List.toArray [.slice p1 y.config.nodes.length k1, .slice p2 y.config.pairs.length k2, .slice p3 y.config.quotas.length k3, .int .i64 y.config.half, .slice pn x.nodes.length kn, .slice p5 y.tasks.length k5, .slice p6 y.uses.length k6, .int .i64 y.now, .int .i64 0, .int .i64 0])) (results_blk Tryz.results33 rfl (Blk.setAll (t := 46) (cs := #[.slice none 0 0, .slice none 0 0, .slice none 0 0, .int .i64 0, .slice none 0 0, .slice none 0 0, .slice none 0 0, .int .i64 0, .int .i64 0, .int .i64 0]) (vs := List.toArray [.slice p1 y.config.nodes.length k1, .slice p2 y.config.pairs.length k2, .slice p3 y.config.quotas.length k3, .int .i64 y.config.half, .slice pn x.nodes.length kn, .slice p5 y.tasks.length k5, .slice p6 y.uses.length k6, .int .i64 y.now, .int .i64 0, .int .i64 0]) R10.out rfl) Tryz.underlying46 rfl (by kernel_rfl)) rfl
              ⟨_, G1 ++ (G2 ++ (G3 ++ (FN ++ (F5' ++ G6)))), rfl, by rw [HE.out]; exact ownk (own_out (y := withT (withN y x.nodes) (downL n y.tasks)) OW) (Kept.setCells (F := [B + 1]) (by simp) _ _ _ (Kept.refl _ _)) (fun b hb hm => by have := all b hb; have := List.mem_singleton.1 hm; have := HLT.out; omega),
                fun b hb => Nat.le_trans HXW.out.size (all b hb),
                setCells_ext HB.out _ _ _ (Kept.ext (X.out.trans (H9.out.trans XO.out)) KW.out (fun b hb => Nat.le_trans X.out.size (GE.out b (by simp [hb]))))⟩
set_option maxHeartbeats 32000000 in
set_option maxRecDepth 100000 in
theorem yardNode_any {S : Nat → Prop} (y : Yard) (n st : Int) (cs : List Value) (w : World) (h : EYard.rel S w cs y) :
    Calls Tryz.prog 34 #[.agg cs.toArray, .int .i64 n, .int .i64 st] w (RetOS OYardOut (nodeDown y n st) w) := by
  obtain ⟨v1, v2, v3, v4, v5, v6, rfl, hf, h1, h2, h3, h4, h5, h6⟩ := h
  obtain ⟨A1, c1, rfl, -⟩ := h1.form
  obtain ⟨A2, c2, rfl, -⟩ := h2.form
  obtain ⟨A3, c3, rfl, -⟩ := h3.form
  obtain ⟨A4, c4, rfl, -⟩ := h4.form
  obtain ⟨A5, c5, rfl, -⟩ := h5.form
  obtain ⟨A6, c6, rfl, -⟩ := h6.form
  have HF := Lib.hid hf
  have HFC : Hid (FitConfig y.config) := Lib.hid hf.1
  have H1 := Lib.hid h1
  have H2 := Lib.hid h2
  have H3 := Lib.hid h3
  have H4 := Lib.hid h4
  have H5 := Lib.hid h5
  have H6 := Lib.hid h6
  clear hf h1 h2 h3 h4 h5 h6
  simp only [cellsYard]
  obtain ⟨m, hm⟩ : ∃ m, nodeY y (nodeSet y.nodes n st) = m := ⟨_, rfl⟩
  have HME := Lib.hid hm
  obtain ⟨cd, hcd⟩ : ∃ c, m.code = c := ⟨_, rfl⟩
  have HCD := Lib.hid hcd
  clear hm hcd
  go_enter Tryz.func34, Tryz.ntmps34
  go_upto_region 1 with (fail)
  obtain ⟨W, B, hW, hB, hx0, a0, b0, d0, r0⟩ := boxes4 w #[.slice A1 y.config.nodes.length c1, .slice A2 y.config.pairs.length c2, .slice A3 y.config.quotas.length c3, .int .i64 y.config.half, .slice A4 y.nodes.length c4, .slice A5 y.tasks.length c5, .slice A6 y.uses.length c6, .int .i64 y.now] #[.int .i64 n] #[.int .i64 st] #[.slice none 0 0, .slice none 0 0, .slice none 0 0, .int .i64 0, .slice none 0 0, .slice none 0 0, .slice none 0 0, .int .i64 0, .int .i64 0, .int .i64 0] 44 2 2 46
  rw [← hW, ← hB]
  have HB : Hid (w.heap.size ≤ B + 1 + 1 + 1) := Lib.hid (by omega)
  have QA := Lib.hid a0
  have QB := Lib.hid b0
  have QD := Lib.hid d0
  have QR := Lib.hid r0
  have X := Lib.hid hx0
  clear hW hB hx0 a0 b0 d0 r0
  have qa := QA.out.cell
  have qb := QB.out.cell
  have HCL : Hid (∀ (v : Value) (V : World), Ext W V → Rd ENode S V v y.nodes → Calls Tryz.prog 90 (#[v] ++ #[.pointer (some ⟨B + 1, 0, none⟩), .pointer (some ⟨B + 1 + 1, 0, none⟩)]) V (RetOS ONodesOut (nodeSet y.nodes n st) V)) := Lib.hid (fun v V hV hr => by rw [caps_two]; exact node1_any (S := S) y.nodes n st v _ _ V hr ((QB.out.ext hV).cell 0) ((QD.out.ext hV).cell 0))
  go_upto_region 2 with (go_at_call 85; (with_reducible refine (withNodes_any (S := S) y _ (nodeSet y.nodes n st) 90 #[.pointer (some ⟨B + 1, 0, none⟩), .pointer (some ⟨B + 1 + 1, 0, none⟩)] _ (rel_Yard HF.out (H1.out.ext X.out) (H2.out.ext X.out) (H3.out.ext X.out) (H4.out.ext X.out) (H5.out.ext X.out) (H6.out.ext X.out)) call_Node1 HCL.out).mono ?_); rw [HME.out]; rintro e w8 ⟨cs8, F8, rfl, o8, g8, hx8⟩; obtain ⟨u1, u2, u3, u4, u5, u6, F1, F2, F3, F4, F5, F6, rfl, f8, o1, o2, o3, o4, o5, o6, hF8, hn8⟩ := id o8; obtain ⟨P1, K1, rfl, -⟩ := OwS.form o1; obtain ⟨P2, K2, rfl, -⟩ := OwS.form o2; obtain ⟨P3, K3, rfl, -⟩ := OwS.form o3; obtain ⟨P4, K4, rfl, -⟩ := OwS.form o4; obtain ⟨P5, K5, rfl, n5, m5⟩ := OwS.form o5; unfold maxLen at m5; obtain ⟨P6, K6, rfl, -⟩ := OwS.form o6; have O8 := Lib.hid o8; have G8 := Lib.hid g8; have H8 := Lib.hid hx8; have O1 := Lib.hid o1; have O2 := Lib.hid o2; have O3 := Lib.hid o3; have O4 := Lib.hid o4; have O5 := Lib.hid o5; have O6 := Lib.hid o6; have FT := Lib.hid f8; have HFF := Lib.hid hF8; have HNN := Lib.hid hn8; clear o8 g8 hx8 f8 o1 o2 o3 o4 o5 o6 hF8 hn8 qa qb; simp only [cellsYardOut]; rw [HCD.out])
  obtain ⟨W9, B9, hW9, hB9, hx9, b9⟩ : ∃ W B, W = w8.alloc (.cells (List.toArray [.slice P1 m.yard.config.nodes.length K1, .slice P2 m.yard.config.pairs.length K2, .slice P3 m.yard.config.quotas.length K3, .int .i64 m.yard.config.half, .slice P4 m.yard.nodes.length K4, .slice P5 m.yard.tasks.length K5, .slice P6 m.yard.uses.length K6, .int .i64 m.yard.now, .int .i64 m.id, .int .i64 cd]) 46) ∧ B = w8.heap.size ∧ Ext w8 W ∧ Blk W B 46 (List.toArray [.slice P1 m.yard.config.nodes.length K1, .slice P2 m.yard.config.pairs.length K2, .slice P3 m.yard.config.quotas.length K3, .int .i64 m.yard.config.half, .slice P4 m.yard.nodes.length K4, .slice P5 m.yard.tasks.length K5, .slice P6 m.yard.uses.length K6, .int .i64 m.yard.now, .int .i64 m.id, .int .i64 cd]) := ⟨_, _, rfl, rfl, (Ext.refl w8).alloc _, Blk.new _ _ _⟩
  rw [← hW9, ← hB9]
  have E9 := Lib.hid hB9
  have Q9 := Lib.hid b9
  have XO := Lib.hid hx9
  clear hW9 hB9 hx9 b9
  have R9 := Lib.hid (QR.out.ext (H8.out.trans XO.out))
  have QB9 := Lib.hid (QB.out.ext (H8.out.trans XO.out))
  have qd9 := (QD.out.ext (H8.out.trans XO.out)).cell
  have q9 := Q9.out.cell
  by_cases hz : cd = 0
  case neg =>
    have HE : Hid (nodeDown y n st = m) := Lib.hid (nodeDown_keep HME.out HCD.out (.inl hz))
    go_upto_region 3 with (fail)
    clear hz qd9
    go_wp2_with (refine wpList_store_mid rfl 46 _ _ rfl (B + 1 + 1 + 1) 0 (List.toArray [.slice P1 m.yard.config.nodes.length K1, .slice P2 m.yard.config.pairs.length K2, .slice P3 m.yard.config.quotas.length K3, .int .i64 m.yard.config.half, .slice P4 m.yard.nodes.length K4, .slice P5 m.yard.tasks.length K5, .slice P6 m.yard.uses.length K6, .int .i64 m.yard.now, .int .i64 m.id, .int .i64 cd]) rfl rfl (Blk.there (t := 46) (cs := #[.slice none 0 0, .slice none 0 0, .slice none 0 0, .int .i64 0, .slice none 0 0, .slice none 0 0, .slice none 0 0, .int .i64 0, .int .i64 0, .int .i64 0]) R9.out) (by kernel_rfl) (all_oneCell_toArray (cs := [.slice P1 m.yard.config.nodes.length K1, .slice P2 m.yard.config.pairs.length K2, .slice P3 m.yard.config.quotas.length K3, .int .i64 m.yard.config.half, .slice P4 m.yard.nodes.length K4, .slice P5 m.yard.tasks.length K5, .slice P6 m.yard.uses.length K6, .int .i64 m.yard.now, .int .i64 m.id, .int .i64 cd]) (by simp [Value.oneCell'])) ?_)
    have OC : OYardOut.own w8 [.slice P1 m.yard.config.nodes.length K1, .slice P2 m.yard.config.pairs.length K2, .slice P3 m.yard.config.quotas.length K3, .int .i64 m.yard.config.half, .slice P4 m.yard.nodes.length K4, .slice P5 m.yard.tasks.length K5, .slice P6 m.yard.uses.length K6, .int .i64 m.yard.now, .int .i64 m.id, .int .i64 cd] m F8 := by
      have o := O8.out
      simp only [cellsYardOut] at o
      rw [HCD.out] at o
      exact o
    exact bodyPost_ret (v := .agg (List.toArray [.slice P1 m.yard.config.nodes.length K1, .slice P2 m.yard.config.pairs.length K2, .slice P3 m.yard.config.quotas.length K3, .int .i64 m.yard.config.half, .slice P4 m.yard.nodes.length K4, .slice P5 m.yard.tasks.length K5, .slice P6 m.yard.uses.length K6, .int .i64 m.yard.now, .int .i64 m.id, .int .i64 cd])) (results_blk Tryz.results34 rfl (Blk.setAll (t := 46) (cs := #[.slice none 0 0, .slice none 0 0, .slice none 0 0, .int .i64 0, .slice none 0 0, .slice none 0 0, .slice none 0 0, .int .i64 0, .int .i64 0, .int .i64 0]) (vs := List.toArray [.slice P1 m.yard.config.nodes.length K1, .slice P2 m.yard.config.pairs.length K2, .slice P3 m.yard.config.quotas.length K3, .int .i64 m.yard.config.half, .slice P4 m.yard.nodes.length K4, .slice P5 m.yard.tasks.length K5, .slice P6 m.yard.uses.length K6, .int .i64 m.yard.now, .int .i64 m.id, .int .i64 cd]) R9.out rfl) Tryz.underlying46 rfl (by kernel_rfl)) rfl
      ⟨_, F8, rfl, by rw [HE.out]; exact ownk OC (Kept.setCells (F := [B + 1 + 1 + 1]) (by simp) _ _ _ (Kept.of_ext XO.out)) (fun b hb hm => by have := G8.out b hb; have := QR.out.lt; have := List.mem_singleton.1 hm; omega), fun b hb => Nat.le_trans X.out.size (G8.out b hb), setCells_ext HB.out _ _ _ (X.out.trans (H8.out.trans XO.out))⟩
  case pos =>
    subst hz
    by_cases hs : st = 3
    case neg =>
      have HE : Hid (nodeDown y n st = m) := Lib.hid (nodeDown_keep HME.out HCD.out (.inr hs))
      go_upto_region 3 with (fail)
      clear hs qd9
      go_wp2_with (refine wpList_store_mid rfl 46 _ _ rfl (B + 1 + 1 + 1) 0 (List.toArray [.slice P1 m.yard.config.nodes.length K1, .slice P2 m.yard.config.pairs.length K2, .slice P3 m.yard.config.quotas.length K3, .int .i64 m.yard.config.half, .slice P4 m.yard.nodes.length K4, .slice P5 m.yard.tasks.length K5, .slice P6 m.yard.uses.length K6, .int .i64 m.yard.now, .int .i64 m.id, .int .i64 0]) rfl rfl (Blk.there (t := 46) (cs := #[.slice none 0 0, .slice none 0 0, .slice none 0 0, .int .i64 0, .slice none 0 0, .slice none 0 0, .slice none 0 0, .int .i64 0, .int .i64 0, .int .i64 0]) R9.out) (by kernel_rfl) (all_oneCell_toArray (cs := [.slice P1 m.yard.config.nodes.length K1, .slice P2 m.yard.config.pairs.length K2, .slice P3 m.yard.config.quotas.length K3, .int .i64 m.yard.config.half, .slice P4 m.yard.nodes.length K4, .slice P5 m.yard.tasks.length K5, .slice P6 m.yard.uses.length K6, .int .i64 m.yard.now, .int .i64 m.id, .int .i64 0]) (by simp [Value.oneCell'])) ?_)
      have OC : OYardOut.own w8 [.slice P1 m.yard.config.nodes.length K1, .slice P2 m.yard.config.pairs.length K2, .slice P3 m.yard.config.quotas.length K3, .int .i64 m.yard.config.half, .slice P4 m.yard.nodes.length K4, .slice P5 m.yard.tasks.length K5, .slice P6 m.yard.uses.length K6, .int .i64 m.yard.now, .int .i64 m.id, .int .i64 0] m F8 := by
        have o := O8.out
        simp only [cellsYardOut] at o
        rw [HCD.out] at o
        exact o
      exact bodyPost_ret (v := .agg (List.toArray [.slice P1 m.yard.config.nodes.length K1, .slice P2 m.yard.config.pairs.length K2, .slice P3 m.yard.config.quotas.length K3, .int .i64 m.yard.config.half, .slice P4 m.yard.nodes.length K4, .slice P5 m.yard.tasks.length K5, .slice P6 m.yard.uses.length K6, .int .i64 m.yard.now, .int .i64 m.id, .int .i64 0])) (results_blk Tryz.results34 rfl (Blk.setAll (t := 46) (cs := #[.slice none 0 0, .slice none 0 0, .slice none 0 0, .int .i64 0, .slice none 0 0, .slice none 0 0, .slice none 0 0, .int .i64 0, .int .i64 0, .int .i64 0]) (vs := List.toArray [.slice P1 m.yard.config.nodes.length K1, .slice P2 m.yard.config.pairs.length K2, .slice P3 m.yard.config.quotas.length K3, .int .i64 m.yard.config.half, .slice P4 m.yard.nodes.length K4, .slice P5 m.yard.tasks.length K5, .slice P6 m.yard.uses.length K6, .int .i64 m.yard.now, .int .i64 m.id, .int .i64 0]) R9.out rfl) Tryz.underlying46 rfl (by kernel_rfl)) rfl
        ⟨_, F8, rfl, by rw [HE.out]; exact ownk OC (Kept.setCells (F := [B + 1 + 1 + 1]) (by simp) _ _ _ (Kept.of_ext XO.out)) (fun b hb hm => by have := G8.out b hb; have := QR.out.lt; have := List.mem_singleton.1 hm; omega), fun b hb => Nat.le_trans X.out.size (G8.out b hb), setCells_ext HB.out _ _ _ (X.out.trans (H8.out.trans XO.out))⟩
    case pos =>
      subst hs
      have HE : Hid (nodeDown y n 3 = ⟨withT m.yard (downL n m.yard.tasks), m.id, m.code⟩) := Lib.hid (nodeDown_loop HME.out HCD.out)
      have N9 : Hid (B9 ∉ F5) := Lib.hid (fun hm => by have := O5.out.lt B9 hm; have := E9.out; omega)
      have FS : Hid (∀ b ∈ F5, W.heap.size ≤ b) := Lib.hid (fun b hb => G8.out b (by rw [HFF.out]; simp [hb]))
      have M5 := Lib.hid m5
      have N5 := Lib.hid n5
      go_upto_region 5 with (fail)
      clear q9 qd9
      go_loopw [25] (fun i w' => ∃ (k : Nat) (F' : List Nat), k ≤ m.yard.tasks.length ∧ i = .int .i64 k ∧ OwS OTask 87 w' (.slice P5 m.yard.tasks.length K5) (downM n m.yard.tasks k) F' ∧ Kept F5 W9 w' ∧ (∀ b ∈ F', b ∈ F5 ∨ W9.heap.size ≤ b)) (fun i _ => m.yard.tasks.length - (intOf i).toNat)
      case atStart => exact ⟨0, F5, by omega, rfl, by rw [downM_zero]; exact O5.out.ext XO.out, Kept.refl _ _, fun b hb => .inl hb⟩
      case round =>
        obtain ⟨k, F5', hk1, rfl, hown, hkept, hF'⟩ := hrel
        have KW := Lib.hid hkept
        have HF5 := Lib.hid hF'
        have Q10 : Hid (Blk wr B9 46 _) := Lib.hid ((hkept.block B9 Q9.out.lt N9.out).trans Q9.out)
        have q10 := Q10.out.cell
        by_cases hlt : k < m.yard.tasks.length
        · have PO := Lib.hid hown
          have QN : Hid (Blk wr (B + 1) 2 _) := Lib.hid ((hkept.block (B + 1) QB9.out.lt (fun hm => by have := FS.out _ hm; have := QR.out.lt; omega)).trans QB9.out)
          obtain ⟨BT, c5, _, _, hv0, _, _, hBF, _⟩ := O5.out.at2 (k := k) hlt
          injection hv0 with e1 _ e2
          subst e1 e2
          obtain ⟨BX, cX, u1', GT, hv5, -, hfz, hc, hq⟩ := down_row hown hlt
          clear hown hkept hF'
          injection hv5 with e1 _ e2
          injection e1 with e1
          injection e1 with e1
          subst e1 e2
          obtain ⟨AT, cT, rfl, -⟩ := hq.form
          have hx0 := Ext.refl wr
          have hcE : wr.rangeAt BT (k * ETask.size) _ := hc
          have c0 := Ext.some hx0 (hcE 0 _ rfl)
          have c1 := Ext.some hx0 (hcE 1 _ rfl)
          have c2 := Ext.some hx0 (hcE 2 _ rfl)
          have c3 := Ext.some hx0 (hcE 3 _ rfl)
          have c4 := Ext.some hx0 (hcE 4 _ rfl)
          have c5 := Ext.some hx0 (hcE 5 _ rfl)
          have c6 := Ext.some hx0 (hcE 6 _ rfl)
          have c7 := Ext.some hx0 (hcE 7 _ rfl)
          have c8 := Ext.some hx0 (hcE 8 _ rfl)
          have c9 := Ext.some hx0 (hcE 9 _ rfl)
          have c10 := Ext.some hx0 (hcE 10 _ rfl)
          have c11 := Ext.some hx0 (hcE 11 _ rfl)
          have c12 := Ext.some hx0 (hcE 12 _ rfl)
          have c13 := Ext.some hx0 (hcE 13 _ rfl)
          simp only [ETask, Nat.add_zero] at c0 c1 c2 c3 c4 c5 c6 c7 c8 c9 c10 c11 c12 c13
          clear hcE
          have HQ := Lib.hid hq
          have HBF := Lib.hid hBF
          have cn := QN.out.cell 0
          clear hc hq hx0 hBF hfz c0 c1 c2 c3 c4 c5 c6 c7 c8 c9 c10 c12
          obtain ⟨g, hg⟩ : ∃ g, (nth m.yard.tasks k).nodes.any (isNum n) = g := ⟨_, rfl⟩
          have HIN : Hid (∀ V, Ext wr V → Calls Tryz.prog 92 #[.slice AT (nth m.yard.tasks k).nodes.length cT, .int .i64 n] V fun e w' => e = .returned (.bool g) ∧ Ext V w') := Lib.hid fun V hV => by rw [← hg]; exact containsInt_any (S := fun b => b ∈ GT) _ n _ V (HQ.out.ext hV).rd
          have HGG := Lib.hid hg
          clear hg
          by_cases hst : (nth m.yard.tasks k).state = 2
          case neg =>
            have HN := Lib.hid (downM_ne (n := n) hlt hst)
            go_wp2_with fail
            refine wp_region_ext (by kernel_rfl) (by kernel_rfl) ?_
            repeat (
              (refine wpQuiet_step (fun K hK => ?_)
               go_simp
               first
                | (refine hK _ ?_; clear hK K)
                | (apply Exists.intro
                   refine ⟨fun w__ hx__ => ?_, hK _ ?_⟩
                   · have c11__ := Ext.some hx__ c11; have c13__ := Ext.some hx__ c13; have cn__ := Ext.some hx__ cn; first | exact rfl | (go_simp; done) | (go_simp; exact rfl) | (go_at_call 92; exact ext_of hx__ (HIN.out _ hx__))
                   clear hK K)))
            refine wpQuiet_nil ?_
            intro w1 hx1
            have X1 := Lib.hid hx1
            clear hx1
            go_wp2_with fail
            refine ⟨⟨k + 1, F5', by omega, by go_num, by rw [HN.out]; exact PO.out.ext X1.out, KW.out.trans (Kept.of_ext X1.out), HF5.out⟩, ?_⟩
            simp [intOf]; omega
          case pos =>
            have HST := Lib.hid hst
            cases g with
            | false =>
              have HN := Lib.hid (downM_out hlt HGG.out)
              go_wp2_with fail
              refine wp_region_ext (by kernel_rfl) (by kernel_rfl) ?_
              repeat (
                (refine wpQuiet_step (fun K hK => ?_)
                 go_simp
                 first
                  | (refine hK _ ?_; clear hK K)
                  | (apply Exists.intro
                     refine ⟨fun w__ hx__ => ?_, hK _ ?_⟩
                     · have c11__ := Ext.some hx__ c11; have c13__ := Ext.some hx__ c13; have cn__ := Ext.some hx__ cn; first | exact rfl | (go_simp; done) | (go_simp; exact rfl) | (go_at_call 92; exact ext_of hx__ (HIN.out _ hx__))
                     clear hK K)))
              refine wpQuiet_nil ?_
              intro w1 hx1
              have X1 := Lib.hid hx1
              clear hx1
              go_wp2_with fail
              refine ⟨⟨k + 1, F5', by omega, by go_num, by rw [HN.out]; exact PO.out.ext X1.out, KW.out.trans (Kept.of_ext X1.out), HF5.out⟩, ?_⟩
              simp [intOf]; omega
            | true =>
              go_wp2_with fail
              refine wp_region_ext (by kernel_rfl) (by kernel_rfl) ?_
              repeat (
                (refine wpQuiet_step (fun K hK => ?_)
                 go_simp
                 first
                  | (refine hK _ ?_; clear hK K)
                  | (apply Exists.intro
                     refine ⟨fun w__ hx__ => ?_, hK _ ?_⟩
                     · have c11__ := Ext.some hx__ c11; have c13__ := Ext.some hx__ c13; have cn__ := Ext.some hx__ cn; first | exact rfl | (go_simp; done) | (go_simp; exact rfl) | (go_at_call 92; exact ext_of hx__ (HIN.out _ hx__))
                     clear hK K)))
              refine wpQuiet_nil ?_
              intro w1 hx1
              have X1 := Lib.hid hx1
              clear hx1 c11 c13 cn hst q10
              obtain ⟨BT', c5', t1v, t2v, t3v, hv6, hfz, t1, t2, t3, F6', p6, hF6⟩ := down_yes (PO.out.ext X1.out) hlt HST.out HGG.out
              injection hv6 with e1 _ e2
              injection e1 with e1
              injection e1 with e1
              subst e1 e2
              have P6 := Lib.hid p6
              have HF6 := Lib.hid hF6
              clear p6 hF6
              go_wp2_with (go_at_call 81; (with_reducible refine (clearY_any BT (k * 14) 1 _ _ _ _ hfz t1 t2 t3).mono ?_); rintro e w2 ⟨rfl, rfl⟩)
              refine ⟨⟨k + 1, F6', by omega, by go_num, P6.out, Kept.setCells HBF.out [.int .i64 1, .int .i64 0, .slice none 0 0] _ _ (KW.out.trans (Kept.of_ext X1.out)), fun b hb => ?_⟩, by simp [intOf]; omega⟩
              rcases HF6.out b hb with h | h
              · exact HF5.out b h
              · exact .inr (Nat.le_trans KW.out.size (Nat.le_trans X1.out.size h))
        · obtain rfl : k = m.yard.tasks.length := by omega
          rw [downM_full] at hown
          have PO := Lib.hid hown
          clear hown hkept hF'
          have R10 := Lib.hid ((KW.out.block (B + 1 + 1 + 1) R9.out.lt (fun hm => by have := FS.out _ hm; have := QR.out.lt; omega)).trans R9.out)
          go_wp2_with (refine wpList_store_mid rfl 46 _ _ rfl (B + 1 + 1 + 1) 0 (List.toArray [.slice P1 m.yard.config.nodes.length K1, .slice P2 m.yard.config.pairs.length K2, .slice P3 m.yard.config.quotas.length K3, .int .i64 m.yard.config.half, .slice P4 m.yard.nodes.length K4, .slice P5 m.yard.tasks.length K5, .slice P6 m.yard.uses.length K6, .int .i64 m.yard.now, .int .i64 m.id, .int .i64 0]) rfl rfl (Blk.there (t := 46) (cs := #[.slice none 0 0, .slice none 0 0, .slice none 0 0, .int .i64 0, .slice none 0 0, .slice none 0 0, .slice none 0 0, .int .i64 0, .int .i64 0, .int .i64 0]) R10.out) (by kernel_rfl) (all_oneCell_toArray (cs := [.slice P1 m.yard.config.nodes.length K1, .slice P2 m.yard.config.pairs.length K2, .slice P3 m.yard.config.quotas.length K3, .int .i64 m.yard.config.half, .slice P4 m.yard.nodes.length K4, .slice P5 m.yard.tasks.length K5, .slice P6 m.yard.uses.length K6, .int .i64 m.yard.now, .int .i64 m.id, .int .i64 0]) (by simp [Value.oneCell'])) ?_)
          have OC := own_tasksO (l := downL n m.yard.tasks) FT.out (O1.out.ext XO.out) (O2.out.ext XO.out) (O3.out.ext XO.out) (O4.out.ext XO.out) (O6.out.ext XO.out) PO.out KW.out (by rw [← HFF.out]; exact HNN.out) HF5.out
          rw [HCD.out] at OC
          have all : ∀ b ∈ F1 ++ (F2 ++ (F3 ++ (F4 ++ (F5' ++ F6)))), W.heap.size ≤ b := set_ge (by rw [← HFF.out]; exact G8.out) HF5.out (Nat.le_trans H8.out.size XO.out.size)
          exact bodyPost_ret (v := .agg (List.toArray [.slice P1 m.yard.config.nodes.length K1, .slice P2 m.yard.config.pairs.length K2, .slice P3 m.yard.config.quotas.length K3, .int .i64 m.yard.config.half, .slice P4 m.yard.nodes.length K4, .slice P5 m.yard.tasks.length K5, .slice P6 m.yard.uses.length K6, .int .i64 m.yard.now, .int .i64 m.id, .int .i64 0])) (results_blk Tryz.results34 rfl (Blk.setAll (t := 46) (cs := #[.slice none 0 0, .slice none 0 0, .slice none 0 0, .int .i64 0, .slice none 0 0, .slice none 0 0, .slice none 0 0, .int .i64 0, .int .i64 0, .int .i64 0]) (vs := List.toArray [.slice P1 m.yard.config.nodes.length K1, .slice P2 m.yard.config.pairs.length K2, .slice P3 m.yard.config.quotas.length K3, .int .i64 m.yard.config.half, .slice P4 m.yard.nodes.length K4, .slice P5 m.yard.tasks.length K5, .slice P6 m.yard.uses.length K6, .int .i64 m.yard.now, .int .i64 m.id, .int .i64 0]) R10.out rfl) Tryz.underlying46 rfl (by kernel_rfl)) rfl
            ⟨_, F1 ++ (F2 ++ (F3 ++ (F4 ++ (F5' ++ F6)))), rfl, by rw [HE.out, HCD.out]; exact ownk OC (Kept.setCells (F := [B + 1 + 1 + 1]) (by simp) _ _ _ (Kept.refl _ _)) (fun b hb hm => by have := all b hb; have := QR.out.lt; have := List.mem_singleton.1 hm; omega), fun b hb => Nat.le_trans X.out.size (all b hb), setCells_ext HB.out _ _ _ (Kept.ext (X.out.trans (H8.out.trans XO.out)) KW.out (fun b hb => Nat.le_trans X.out.size (FS.out b hb)))⟩
end Go.Proofs.YtngldifgcgblpaaGreat
