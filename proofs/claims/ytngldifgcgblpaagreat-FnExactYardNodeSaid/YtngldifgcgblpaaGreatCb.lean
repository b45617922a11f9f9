/- What the laws YardCancel, YardFinish, YardFree, YardHold, YardModify, YardNode need, and no others. Laid by wip/split.py. -/
import Derived.Test.YtngldifgcgblpaaGreatYardCp
import Derived.Test.YtngldifgcgblpaaGreatYardS
import Derived.Test.YtngldifgcgblpaaGreatNodeC
import Derived.Test.YtngldifgcgblpaaGreatCopies
import Derived.Test.YtngldifgcgblpaaGreatCounts
import Derived.Test.YtngldifgcgblpaaGreatYardTt
namespace Go.Proofs.YtngldifgcgblpaaGreat
open Go.RowKit
attribute [local irreducible] wpQuiet
def withTask (x : Task) (s : Int) : Task := ⟨x.label, x.id, x.owner, x.need, x.long, x.prio, x.under, x.after, x.born, s, 0, []⟩
theorem range_backY {w : World} {B o : Nat} {a b b' : List Value} (h : w.rangeAt B o (a ++ b)) (ht : w.there B (o + a.length) b'.length) : (w.setCells B (o + a.length) b').rangeAt B o (a ++ b') := by
  intro j u hj
  by_cases hlt : j < a.length
  · rw [World.cell?_setCells_out B b' (o + a.length) w ⟨B, o + j, none⟩ (fun _ _ => by simp only; omega)]
    rw [List.getElem?_append_left hlt] at hj
    exact h j u (by rw [List.getElem?_append_left hlt]; exact hj)
  · rw [List.getElem?_append_right (by omega)] at hj
    have := World.rangeAt_setCells_same w B (o + a.length) b' ht (j - a.length) u hj
    rwa [show o + a.length + (j - a.length) = o + j by omega] at this
theorem there_subY {w : World} {B o n m : Nat} {i : Nat} (h : w.there B o n) (hi : i + m ≤ n) : w.there B (o + i) m := fun j hj => by
  have := h (i + j) (by omega)
  rwa [← Nat.add_assoc] at this
theorem fit_with {x : Task} {s : Int} (h : FitTask x) (hs : I64 s) : FitTask (withTask x s) := by
  obtain ⟨h1, h2, h3, h4, h5, h6, h7, h8, h9, h10, h11, _, _⟩ := h
  exact ⟨h1, h2, h3, h4, h5, h6, h7, h8, h9, h10, h11, hs, by simp [I64, withTask]⟩
set_option maxHeartbeats 2000000 in
theorem turn_rows {l : List Task} {v : Value} {F : List Nat} {w : World} {k : Nat} {s : Int} (h : OwS OTask 87 w v l F) (hk : k < l.length) (hs : I64 s) :
    ∃ B c u1 u2 u3, v = .slice (some ⟨B, 0, none⟩) l.length c ∧ B ∈ F ∧ (∀ i, w.frozen? ⟨B, i, none⟩ = false) ∧ w.cell? ⟨B, k * 14 + 11, none⟩ = some u1 ∧ w.cell? ⟨B, k * 14 + 12, none⟩ = some u2 ∧ w.cell? ⟨B, k * 14 + 13, none⟩ = some u3 ∧
      ∃ F', OwS OTask 87 (w.setCells B (k * 14 + 11) [.int .i64 s, .int .i64 0, .slice none 0 0]) v (l.set k (withTask (nth l k) s)) F' ∧ ∀ b ∈ F', b ∈ F ∨ w.heap.size ≤ b := by
  obtain ⟨B, c, G, cs, hv, hlc, hcm, hBF, hBG, hGF, ho, hc, hfz, hth, hrow, hset⟩ := h.at2 hk
  obtain ⟨u1, rfl, hfit, q1⟩ := ho
  refine ⟨B, c, _, _, _, hv, hBF, hfz, by simpa [ETask] using hc 11 _ rfl, by simpa [ETask] using hc 12 _ rfl, by simpa [ETask] using hc 13 _ rfl, ?_⟩
  refine hset _ (withTask (nth l k) s) (cellsTask (withTask (nth l k) s) (.slice none 0 0)) [] (Kept.setCells (by simp) _ _ _ (Kept.refl _ _)) (RowBut.setCells _ _ _ hrow (by simp only [ETask]; omega) (by simp only [ETask, List.length_cons, List.length_nil]; omega)) ⟨_, rfl, fit_with hfit hs, OwS.nil _⟩ (fun b hb => absurd hb (by simp)) ?_
  exact range_backY (a := [.int .i64 (nth l k).label.level, .int .i64 (nth l k).label.set, .int .i64 (nth l k).id, .string (nth l k).owner, .int .i64 (nth l k).need, .int .i64 (nth l k).long, .int .i64 (nth l k).prio, .int .i64 (nth l k).under.level, .int .i64 (nth l k).under.set, .int .i64 (nth l k).after, .int .i64 (nth l k).born]) (b := [.int .i64 (nth l k).state, .int .i64 (nth l k).start, u1]) hc (there_subY hth (by simp [ETask]))
/-- One row of six is another now, in memory that was its own or is new. -/
theorem nodup_swap {A F5 F5' F6 : List Nat} {n : Nat} (hd : (A ++ (F5 ++ F6)).Nodup) (h5 : F5'.Nodup) (hs : ∀ b ∈ F5', b ∈ F5 ∨ n ≤ b) (lA : ∀ b ∈ A, b < n) (l6 : ∀ b ∈ F6, b < n) : (A ++ (F5' ++ F6)).Nodup := by
  obtain ⟨hA, h56, hAd⟩ := List.nodup_append.1 hd
  obtain ⟨_, h6, h56d⟩ := List.nodup_append.1 h56
  refine nodup_two hA (nodup_two h5 h6 fun b hb hc => ?_) fun b hb hc => ?_
  · rcases hs b hb with h | h
    · exact h56d b h b hc rfl
    · have := l6 b hc; omega
  · rcases List.mem_append.1 hc with hc | hc
    · rcases hs b hc with h | h
      · exact hAd b hb b (List.mem_append_left _ h) rfl
      · have := lA b hb; omega
    · exact hAd b hb b (List.mem_append_right _ hc) rfl
theorem set_ge {F1 F2 F3 F4 F5 F5' F6 : List Nat} {n m : Nat} (h : ∀ b ∈ F1 ++ (F2 ++ (F3 ++ (F4 ++ (F5 ++ F6)))), n ≤ b) (h5 : ∀ b ∈ F5', b ∈ F5 ∨ m ≤ b) (hm : n ≤ m) : ∀ b ∈ F1 ++ (F2 ++ (F3 ++ (F4 ++ (F5' ++ F6)))), n ≤ b := fun b hb => by
  simp only [List.mem_append] at hb h
  rcases hb with hb | hb | hb | hb | hb | hb
  · exact h b (by simp [hb])
  · exact h b (by simp [hb])
  · exact h b (by simp [hb])
  · exact h b (by simp [hb])
  · rcases h5 b hb with h' | h'
    · exact h b (by simp [h'])
    · omega
  · exact h b (by simp [hb])
end Go.Proofs.YtngldifgcgblpaaGreat
namespace Go.Proofs.YtngldifgcgblpaaGreat
open Go.RowKit
attribute [local irreducible] wpQuiet
end Go.Proofs.YtngldifgcgblpaaGreat
namespace Go.Proofs.YtngldifgcgblpaaGreat
open Go.RowKit
attribute [local irreducible] wpQuiet
set_option maxHeartbeats 2000000 in
theorem clearY_any (B o : Nat) (st : Int) (w : World) (u1 u2 u3 : Value) (f : ∀ i, w.frozen? ⟨B, i, none⟩ = false) (c1 : w.cell? ⟨B, o + 11, none⟩ = some u1) (c2 : w.cell? ⟨B, o + 12, none⟩ = some u2) (c3 : w.cell? ⟨B, o + 13, none⟩ = some u3) :
    Calls Tryz.prog 81 #[.pointer (some ⟨B, o, none⟩), .int .i64 st] w fun e w' => e = .returned (.tuple #[]) ∧ w' = w.setCells B (o + 11) [.int .i64 st, .int .i64 0, .slice none 0 0] := by
  go_enter Tryz.func81, Tryz.ntmps81
  go_wp2_with fail
  go_end0
  exact ⟨rfl, rfl⟩
end Go.Proofs.YtngldifgcgblpaaGreat
