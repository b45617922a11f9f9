/- Rows of spans in memory, cell by cell; copy of elements of several cells. slices.Insert of spans: the cells that it writes. slices.Insert of one span into a slice that has its memory for itself. -/
import Derived.Test.YtdhcbbbmajjehaaDelete
import Derived.Test.YtdhcbbbmajjehaaGOwn
import Derived.Test.YtdhcbbbmajjehaaShelf
import Derived.Shelf.Spec.SlicesInsertGrow
namespace Go.Proofs.Ytdhcbbbmajjehaa
open Go.RowKit

/-- copy(d, s): n elements of z cells each. -/
theorem run_copy_z {P : Program} (w : World) (dT sT ty elem : TypeId) (z n b o dLen dCap : Nat) (a : Addr) (sLen sCap : Nat) (cs : List Value)
    (hu : P.underlying dT = some (.slice elem)) (hs : (P.info? elem).map (·.size) = some z) (hn : n = Nat.min sLen dLen) (hcl : cs.length = n * z)
    (hsrc : ∀ j v, cs[j]? = some v → w.cell? (a.add j) = some v) (hc : w.there b o cs.length) (h1 : ∀ v ∈ cs, v.oneCell' = true) :
    (Builtin.copy_ #[dT, sT] ty #[.slice (some ⟨b, o, none⟩) dLen dCap, .slice (some a) sLen sCap]).run P w = .ok (goInt n) (w.setCells b o cs) := by
  have hl := run_loadCells_list (P := P) w a cs hsrc
  have hst := run_storeCells_cells (P := P) b o cs 0 w (fun j hj => by rw [Nat.add_zero]; exact (hc j hj).1) (fun j hj => by rw [Nat.add_zero]; exact (hc j hj).2) h1
  cases hq : P.info? elem with
  | none => simp [hq] at hs
  | some i =>
    have hi : i.size = z := by simpa [hq] using hs
    rw [hcl] at hl
    simp only [Nat.add_zero] at hst
    simp [Builtin.copy_, run_underlying hu, Builtin.lenOf, Builtin.firstCells, sizeOf, typeInfo, hq, hi, ← hn, hl, hst]

def rowC : List Span → List Value
  | [] => []
  | x :: l => .int .i64 x.from_ :: .int .i64 x.to_ :: rowC l
theorem rowC_length : ∀ l, (rowC l).length = l.length * 2
  | [] => rfl
  | x :: l => by rw [rowC, List.length_cons, List.length_cons, rowC_length l, List.length_cons]; omega
theorem rowC_append : ∀ a b, rowC (a ++ b) = rowC a ++ rowC b
  | [], b => rfl
  | x :: a, b => by rw [List.cons_append, rowC, rowC_append a b]; rfl
theorem rowC_one : ∀ l, ∀ v ∈ rowC l, v.oneCell' = true
  | [], v, h => by cases h
  | x :: l, v, h => by
    rw [rowC, List.mem_cons, List.mem_cons] at h
    rcases h with rfl | rfl | h
    · rfl
    · rfl
    · exact rowC_one l v h
theorem rowC_get : ∀ (l : List Span) (k j : Nat), k < l.length → j < 2 → (rowC l)[k * 2 + j]? = (cellsSpan (nth l k))[j]?
  | [], k, _, h, _ => absurd h (Nat.not_lt_zero _)
  | x :: l, 0, j, _, hj => by
    rcases j with _ | _ | j
    · rfl
    · rfl
    · omega
  | x :: l, k + 1, j, h, hj => by
    rw [show (k + 1) * 2 + j = (k * 2 + j) + 2 by omega]
    exact rowC_get l k j (by simpa using h) hj
theorem rowC_drop (l : List Span) (k : Nat) : rowC l = rowC (l.take k) ++ rowC (l.drop k) := by
  rw [← rowC_append, List.take_append_drop]

theorem range_append {w : World} {B o : Nat} {a b : List Value} (h1 : w.rangeAt B o a) (h2 : w.rangeAt B (o + a.length) b) : w.rangeAt B o (a ++ b) := by
  intro j u hj
  by_cases hlt : j < a.length
  · rw [List.getElem?_append_left hlt] at hj
    exact h1 j u hj
  · rw [List.getElem?_append_right (by omega)] at hj
    have := h2 _ u hj
    rwa [show o + a.length + (j - a.length) = o + j by omega] at this
theorem range_left {w : World} {B o : Nat} {a b : List Value} (h : w.rangeAt B o (a ++ b)) : w.rangeAt B o a := fun j u hj => h j u (by rw [List.getElem?_append_left (List.getElem?_eq_some_iff.1 hj).1]; exact hj)
theorem range_right {w : World} {B o : Nat} {a b : List Value} (h : w.rangeAt B o (a ++ b)) : w.rangeAt B (o + a.length) b := fun j u hj => by
  have := h (a.length + j) u (by rw [List.getElem?_append_right (by omega), Nat.add_sub_cancel_left]; exact hj)
  rwa [← Nat.add_assoc] at this

variable {T : TypeId} {w w' : World} {v : Value} {l : List Span} {F : List Nat}
/-- A slice of spans with memory of its own: its block, cell by cell. -/
theorem own_row (h : OwS OSpan T w v l F) (hl : 0 < l.length) : ∃ (B c : Nat) (C : Array Value), v = .slice (some ⟨B, 0, none⟩) l.length c ∧ Blk w B T C ∧ C.size = c * 2 ∧ l.length ≤ c ∧ c ≤ maxLen ∧ F = [B] ∧ w.rangeAt B 0 (rowC l) ∧ ∀ x ∈ l, FitSpan x := by
  obtain ⟨A, c0, hv0, hc0, _⟩ := h.form
  obtain ⟨B0, hB0⟩ : ∃ B0, A = some ⟨B0, 0, none⟩ := by
    rcases h with ⟨rfl, _⟩ | ⟨B, _, _, _, hv, _⟩
    · simp at hl
    · rw [hv] at hv0; injection hv0 with e1; exact ⟨B, e1.symm⟩
  subst hB0
  subst hv0
  have hF := OwS.flat_blocks h (by omega)
  rcases h with ⟨rfl, _⟩ | ⟨B, c, C, Fs, hv, hB, h1, h2, h3, hlF, h4, hn, hk⟩
  · simp at hl
  · injection hv with e1 e2 e3
    cases e1
    subst e3
    refine ⟨_, _, C, rfl, hB, h3, h1, h2, hF, fun j u hj => ?_, fun x hx => ?_⟩
    · have hj2 : j < l.length * 2 := by rw [← rowC_length]; exact (List.getElem?_eq_some_iff.1 hj).1
      have hk' : j / 2 < l.length := by omega
      obtain ⟨cs, ho, hc⟩ := hk _ hk'
      obtain ⟨⟨rfl, _⟩, _⟩ := ho
      have e : j = j / 2 * 2 + j % 2 := by omega
      rw [e, rowC_get l _ _ hk' (by omega)] at hj
      have := hc (j % 2) u hj
      rw [Nat.zero_add, e]
      exact this
    · obtain ⟨i, hi, rfl⟩ := List.getElem_of_mem hx
      obtain ⟨cs, ho, _⟩ := hk i hi
      rw [← nth_eq hi]
      exact ho.1.2
/-- .. and back. -/
theorem row_own {B c : Nat} {C : Array Value} (hB : Blk w B T C) (hC : C.size = c * 2) (hr : w.rangeAt B 0 (rowC l)) (hl : l.length ≤ c) (hm : c ≤ maxLen) (hf : ∀ x ∈ l, FitSpan x) : OwS OSpan T w (.slice (some ⟨B, 0, none⟩) l.length c) l [B] := by
  refine .inr ⟨B, c, C, List.replicate l.length [], rfl, hB, hl, hm, hC, by simp, by rw [flat_flatten], by simp, fun k hk => ⟨cellsSpan (nth l k), ⟨⟨rfl, hf _ (nth_mem hk)⟩, flat_list (α := Span) hk⟩, fun j u hj => ?_⟩⟩
  have hj2 : j < 2 := (List.getElem?_eq_some_iff.1 hj).1
  have := hr (k * 2 + j) u (by rw [rowC_get l k j hk hj2]; exact hj)
  rwa [Nat.zero_add] at this
theorem blk_set {B : Nat} {C : Array Value} (h : Blk w B T C) (o : Nat) (vs : List Value) : ∃ C' : Array Value, Blk (w.setCells B o vs) B T C' ∧ C'.size = C.size := setCells_heap vs w o C h
end Go.Proofs.Ytdhcbbbmajjehaa

namespace Go.Proofs.Ytdhcbbbmajjehaa
open Go.RowKit Go.Lib
attribute [local irreducible] wpQuiet

theorem isSome_set {B o : Nat} {vs : List Value} {w : World} {n : Nat} (h : w.there B 0 n) (ho : o + vs.length ≤ n) : (w.setCells B o vs).there B 0 n := fun j hj => by
  rw [Nat.zero_add]
  exact ⟨isSome_setCells B vs o w (fun t ht => by have := (h (o + t) (by omega)).1; rwa [Nat.zero_add] at this) j (by have := (h j hj).1; rwa [Nat.zero_add] at this), by rw [World.frozen?_setCells]; have := (h j hj).2; rwa [Nat.zero_add] at this⟩
theorem there_at {w : World} {B n o m : Nat} (h : w.there B 0 n) (hm : o + m ≤ n) : w.there B o m := fun j hj => by have := h (o + j) (by omega); rwa [Nat.zero_add] at this

set_option maxHeartbeats 4000000 in
set_option maxRecDepth 100000 in
/-- There is room, i < len(s): in place. -/
theorem ins_shift (B n c i vb m vc : Nat) (cs vs : List Value) (w : World) (hi : i < n) (hm : 0 < m) (hroom : n + m ≤ c) (hc63 : c ≤ 9223372036854775807) (hvb : vb ≠ B)
    (hcl : cs.length = n * 2) (hvl : vs.length = m * 2) (hcs : w.rangeAt B 0 cs) (hth : w.there B 0 (c * 2)) (hvs : w.rangeAt vb 0 vs) (h1c : ∀ v ∈ cs, v.oneCell' = true) (h1v : ∀ v ∈ vs, v.oneCell' = true)
    (tA tB : TypeId) (kA kB : Nat) (hsa : w.shape? vb = some (tA, kA)) (hsb : w.shape? B = some (tB, kB)) (hkB : kB ≠ 0) (hfa : w.frozen? ⟨vb, 0, none⟩ = false) (hfe : w.frozen? ⟨vb, kA, none⟩ = false) :
    Calls Try.prog 181 #[.slice (some ⟨B, 0, none⟩) n c, .int .i64 i, .slice (some ⟨vb, 0, none⟩) m vc] w fun e w' =>
      e = .returned (.slice (some ⟨B, 0, none⟩) (n + m) c) ∧ w' = (w.drew.setCells B ((i + m) * 2) (cs.drop (i * 2))).setCells B (i * 2) vs := by
  have mixed : Try.prog.follows Departure.mixedOrders = true := by kernel_rfl
  have hz1 : ¬ ((m : Int) = 0) := by omega
  have hz2 : ¬ ((i : Int) = (n : Int)) := by omega
  have hsz : (Try.prog.info? 38).map (·.size) = some 2 := by kernel_rfl
  have hz : ∀ w, (Go.sizeOf 38).run Try.prog w = .ok 2 w := by intro w; go_simp
  have hov : ∀ lb cb, (callFunc 232 #[.slice (some ⟨vb, 0, none⟩) m vc, .slice (some ⟨B, (i + m) * 2, none⟩) lb cb]).run Try.prog w = .ok (.value (.bool false)) w := fun lb cb => by
    rw [run_callFunc_extern Try.func232 (by kernel_rfl) (by kernel_rfl) (by kernel_rfl) (e := Extern.SlicesOverlaps.overlaps #[52, 52] #[4]) (by kernel_rfl),
      Lib.run_overlaps_apart w 52 4 38 Try.underlying52 2 hz ⟨vb, 0, none⟩ ⟨B, (i + m) * 2, none⟩ m vc lb cb hvb tA tB kA kB hsa hsb hkB hfa hfe]
    rfl
  have hdl : (cs.drop (i * 2)).length = (n - i) * 2 := by rw [List.length_drop, hcl]; omega
  have hw1 : IntKind.i64.wrap ((i : Int) + (m : Int)) = (i : Int) + (m : Int) := by rw [IntKind.wrap_i64]; omega
  have hw2 : IntKind.i64.wrap ((n : Int) + (m : Int)) = (n : Int) + (m : Int) := by rw [IntKind.wrap_i64]; omega
  have hb1 : (0 : Int) ≤ (i : Int) + (m : Int) := by omega
  have hin : i ≤ n := by omega
  have htn : ((i : Int) + (m : Int)).toNat = i + m := by omega
  have htn2 : ((n : Int) + (m : Int)).toNat = n + m := by omega
  have hb2 : ¬ (c = i + m) := by omega
  have hb3 : (i : Int) ≤ (n : Int) + (m : Int) := by omega
  have hb4 : ¬ (c = i) := by omega
  have hcp1 : ∀ ty dc sc, (Builtin.copy_ #[52, 52] ty #[.slice (some ⟨B, (i + m) * 2, none⟩) (n + m - (i + m)) dc, .slice (some ⟨B, i * 2, none⟩) (n + m - i) sc]).run Try.prog w.drew = .ok (goInt (n - i : Nat)) (w.drew.setCells B ((i + m) * 2) (cs.drop (i * 2))) := fun ty dc sc =>
    run_copy_z w.drew _ _ ty 38 2 (n - i) B ((i + m) * 2) (n + m - (i + m)) dc ⟨B, i * 2, none⟩ (n + m - i) sc (cs.drop (i * 2)) Try.underlying52 hsz (by simp only [Nat.min_def]; split <;> omega) hdl
      (fun j v hj => by
        rw [Addr.add_mid]
        have := hcs (i * 2 + j) v (by rwa [List.getElem?_drop] at hj)
        rw [Nat.zero_add] at this
        exact this)
      (there_at (n := c * 2) (fun j hj => hth j hj) (by rw [hdl]; omega)) (fun v hv => h1c v (List.mem_of_mem_drop hv))
  obtain ⟨W1, hW1⟩ : ∃ W1, W1 = w.drew.setCells B ((i + m) * 2) (cs.drop (i * 2)) := ⟨_, rfl⟩
  have hth1 : W1.there B 0 (c * 2) := by
    rw [hW1]
    exact isSome_set (w := w.drew) (fun j hj => hth j hj) (by rw [hdl]; omega)
  have hcp2 : ∀ (W : World), (∀ x, W.cell? x = W1.cell? x) → (∀ x, W.frozen? x = W1.frozen? x) → ∀ ty dc, (Builtin.copy_ #[52, 52] ty #[.slice (some ⟨B, i * 2, none⟩) (n + m - i) dc, .slice (some ⟨vb, 0, none⟩) m vc]).run Try.prog W = .ok (goInt m) (W.setCells B (i * 2) vs) := fun W hWc hWf ty dc =>
    run_copy_z W _ _ ty 38 2 m B (i * 2) (n + m - i) dc ⟨vb, 0, none⟩ m vc vs Try.underlying52 hsz (by simp only [Nat.min_def]; split <;> omega) hvl
      (fun j v hj => by
        rw [Addr.add_mid, hWc, hW1, World.cell?_setCells_out B _ _ _ _ (fun h _ => absurd h hvb)]
        exact hvs j v hj)
      (fun j hj => by rw [hWc, hWf]; exact there_at hth1 (m := vs.length) (by rw [hvl]; omega) j hj) h1v
  rw [← hW1] at hcp1
  go_enter Try.func181, Try.ntmps181
  go_wp2_with (simp only [hov])
  go_region_law_o (refine step_copy_runI rfl _ _ 52 52 rfl _ _ (by simp [Act.eval, Act.put]) (by simp [Act.eval, Act.put]) (hcp1 _ _ _) ?_)
  go_wp2_with (at_builtin; refine wpList_copy_runI _ rfl _ _ 52 52 rfl _ _ rfl rfl (hcp2 _ (fun _ => rfl) (fun _ => rfl) _ _) ?_)
  go_ret
  first | exact ⟨rfl, rfl⟩ | exact ⟨rfl, by rw [hW1]⟩

set_option maxHeartbeats 4000000 in
set_option maxRecDepth 100000 in
/-- No room, i < len(s): a new row. -/
theorem ins_grow (B n c i vb m vc : Nat) (cs vs : List Value) (w : World) (hi : i < n) (hm : 0 < m) (hnc : n ≤ c) (hroom : c < n + m) (hbig : (n + m) * 16 ≤ 140737488355328)
    (hcl : cs.length = n * 2) (hvl : vs.length = m * 2) (hcs : w.rangeAt B 0 cs) (hvs : w.rangeAt vb 0 vs) (h1c : ∀ v ∈ cs, v.oneCell' = true) (h1v : ∀ v ∈ vs, v.oneCell' = true) :
    Calls Try.prog 181 #[.slice (some ⟨B, 0, none⟩) n c, .int .i64 i, .slice (some ⟨vb, 0, none⟩) m vc] w fun e w' =>
      ∃ (G : Nat) (ROW : Array Value), e = .returned (.slice (some ⟨w.heap.size, 0, none⟩) (n + m) G) ∧ n + m ≤ G ∧ G ≤ maxLen ∧ ROW.size = G * 2 ∧ (∀ (j : Nat) (v : Value), (cs.take (i * 2))[j]? = some v → ROW[j]? = some v) ∧
      w' = (((w.alloc (.cells ROW 38)).drew.setCells w.heap.size (i * 2) vs).drew).setCells w.heap.size ((i + m) * 2) (cs.drop (i * 2)) := by
  obtain ⟨i0, hi0, hz0, hzs, hzb⟩ := info_parts (P := Try.prog) (e := 38) (z := .agg #[.int .i64 0, .int .i64 0]) (size := 2) (bytes := 16) (by kernel_rfl)
  have mixed : Try.prog.follows Departure.mixedOrders = true := by kernel_rfl
  have hz1 : ¬ ((m : Int) = 0) := by omega
  have hz2 : ¬ ((i : Int) = (n : Int)) := by omega
  have hz3 : (c : Int) < (n : Int) + (m : Int) := by omega
  have hsz : (Try.prog.info? 38).map (·.size) = some 2 := by kernel_rfl
  have hbw : B < w.heap.size := block_lt_of_cell (hcs 0 _ (List.getElem?_eq_getElem (by omega)))
  have hvw : vb < w.heap.size := block_lt_of_cell (hvs 0 _ (List.getElem?_eq_getElem (by omega)))
  have hkk : (n : Int) + (m : Int) - (i : Int) = ((n + m - i : Nat) : Int) := by omega
  have hik : i + (n + m - i) = n + m := by omega
  have hold : (Builtin.firstCells i0.size i (.slice (some ⟨B, 0, none⟩) i c)).run Try.prog w.drew = .ok (cs.take (i * 2)).toArray w.drew := by
    rw [hzs]
    exact run_firstCells_some w.drew 2 i ⟨B, 0, none⟩ i c (cs.take (i * 2)) (by rw [List.length_take]; omega) (fun j v hj => by
      rw [Addr.add_mid]
      rw [List.getElem?_take] at hj
      split at hj
      · exact hcs j v hj
      · cases hj)
  have hrz : ∀ ty, (Builtin.append_ #[52, 3] ty #[.slice (some ⟨B, 0, none⟩) i c, .int .i64 ((n : Int) + (m : Int) - (i : Int))]).run Try.prog w =
      .ok (.slice (some ⟨w.heap.size, 0, none⟩) (n + m) (grownCap w (n + m) c 38)) (w.drew.alloc (.cells ((cs.take (i * 2)).toArray ++ Builtin.zeroCells (Value.agg #[.int .i64 0, .int .i64 0]).cells (n + m - i) ++ Builtin.zeroCells (Value.agg #[.int .i64 0, .int .i64 0]).cells (grownCap w (n + m) c 38 - (n + m))) 38)) := fun ty => by
    have h := Lib.run_append_grow_zeros (P := Try.prog) w 52 3 ty 38 i0 _ .i64 .i64 Try.underlying52 Try.underlying3 hi0 hz0 (some ⟨B, 0, none⟩) i c (cs.take (i * 2)) hold (n + m - i) (by omega) (by omega) (by omega) (by omega) (by rw [hzb]; omega) (by rw [hzb, hik]; exact growslice_fits hroom hbig)
    rw [hik] at h
    rw [hkk]
    exact h
  obtain ⟨G, hG⟩ : ∃ G, G = grownCap w (n + m) c 38 := ⟨_, rfl⟩
  obtain ⟨ROW, hROW⟩ : ∃ ROW : Array Value, ROW = (cs.take (i * 2)).toArray ++ Builtin.zeroCells (Value.agg #[.int .i64 0, .int .i64 0]).cells (n + m - i) ++ Builtin.zeroCells (Value.agg #[.int .i64 0, .int .i64 0]).cells (G - (n + m)) := ⟨_, rfl⟩
  rw [← hG] at hrz
  rw [← hROW] at hrz
  have hGn : n + m ≤ G := by rw [hG]; exact grownCap_ge w _ _ _
  have hGm : G ≤ maxLen := by rw [hG]; exact grownCap_le_maxLen w (n + m) c 38 (by unfold maxLen; omega)
  have hRs : ROW.size = G * 2 := by
    rw [hROW, Array.size_append, Array.size_append, List.size_toArray, List.length_take, size_zeroCells, size_zeroCells]
    simp only [Value.cells, Array.size]
    simp
    omega
  have hRt : ∀ (j : Nat) (v : Value), (cs.take (i * 2))[j]? = some v → ROW[j]? = some v := fun j v hj => by
    have hj2 := (List.getElem?_eq_some_iff.1 hj).1
    rw [hROW, Array.append_assoc, Array.getElem?_append_left (by rw [List.size_toArray]; exact hj2), List.getElem?_toArray]
    exact hj
  have HG := Lib.hid hGn
  have HGm := Lib.hid hGm
  have HRs := Lib.hid hRs
  have HRt := Lib.hid hRt
  obtain ⟨W1, hW1⟩ : ∃ W1, W1 = w.drew.alloc (.cells ROW 38) := ⟨_, rfl⟩
  rw [← hW1] at hrz
  have hN : W1.there w.heap.size 0 (G * 2) := by
    rw [hW1]
    exact cells_there (C := ROW) (heap_alloc_new w.drew _) (by rw [hRs]; omega)
  have hOb : ∀ j v, w.cell? ⟨B, j, none⟩ = some v → W1.cell? ⟨B, j, none⟩ = some v := fun j v h => by rw [hW1, World.cell?_alloc_past (w := w.drew) _ B j hbw]; exact h
  have hOv : ∀ j v, w.cell? ⟨vb, j, none⟩ = some v → W1.cell? ⟨vb, j, none⟩ = some v := fun j v h => by rw [hW1, World.cell?_alloc_past (w := w.drew) _ vb j hvw]; exact h
  have hcpA : ∀ (W : World), (∀ x, W.cell? x = W1.cell? x) → (∀ x, W.frozen? x = W1.frozen? x) → ∀ ty dc, (Builtin.copy_ #[52, 52] ty #[.slice (some ⟨w.heap.size, i * 2, none⟩) (n + m - i) dc, .slice (some ⟨vb, 0, none⟩) m vc]).run Try.prog W = .ok (goInt m) (W.setCells w.heap.size (i * 2) vs) := fun W hWc hWf ty dc =>
    run_copy_z W _ _ ty 38 2 m w.heap.size (i * 2) (n + m - i) dc ⟨vb, 0, none⟩ m vc vs Try.underlying52 hsz (by simp only [Nat.min_def]; split <;> omega) hvl
      (fun j v hj => by rw [Addr.add_mid, hWc]; exact hOv _ v (hvs j v hj))
      (fun j hj => by rw [hWc, hWf]; exact there_at hN (m := vs.length) (by rw [hvl]; omega) j hj) h1v
  have hG63 : G ≤ 9223372036854775807 := by
    have := hGm
    unfold maxLen at this
    omega
  have hGi : ¬ (G = i) := by omega
  have hGim : ¬ (G = i + m) := by omega
  have hci : ¬ (c = i) := by omega
  have hbN : B ≠ w.heap.size := by omega
  have hdl : (cs.drop (i * 2)).length = (n - i) * 2 := by rw [List.length_drop, hcl]; omega
  have hcpB : ∀ (W : World), (∀ x, W.cell? x = (W1.setCells w.heap.size (i * 2) vs).cell? x) → (∀ x, W.frozen? x = (W1.setCells w.heap.size (i * 2) vs).frozen? x) → ∀ ty dc sc, (Builtin.copy_ #[52, 52] ty #[.slice (some ⟨w.heap.size, (i + m) * 2, none⟩) (n + m - (i + m)) dc, .slice (some ⟨B, i * 2, none⟩) (n - i) sc]).run Try.prog W = .ok (goInt (n - i : Nat)) (W.setCells w.heap.size ((i + m) * 2) (cs.drop (i * 2))) := fun W hWc hWf ty dc sc =>
    run_copy_z W _ _ ty 38 2 (n - i) w.heap.size ((i + m) * 2) (n + m - (i + m)) dc ⟨B, i * 2, none⟩ (n - i) sc (cs.drop (i * 2)) Try.underlying52 hsz (by simp only [Nat.min_def]; split <;> omega) hdl
      (fun j v hj => by
        rw [Addr.add_mid, hWc, World.cell?_setCells_out _ _ _ _ _ (fun h _ => absurd h hbN)]
        have := hcs (i * 2 + j) v (by rwa [List.getElem?_drop] at hj)
        rw [Nat.zero_add] at this
        exact hOb _ v this)
      (fun j hj => by rw [hWc, hWf]; exact there_at (isSome_set hN (by rw [hvl]; omega)) (m := (cs.drop (i * 2)).length) (by rw [hdl]; omega) j hj) (fun v hv => h1c v (List.mem_of_mem_drop hv))
  subst hW1
  have hE1 : ∀ x, ((w.alloc (.cells ROW 38)).drew).cell? x = (w.drew.alloc (.cells ROW 38)).cell? x := fun x => rfl
  have hE2 : ∀ x, ((w.alloc (.cells ROW 38)).drew).frozen? x = (w.drew.alloc (.cells ROW 38)).frozen? x := fun x => rfl
  have hF1 : ∀ x, (((w.alloc (.cells ROW 38)).drew.setCells w.heap.size (i * 2) vs).drew).cell? x = ((w.drew.alloc (.cells ROW 38)).setCells w.heap.size (i * 2) vs).cell? x := fun x => rfl
  have hF2 : ∀ x, (((w.alloc (.cells ROW 38)).drew.setCells w.heap.size (i * 2) vs).drew).frozen? x = ((w.drew.alloc (.cells ROW 38)).setCells w.heap.size (i * 2) vs).frozen? x := fun x => rfl
  have hw1 : IntKind.i64.wrap ((i : Int) + (m : Int)) = (i : Int) + (m : Int) := by rw [IntKind.wrap_i64]; omega
  have hw2 : IntKind.i64.wrap ((n : Int) + (m : Int)) = (n : Int) + (m : Int) := by rw [IntKind.wrap_i64]; omega
  have hw3 : IntKind.i64.wrap ((n : Int) + (m : Int) - (i : Int)) = (n : Int) + (m : Int) - (i : Int) := by rw [IntKind.wrap_i64]; omega
  have hb1 : (0 : Int) ≤ (i : Int) + (m : Int) := by omega
  have hin : i ≤ n := by omega
  have htn : ((i : Int) + (m : Int)).toNat = i + m := by omega
  have hb3 : (i : Int) ≤ (n : Int) := by omega
  clear hkk hik hold hROW hG hRt hRs hN hOb hOv hGm
  go_enter Try.func181, Try.ntmps181
  go_wp2_with (first
    | (at_builtin; refine Lib.wpList_append_run _ rfl _ _ _ _ rfl _ _ rfl rfl _ _ (hrz _) ?_)
    | (at_builtin; refine wpList_copy_runI _ rfl _ _ 52 52 rfl _ _ rfl rfl (hcpA _ hE1 hE2 _ _) ?_)
    | (at_builtin; refine wpList_copy_runI _ rfl _ _ 52 52 rfl _ _ rfl rfl (hcpB _ (fun _ => rfl) (fun _ => rfl) _ _ _) ?_))
  go_region_law_o (refine step_copy_runI rfl _ _ 52 52 rfl (.slice (some ⟨w.heap.size, (i + m) * 2, none⟩) (n + m - (i + m)) (G - (i + m))) (.slice (some ⟨B, i * 2, none⟩) (n - i) (c - i)) (by simp [Act.eval, Act.put]) (by simp [Act.eval, Act.put]) (hcpB _ hF1 hF2 3 (G - (i + m)) (c - i)) ?_)
  go_wp2
  go_ret
  exact ⟨G, ROW, rfl, HG.out, HGm.out, HRs.out, HRt.out, rfl⟩
end Go.Proofs.Ytdhcbbbmajjehaa

namespace Go.Proofs.Ytdhcbbbmajjehaa
open Go.RowKit Go.Lib
attribute [local irreducible] wpQuiet

theorem blk_shape {w : World} {B : Nat} {T : TypeId} {C : Array Value} (h : Blk w B T C) : w.shape? B = some (T, C.size) := by
  unfold Blk at h
  simp [World.shape?, h]
theorem rowC_mid (a : List Span) (x : Span) (d : List Span) : rowC (a ++ x :: d) = rowC a ++ (rowC [x] ++ rowC d) := by
  rw [rowC_append]
  rfl
theorem fit_mid {a d : List Span} {x : Span} (h : ∀ y ∈ a ++ d, FitSpan y) (hx : FitSpan x) : ∀ y ∈ a ++ x :: d, FitSpan y := by
  intro y hy
  rw [List.mem_append, List.mem_cons] at hy
  rcases hy with hy | rfl | hy
  · exact h y (List.mem_append.2 (.inl hy))
  · exact hx
  · exact h y (List.mem_append.2 (.inr hy))

theorem shift_own {a d : List Span} {x : Span} {T : TypeId} {w : World} {B c : Nat} {C : Array Value} (hB : Blk w B T C) (hC : C.size = c * 2) (hr : w.rangeAt B 0 (rowC (a ++ d))) (hroom : (a ++ d).length + 1 ≤ c) (hm : c ≤ maxLen) (hf : ∀ y ∈ a ++ d, FitSpan y) (hx : FitSpan x) :
    OwS OSpan T ((w.drew.setCells B ((a.length + 1) * 2) (rowC d)).setCells B (a.length * 2) (rowC [x])) (.slice (some ⟨B, 0, none⟩) ((a ++ d).length + 1) c) (a ++ x :: d) [B] := by
  have hlen : (a ++ x :: d).length = (a ++ d).length + 1 := by simp; omega
  have hl2 : (a ++ d).length = a.length + d.length := by simp
  have hd : Blk w.drew B T C := hB
  have hth : w.drew.there B 0 (c * 2) := cells_there hd (by rw [hC]; omega)
  obtain ⟨C1, h1, s1⟩ := blk_set hd ((a.length + 1) * 2) (rowC d)
  obtain ⟨C2, h2, s2⟩ := blk_set h1 (a.length * 2) (rowC [x])
  have hx2 : (rowC [x]).length = 2 := rfl
  rw [← hlen]
  refine row_own h2 (by rw [s2, s1, hC]) ?_ (by rw [hlen]; exact hroom) hm (fit_mid hf hx)
  rw [rowC_mid]
  rw [rowC_append] at hr
  have hr' : w.drew.rangeAt B 0 (rowC a ++ rowC d) := hr
  have ra := World.rangeAt_setCells_apart (World.rangeAt_setCells_apart (range_left hr') B ((a.length + 1) * 2) (rowC d) (.inr (.inl (by rw [rowC_length]; omega)))) B (a.length * 2) (rowC [x]) (.inr (.inl (by rw [rowC_length]; omega)))
  have rd := World.rangeAt_setCells_apart (World.rangeAt_setCells_same w.drew B ((a.length + 1) * 2) (rowC d) (there_at hth (by rw [rowC_length]; omega))) B (a.length * 2) (rowC [x]) (.inr (.inr (by rw [hx2]; omega)))
  have rx := World.rangeAt_setCells_same (w.drew.setCells B ((a.length + 1) * 2) (rowC d)) B (a.length * 2) (rowC [x]) (there_at (isSome_set hth (by rw [rowC_length]; omega)) (by rw [hx2]; omega))
  refine range_append ra ?_
  rw [rowC_length, Nat.zero_add]
  refine range_append rx ?_
  rw [hx2, show a.length * 2 + 2 = (a.length + 1) * 2 by omega]
  exact rd

theorem grow_own {a d : List Span} {x : Span} {T : TypeId} {w : World} {G : Nat} {ROW : Array Value} (hG : (a ++ d).length + 1 ≤ G) (hm : G ≤ maxLen) (hR : ROW.size = G * 2) (hRt : ∀ (j : Nat) (v : Value), (rowC a)[j]? = some v → ROW[j]? = some v) (hf : ∀ y ∈ a ++ d, FitSpan y) (hx : FitSpan x) :
    OwS OSpan T ((((w.alloc (.cells ROW T)).drew.setCells w.heap.size (a.length * 2) (rowC [x])).drew).setCells w.heap.size ((a.length + 1) * 2) (rowC d)) (.slice (some ⟨w.heap.size, 0, none⟩) ((a ++ d).length + 1) G) (a ++ x :: d) [w.heap.size] := by
  have hlen : (a ++ x :: d).length = (a ++ d).length + 1 := by simp; omega
  have hl2 : (a ++ d).length = a.length + d.length := by simp
  have h0 : Blk (w.alloc (.cells ROW T)).drew w.heap.size T ROW := Blk.new w T ROW
  have hth : (w.alloc (.cells ROW T)).drew.there w.heap.size 0 (G * 2) := cells_there h0 (by rw [hR]; omega)
  obtain ⟨C1, h1, s1⟩ := blk_set h0 (a.length * 2) (rowC [x])
  have h1' : Blk ((w.alloc (.cells ROW T)).drew.setCells w.heap.size (a.length * 2) (rowC [x])).drew w.heap.size T C1 := h1
  obtain ⟨C2, h2, s2⟩ := blk_set h1' ((a.length + 1) * 2) (rowC d)
  have hx2 : (rowC [x]).length = 2 := rfl
  rw [← hlen]
  refine row_own h2 (by rw [s2, s1, hR]) ?_ (by rw [hlen]; exact hG) hm (fit_mid hf hx)
  rw [rowC_mid]
  have r0 : (w.alloc (.cells ROW T)).drew.rangeAt w.heap.size 0 (rowC a) := fun j v hj => by rw [Nat.zero_add, h0.cell]; exact hRt j v hj
  have ra0 : ((w.alloc (.cells ROW T)).drew.setCells w.heap.size (a.length * 2) (rowC [x])).drew.rangeAt w.heap.size 0 (rowC a) := World.rangeAt_setCells_apart r0 w.heap.size (a.length * 2) (rowC [x]) (.inr (.inl (by rw [rowC_length]; omega)))
  have rx0 : ((w.alloc (.cells ROW T)).drew.setCells w.heap.size (a.length * 2) (rowC [x])).drew.rangeAt w.heap.size (a.length * 2) (rowC [x]) := World.rangeAt_setCells_same (w.alloc (.cells ROW T)).drew w.heap.size (a.length * 2) (rowC [x]) (there_at hth (by rw [hx2]; omega))
  have hth1 : ((w.alloc (.cells ROW T)).drew.setCells w.heap.size (a.length * 2) (rowC [x])).drew.there w.heap.size 0 (G * 2) := isSome_set hth (by rw [hx2]; omega)
  have ra := World.rangeAt_setCells_apart ra0 w.heap.size ((a.length + 1) * 2) (rowC d) (.inr (.inl (by rw [rowC_length]; omega)))
  have rx := World.rangeAt_setCells_apart rx0 w.heap.size ((a.length + 1) * 2) (rowC d) (.inr (.inl (by rw [hx2]; omega)))
  have rd := World.rangeAt_setCells_same ((w.alloc (.cells ROW T)).drew.setCells w.heap.size (a.length * 2) (rowC [x])).drew w.heap.size ((a.length + 1) * 2) (rowC d) (there_at hth1 (by rw [rowC_length]; omega))
  refine range_append ra ?_
  rw [rowC_length, Nat.zero_add]
  refine range_append rx ?_
  rw [hx2, show a.length * 2 + 2 = (a.length + 1) * 2 by omega]
  exact rd

def RetIns (l : List Span) (F : List Nat) (w : World) (e : Ending) (w' : World) : Prop := ∃ v' F', e = .returned v' ∧ OwS OSpan 38 w' v' l F' ∧ Kept F w w' ∧ ∀ b ∈ F', b ∈ F ∨ w.heap.size ≤ b

set_option maxHeartbeats 4000000 in
set_option maxRecDepth 100000 in
theorem insert_end (a : List Span) (x : Span) (v : Value) (F : List Nat) (w : World) (Bx : Nat) (h : OwS OSpan 38 w v a F) (hl : a.length ≤ 1000) (hb : Blk w Bx 38 #[.int .i64 x.from_, .int .i64 x.to_]) (hx : FitSpan x) :
    Calls Try.prog 181 #[v, .int .i64 a.length, .slice (some ⟨Bx, 0, none⟩) 1 1] w (RetIns (a ++ [x]) F w) := by
  have HO := Lib.hid h
  obtain ⟨A, c, rfl, h1, h2⟩ := h.form
  unfold maxLen at h2
  have HBx := Lib.hid hb
  have HX := Lib.hid hx
  clear hb hx
  have i5 : (a.length : Int) ≤ (c : Int) := by omega
  cases A with
  | none =>
    have h0 : a.length = 0 ∧ c = 0 := by
      rcases h with ⟨rfl, _, A, hv⟩ | ⟨B, _, _, _, hv, _⟩
      · injection hv with _ _ hh; exact ⟨rfl, hh⟩
      · injection hv with e1; cases e1
    obtain ⟨ha, rfl⟩ := h0
    obtain rfl := List.eq_nil_of_length_eq_zero ha
    clear h ha i5 h1 h2
    go_enter Try.func181, Try.ntmps181
    go_wp2_with (at_builtin; refine wpList_append_one (O := OSpan) (T := 38) (l := ([] : List Span)) (F := F) (G := []) (y := x) (cs := [.int .i64 x.from_, .int .i64 x.to_]) rfl _ _ 52 rfl (.agg #[.int .i64 0, .int .i64 0]) 2 16 Try.underlying52 (by kernel_rfl) rfl rfl rfl HO.out _ 0 1 rfl ⟨rel_Span HX.out, rfl⟩ (Blk.range HBx.out) (by simpa using HO.out.nodup) (by simp) (by decide) ?_; intro v' w9 F' how hkp hF'; have HOW := Lib.hid how; have HKP := Lib.hid hkp; have HFF := Lib.hid hF'; clear how hkp hF')
    go_ret
    exact ⟨_, F', rfl, HOW.out, HKP.out, fun b hb => by rcases HFF.out b hb with h | h | h; exact .inl h; cases h; exact .inr h⟩
  | some ad =>
    obtain ⟨b, o, sp⟩ := ad
    clear h
    have i1 : (0 : Int) ≤ (a.length : Int) := Int.natCast_nonneg _
    go_enter Try.func181, Try.ntmps181
    go_wp2_with (at_builtin; refine wpList_append_one (O := OSpan) (T := 38) (l := a) (F := F) (G := []) (y := x) (cs := [.int .i64 x.from_, .int .i64 x.to_]) rfl _ _ 52 rfl (.agg #[.int .i64 0, .int .i64 0]) 2 16 Try.underlying52 (by kernel_rfl) rfl rfl rfl HO.out _ 0 1 rfl ⟨rel_Span HX.out, rfl⟩ (Blk.range HBx.out) (by simpa using HO.out.nodup) (by omega) (by decide) ?_; intro v' w9 F' how hkp hF'; have HOW := Lib.hid how; have HKP := Lib.hid hkp; have HFF := Lib.hid hF'; clear how hkp hF')
    all_goals (go_ret; exact ⟨_, F', rfl, HOW.out, HKP.out, fun b hb => by rcases HFF.out b hb with h | h | h; exact .inl h; cases h; exact .inr h⟩)

theorem insert_Span (a d : List Span) (x : Span) (v : Value) (F : List Nat) (w : World) (Bx : Nat) (h : OwS OSpan 38 w v (a ++ d) F) (hl : (a ++ d).length ≤ 1000) (hb : Blk w Bx 38 #[.int .i64 x.from_, .int .i64 x.to_]) (hx : FitSpan x) (hBx : Bx ∉ F) :
    Calls Try.prog 181 #[v, .int .i64 a.length, .slice (some ⟨Bx, 0, none⟩) 1 1] w (RetIns (a ++ x :: d) F w) := by
  rcases d with _ | ⟨y, d⟩
  · rw [List.append_nil] at h hl
    exact insert_end a x v F w Bx h hl hb hx
  · generalize hd : y :: d = e at *
    have he : 0 < e.length := by rw [← hd]; simp
    clear hd
    have hl2 : (a ++ e).length = a.length + e.length := by simp
    obtain ⟨B, c, C, rfl, hB, hC, hlc, hcm, rfl, hr, hf⟩ := own_row h (by omega)
    have hdrop : (rowC (a ++ e)).drop (a.length * 2) = rowC e := by rw [rowC_append, ← rowC_length, List.drop_left]
    have htake : (rowC (a ++ e)).take (a.length * 2) = rowC a := by rw [rowC_append, ← rowC_length, List.take_left]
    have hxr : w.rangeAt Bx 0 (rowC [x]) := hb.range
    have hm : c ≤ maxLen := hcm
    unfold maxLen at hcm
    by_cases hroom : (a ++ e).length + 1 ≤ c
    · refine (ins_shift B (a ++ e).length c a.length Bx 1 1 (rowC (a ++ e)) (rowC [x]) w (by omega) (by decide) hroom (by omega) (by simpa using hBx) (rowC_length _) rfl hr (cells_there hB (by rw [hC]; omega)) hxr (rowC_one _) (rowC_one _) _ _ _ _ (blk_shape hb) (blk_shape hB) (by rw [hC]; omega) (hb.frozen _) (hb.frozen _)).mono ?_
      rintro r w' ⟨rfl, rfl⟩
      rw [hdrop]
      exact ⟨_, [B], rfl, shift_own hB hC hr hroom hm hf hx, Kept.setCells (by simp) _ _ _ (Kept.setCells (by simp) _ _ _ (Kept.of_ext (Ext.refl w).drew)), fun b hb => .inl hb⟩
    · refine (ins_grow B (a ++ e).length c a.length Bx 1 1 (rowC (a ++ e)) (rowC [x]) w (by omega) (by decide) hlc (by omega) (by omega) (rowC_length _) rfl hr hxr (rowC_one _) (rowC_one _)).mono ?_
      rintro r w' ⟨G, ROW, rfl, hG, hGm, hR, hRt, rfl⟩
      rw [hdrop]
      rw [htake] at hRt
      refine ⟨_, [w.heap.size], rfl, grow_own hG hGm hR hRt hf hx, ?_, fun b hb => .inr (by rw [List.mem_singleton.1 hb]; exact Nat.le_refl _)⟩
      exact Kept.of_ext (setCells_ext (Nat.le_refl _) _ _ _ (setCells_ext (Nat.le_refl _) _ _ _ ((Ext.refl w).alloc _).drew).drew)
end Go.Proofs.Ytdhcbbbmajjehaa
