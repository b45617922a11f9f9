/- What the laws YardBook need, and no others. Laid by wip/split.py. -/
import Derived.Test.YtngldifgcgblpaaGreatNodeC
import Derived.Test.YtngldifgcgblpaaGreatOrdU
import Derived.Test.YtngldifgcgblpaaGreatClones
import Derived.Test.YtngldifgcgblpaaGreatShelf
import Derived.Shelf.Spec.SlicesInsertGrow
import Derived.Test.YtngldifgcgblpaaGreatInsSpan
import Derived.BigQuiet
import Derived.Test.YtngldifgcgblpaaGreatPut
import Derived.Deep.RegionLaw
import Derived.Test.YtngldifgcgblpaaGreatCounts
import Derived.Test.YtngldifgcgblpaaGreatYardLb
import Derived.Test.YtngldifgcgblpaaGreatYardTs
import Derived.Test.YtngldifgcgblpaaGreatYardUi
import Derived.Test.YtngldifgcgblpaaGreatCa
import Derived.Test.YtngldifgcgblpaaGreatCe
import Derived.Test.YtngldifgcgblpaaGreatCf
namespace Go.Proofs.YtngldifgcgblpaaGreat
open Go.RowKit
attribute [local irreducible] wpQuiet
theorem containsFunc_Span {S : Nat → Prop} (l : List Span) (p : Span → Bool) (v : Value) (f : Nat) (caps : Array Value) (w : World) (h : Rd ESpan S w v l) (hcall : ∀ (args : Array Value) (W : World), (callFunc f args).run Tryz.prog W = .ok (.enter f args) W)
    (hf : ∀ (cs : List Value) (x : Span) (w1 : World), Ext w w1 → ESpan.rel S w1 cs x → Calls Tryz.prog f (#[.agg cs.toArray] ++ caps) w1 fun e w' => e = .returned (.bool (p x)) ∧ Ext w1 w') :
    Calls Tryz.prog 257 #[v, .func (.func f) #[] caps] w fun e w' => e = .returned (.bool (l.any p)) ∧ Ext w w' := by
  have HE := Lib.hid (idxOf_any (p := p) (l := l))
  have H := Lib.hid (indexFunc_Span l p v f caps w h hcall hf)
  clear h hcall hf
  go_enter Tryz.func257, Tryz.ntmps257
  go_wp2_with (refine H.out.mono ?_; rintro e w1 ⟨rfl, hx1⟩; have HX1 := Lib.hid hx1; clear hx1)
  go_ret
  exact ⟨ret_bool HE.out, HX1.out⟩
theorem containsFunc_Span_1 {S : Nat → Prop} (l : List Span) (p : Span → Bool) (v : Value) (f : Nat) (c1 : Value) (w : World) (h : Rd ESpan S w v l) (hcall : ∀ (args : Array Value) (W : World), (callFunc f args).run Tryz.prog W = .ok (.enter f args) W)
    (hf : ∀ (cs : List Value) (x : Span) (w1 : World), Ext w w1 → ESpan.rel S w1 cs x → Calls Tryz.prog f #[.agg cs.toArray, c1] w1 fun e w' => e = .returned (.bool (p x)) ∧ Ext w1 w') :
    Calls Tryz.prog 257 #[v, .func (.func f) #[] #[c1]] w fun e w' => e = .returned (.bool (l.any p)) ∧ Ext w w' :=
  containsFunc_Span l p v f #[c1] w h hcall fun cs x w1 hx hr => by rw [show (#[.agg cs.toArray] ++ #[c1] : Array Value) = #[.agg cs.toArray, c1] from rfl]; exact hf cs x w1 hx hr
end Go.Proofs.YtngldifgcgblpaaGreat
namespace Go.Proofs.YtngldifgcgblpaaGreat
open Go.RowKit
attribute [local irreducible] wpQuiet
section
variable {α : Type} [Inhabited α] {E : Elem α} {T : TypeId} {w : World} {l ys : List α} {P : Program} {hfl : ∀ {S S' : Nat → Prop} {w w' : World} {cs x}, E.rel S w cs x → E.rel S' w' cs x}
end
end Go.Proofs.YtngldifgcgblpaaGreat
namespace Go.Proofs.YtngldifgcgblpaaGreat
open Go.RowKit
/-- copy(d, s): n elements of z cells each. -/
theorem run_copy_z {P : Program} (w : World) (dT sT ty elem : TypeId) (z n b o dLen dCap : Nat) (a : Addr) (sLen sCap : Nat) (cs : List Value)
    (hu : P.underlying dT = some (.slice elem)) (hs : (P.info? elem).map (·.size) = some z) (hn : n = Nat.min sLen dLen) (hcl : cs.length = n * z)
    (hsrc : ∀ j v, cs[j]? = some v → w.cell? (a.add j) = some v) (hc : w.there b o cs.length) (h1 : ∀ v ∈ cs, v.oneCell' = true) :
    (Builtin.copy_ #[dT, sT] ty #[.slice (some ⟨b, o, none⟩) dLen dCap, .slice (some a) sLen sCap]).run P w = .ok (goInt n) (w.setCells b o cs) := by
  have hl := run_loadCells_list (P := P) w a cs hsrc
  have hst := run_storeCells_cells (P := P) b o cs 0 w (fun j hj => by rw [Nat.add_zero]; exact (hc j hj).1) (fun j hj => by rw [Nat.add_zero]; exact (hc j hj).2) h1
  cases hq : P.info? elem with
  | none => simp [hq] at hs
  | some i =>
    have hi : i.size = z := by simpa [hq] using hs
    rw [hcl] at hl
    simp only [Nat.add_zero] at hst
    simp [Builtin.copy_, run_underlying hu, Builtin.lenOf, Builtin.firstCells, sizeOf, typeInfo, hq, hi, ← hn, hl, hst]
def rowC : List Span → List Value
  | [] => []
  | x :: l => .int .i64 x.from_ :: .int .i64 x.to_ :: rowC l
theorem rowC_length : ∀ l, (rowC l).length = l.length * 2
  | [] => rfl
  | x :: l => by rw [rowC, List.length_cons, List.length_cons, rowC_length l, List.length_cons]; omega
theorem rowC_append : ∀ a b, rowC (a ++ b) = rowC a ++ rowC b
  | [], b => rfl
  | x :: a, b => by rw [List.cons_append, rowC, rowC_append a b]; rfl
theorem rowC_one : ∀ l, ∀ v ∈ rowC l, v.oneCell' = true
  | [], v, h => by cases h
  | x :: l, v, h => by
    rw [rowC, List.mem_cons, List.mem_cons] at h
    rcases h with rfl | rfl | h
    · rfl
    · rfl
    · exact rowC_one l v h
theorem rowC_get : ∀ (l : List Span) (k j : Nat), k < l.length → j < 2 → (rowC l)[k * 2 + j]? = (cellsSpan (nth l k))[j]?
  | [], k, _, h, _ => absurd h (Nat.not_lt_zero _)
  | x :: l, 0, j, _, hj => by
    rcases j with _ | _ | j
    · rfl
    · rfl
    · omega
  | x :: l, k + 1, j, h, hj => by
    rw [show (k + 1) * 2 + j = (k * 2 + j) + 2 by omega]
    exact rowC_get l k j (by simpa using h) hj
theorem range_append {w : World} {B o : Nat} {a b : List Value} (h1 : w.rangeAt B o a) (h2 : w.rangeAt B (o + a.length) b) : w.rangeAt B o (a ++ b) := by
  intro j u hj
  by_cases hlt : j < a.length
  · rw [List.getElem?_append_left hlt] at hj
    exact h1 j u hj
  · rw [List.getElem?_append_right (by omega)] at hj
    have := h2 _ u hj
    rwa [show o + a.length + (j - a.length) = o + j by omega] at this
theorem range_left {w : World} {B o : Nat} {a b : List Value} (h : w.rangeAt B o (a ++ b)) : w.rangeAt B o a := fun j u hj => h j u (by rw [List.getElem?_append_left (List.getElem?_eq_some_iff.1 hj).1]; exact hj)
variable {T : TypeId} {w w' : World} {v : Value} {l : List Span} {F : List Nat}
/-- A slice of spans with memory of its own: its block, cell by cell. -/
theorem own_row (h : OwS OSpan T w v l F) (hl : 0 < l.length) : ∃ (B c : Nat) (C : Array Value), v = .slice (some ⟨B, 0, none⟩) l.length c ∧ Blk w B T C ∧ C.size = c * 2 ∧ l.length ≤ c ∧ c ≤ maxLen ∧ F = [B] ∧ w.rangeAt B 0 (rowC l) ∧ ∀ x ∈ l, FitSpan x := by
  obtain ⟨A, c0, hv0, hc0, _⟩ := h.form
  obtain ⟨B0, hB0⟩ : ∃ B0, A = some ⟨B0, 0, none⟩ := by
    rcases h with ⟨rfl, _⟩ | ⟨B, _, _, _, hv, _⟩
    · simp at hl
    · rw [hv] at hv0; injection hv0 with e1; exact ⟨B, e1.symm⟩
  subst hB0
  subst hv0
  have hF := OwS.flat_blocks h (by omega)
  rcases h with ⟨rfl, _⟩ | ⟨B, c, C, Fs, hv, hB, h1, h2, h3, hlF, h4, hn, hk⟩
  · simp at hl
  · injection hv with e1 e2 e3
    cases e1
    subst e3
    refine ⟨_, _, C, rfl, hB, h3, h1, h2, hF, fun j u hj => ?_, fun x hx => ?_⟩
    · have hj2 : j < l.length * 2 := by rw [← rowC_length]; exact (List.getElem?_eq_some_iff.1 hj).1
      have hk' : j / 2 < l.length := by omega
      obtain ⟨cs, ho, hc⟩ := hk _ hk'
      obtain ⟨⟨rfl, _⟩, _⟩ := ho
      have e : j = j / 2 * 2 + j % 2 := by omega
      rw [e, rowC_get l _ _ hk' (by omega)] at hj
      have := hc (j % 2) u hj
      rw [Nat.zero_add, e]
      exact this
    · obtain ⟨i, hi, rfl⟩ := List.getElem_of_mem hx
      obtain ⟨cs, ho, _⟩ := hk i hi
      rw [← nth_eq hi]
      exact ho.1.2
/-- .. and back. -/
theorem row_own {B c : Nat} {C : Array Value} (hB : Blk w B T C) (hC : C.size = c * 2) (hr : w.rangeAt B 0 (rowC l)) (hl : l.length ≤ c) (hm : c ≤ maxLen) (hf : ∀ x ∈ l, FitSpan x) : OwS OSpan T w (.slice (some ⟨B, 0, none⟩) l.length c) l [B] := by
  refine .inr ⟨B, c, C, List.replicate l.length [], rfl, hB, hl, hm, hC, by simp, by rw [flat_flatten], by simp, fun k hk => ⟨cellsSpan (nth l k), ⟨⟨rfl, hf _ (nth_mem hk)⟩, flat_list (α := Span) hk⟩, fun j u hj => ?_⟩⟩
  have hj2 : j < 2 := (List.getElem?_eq_some_iff.1 hj).1
  have := hr (k * 2 + j) u (by rw [rowC_get l k j hk hj2]; exact hj)
  rwa [Nat.zero_add] at this
theorem blk_set {B : Nat} {C : Array Value} (h : Blk w B T C) (o : Nat) (vs : List Value) : ∃ C' : Array Value, Blk (w.setCells B o vs) B T C' ∧ C'.size = C.size := setCells_heap vs w o C h
end Go.Proofs.YtngldifgcgblpaaGreat
namespace Go.Proofs.YtngldifgcgblpaaGreat
open Go.RowKit Go.Lib
attribute [local irreducible] wpQuiet
theorem isSome_set {B o : Nat} {vs : List Value} {w : World} {n : Nat} (h : w.there B 0 n) (ho : o + vs.length ≤ n) : (w.setCells B o vs).there B 0 n := fun j hj => by
  rw [Nat.zero_add]
  exact ⟨isSome_setCells B vs o w (fun t ht => by have := (h (o + t) (by omega)).1; rwa [Nat.zero_add] at this) j (by have := (h j hj).1; rwa [Nat.zero_add] at this), by rw [World.frozen?_setCells]; have := (h j hj).2; rwa [Nat.zero_add] at this⟩
theorem there_at {w : World} {B n o m : Nat} (h : w.there B 0 n) (hm : o + m ≤ n) : w.there B o m := fun j hj => by have := h (o + j) (by omega); rwa [Nat.zero_add] at this
set_option maxHeartbeats 4000000 in
set_option maxRecDepth 100000 in
/-- There is room, i < len(s): in place. -/
theorem ins_shift (B n c i vb m vc : Nat) (cs vs : List Value) (w : World) (hi : i < n) (hm : 0 < m) (hroom : n + m ≤ c) (hc63 : c ≤ 9223372036854775807) (hvb : vb ≠ B)
    (hcl : cs.length = n * 2) (hvl : vs.length = m * 2) (hcs : w.rangeAt B 0 cs) (hth : w.there B 0 (c * 2)) (hvs : w.rangeAt vb 0 vs) (h1c : ∀ v ∈ cs, v.oneCell' = true) (h1v : ∀ v ∈ vs, v.oneCell' = true)
    (tA tB : TypeId) (kA kB : Nat) (hsa : w.shape? vb = some (tA, kA)) (hsb : w.shape? B = some (tB, kB)) (hkB : kB ≠ 0) (hfa : w.frozen? ⟨vb, 0, none⟩ = false) (hfe : w.frozen? ⟨vb, kA, none⟩ = false) :
    Calls Tryz.prog 260 #[.slice (some ⟨B, 0, none⟩) n c, .int .i64 i, .slice (some ⟨vb, 0, none⟩) m vc] w fun e w' =>
      e = .returned (.slice (some ⟨B, 0, none⟩) (n + m) c) ∧ w' = (w.drew.setCells B ((i + m) * 2) (cs.drop (i * 2))).setCells B (i * 2) vs := by
  have mixed : Tryz.prog.follows Departure.mixedOrders = true := by kernel_rfl
  have hz1 : ¬ ((m : Int) = 0) := by omega
  have hz2 : ¬ ((i : Int) = (n : Int)) := by omega
  have hsz : (Tryz.prog.info? 63).map (·.size) = some 2 := by kernel_rfl
  have hz : ∀ w, (Go.sizeOf 63).run Tryz.prog w = .ok 2 w := by intro w; go_simp
  have hov : ∀ lb cb, (callFunc 287 #[.slice (some ⟨vb, 0, none⟩) m vc, .slice (some ⟨B, (i + m) * 2, none⟩) lb cb]).run Tryz.prog w = .ok (.value (.bool false)) w := fun lb cb => by
    rw [run_callFunc_extern Tryz.func287 (by kernel_rfl) (by kernel_rfl) (by kernel_rfl) (e := Extern.SlicesOverlaps.overlaps #[149, 149] #[4]) (by kernel_rfl),
      Lib.run_overlaps_apart w 149 4 63 Tryz.underlying149 2 hz ⟨vb, 0, none⟩ ⟨B, (i + m) * 2, none⟩ m vc lb cb hvb tA tB kA kB hsa hsb hkB hfa hfe]
    rfl
  have hdl : (cs.drop (i * 2)).length = (n - i) * 2 := by rw [List.length_drop, hcl]; omega
  have hw1 : IntKind.i64.wrap ((i : Int) + (m : Int)) = (i : Int) + (m : Int) := by rw [IntKind.wrap_i64]; omega
  have hw2 : IntKind.i64.wrap ((n : Int) + (m : Int)) = (n : Int) + (m : Int) := by rw [IntKind.wrap_i64]; omega
  have hb1 : (0 : Int) ≤ (i : Int) + (m : Int) := by omega
  have hin : i ≤ n := by omega
  have htn : ((i : Int) + (m : Int)).toNat = i + m := by omega
  have htn2 : ((n : Int) + (m : Int)).toNat = n + m := by omega
  have hb2 : ¬ (c = i + m) := by omega
  have hb3 : (i : Int) ≤ (n : Int) + (m : Int) := by omega
  have hb4 : ¬ (c = i) := by omega
  have hcp1 : ∀ ty dc sc, (Builtin.copy_ #[149, 149] ty #[.slice (some ⟨B, (i + m) * 2, none⟩) (n + m - (i + m)) dc, .slice (some ⟨B, i * 2, none⟩) (n + m - i) sc]).run Tryz.prog w.drew = .ok (goInt (n - i : Nat)) (w.drew.setCells B ((i + m) * 2) (cs.drop (i * 2))) := fun ty dc sc =>
    run_copy_z w.drew _ _ ty 63 2 (n - i) B ((i + m) * 2) (n + m - (i + m)) dc ⟨B, i * 2, none⟩ (n + m - i) sc (cs.drop (i * 2)) Tryz.underlying149 hsz (by simp only [Nat.min_def]; split <;> omega) hdl
      (fun j v hj => by
        rw [Addr.add_mid]
        have := hcs (i * 2 + j) v (by rwa [List.getElem?_drop] at hj)
        rw [Nat.zero_add] at this
        exact this)
      (there_at (n := c * 2) (fun j hj => hth j hj) (by rw [hdl]; omega)) (fun v hv => h1c v (List.mem_of_mem_drop hv))
  obtain ⟨W1, hW1⟩ : ∃ W1, W1 = w.drew.setCells B ((i + m) * 2) (cs.drop (i * 2)) := ⟨_, rfl⟩
  have hth1 : W1.there B 0 (c * 2) := by
    rw [hW1]
    exact isSome_set (w := w.drew) (fun j hj => hth j hj) (by rw [hdl]; omega)
  have hcp2 : ∀ (W : World), (∀ x, W.cell? x = W1.cell? x) → (∀ x, W.frozen? x = W1.frozen? x) → ∀ ty dc, (Builtin.copy_ #[149, 149] ty #[.slice (some ⟨B, i * 2, none⟩) (n + m - i) dc, .slice (some ⟨vb, 0, none⟩) m vc]).run Tryz.prog W = .ok (goInt m) (W.setCells B (i * 2) vs) := fun W hWc hWf ty dc =>
    run_copy_z W _ _ ty 63 2 m B (i * 2) (n + m - i) dc ⟨vb, 0, none⟩ m vc vs Tryz.underlying149 hsz (by simp only [Nat.min_def]; split <;> omega) hvl
      (fun j v hj => by
        rw [Addr.add_mid, hWc, hW1, World.cell?_setCells_out B _ _ _ _ (fun h _ => absurd h hvb)]
        exact hvs j v hj)
      (fun j hj => by rw [hWc, hWf]; exact there_at hth1 (m := vs.length) (by rw [hvl]; omega) j hj) h1v
  rw [← hW1] at hcp1
  go_enter Tryz.func260, Tryz.ntmps260
  go_wp2_with (simp only [hov])
  go_region_law_o (refine step_copy_runI rfl _ _ 149 149 rfl _ _ (by simp [Act.eval, Act.put]) (by simp [Act.eval, Act.put]) (hcp1 _ _ _) ?_)
  go_wp2_with (at_builtin; refine wpList_copy_runI _ rfl _ _ 149 149 rfl _ _ rfl rfl (hcp2 _ (fun _ => rfl) (fun _ => rfl) _ _) ?_)
  go_ret
  first | exact ⟨rfl, rfl⟩ | exact ⟨rfl, by rw [hW1]⟩
set_option maxHeartbeats 4000000 in
set_option maxRecDepth 100000 in
/-- No room, i < len(s): a new row. -/
theorem ins_grow (B n c i vb m vc : Nat) (cs vs : List Value) (w : World) (hi : i < n) (hm : 0 < m) (hnc : n ≤ c) (hroom : c < n + m) (hbig : (n + m) * 16 ≤ 140737488355328)
    (hcl : cs.length = n * 2) (hvl : vs.length = m * 2) (hcs : w.rangeAt B 0 cs) (hvs : w.rangeAt vb 0 vs) (h1c : ∀ v ∈ cs, v.oneCell' = true) (h1v : ∀ v ∈ vs, v.oneCell' = true) :
    Calls Tryz.prog 260 #[.slice (some ⟨B, 0, none⟩) n c, .int .i64 i, .slice (some ⟨vb, 0, none⟩) m vc] w fun e w' =>
      ∃ (G : Nat) (ROW : Array Value), e = .returned (.slice (some ⟨w.heap.size, 0, none⟩) (n + m) G) ∧ n + m ≤ G ∧ G ≤ maxLen ∧ ROW.size = G * 2 ∧ (∀ (j : Nat) (v : Value), (cs.take (i * 2))[j]? = some v → ROW[j]? = some v) ∧
      w' = (((w.alloc (.cells ROW 63)).drew.setCells w.heap.size (i * 2) vs).drew).setCells w.heap.size ((i + m) * 2) (cs.drop (i * 2)) := by
  obtain ⟨i0, hi0, hz0, hzs, hzb⟩ := info_parts (P := Tryz.prog) (e := 63) (z := .agg #[.int .i64 0, .int .i64 0]) (size := 2) (bytes := 16) (by kernel_rfl)
  have mixed : Tryz.prog.follows Departure.mixedOrders = true := by kernel_rfl
  have hz1 : ¬ ((m : Int) = 0) := by omega
  have hz2 : ¬ ((i : Int) = (n : Int)) := by omega
  have hz3 : (c : Int) < (n : Int) + (m : Int) := by omega
  have hsz : (Tryz.prog.info? 63).map (·.size) = some 2 := by kernel_rfl
  have hbw : B < w.heap.size := block_lt_of_cell (hcs 0 _ (List.getElem?_eq_getElem (by omega)))
  have hvw : vb < w.heap.size := block_lt_of_cell (hvs 0 _ (List.getElem?_eq_getElem (by omega)))
  have hkk : (n : Int) + (m : Int) - (i : Int) = ((n + m - i : Nat) : Int) := by omega
  have hik : i + (n + m - i) = n + m := by omega
  have hold : (Builtin.firstCells i0.size i (.slice (some ⟨B, 0, none⟩) i c)).run Tryz.prog w.drew = .ok (cs.take (i * 2)).toArray w.drew := by
    rw [hzs]
    exact run_firstCells_some w.drew 2 i ⟨B, 0, none⟩ i c (cs.take (i * 2)) (by rw [List.length_take]; omega) (fun j v hj => by
      rw [Addr.add_mid]
      rw [List.getElem?_take] at hj
      split at hj
      · exact hcs j v hj
      · cases hj)
  have hrz : ∀ ty, (Builtin.append_ #[149, 3] ty #[.slice (some ⟨B, 0, none⟩) i c, .int .i64 ((n : Int) + (m : Int) - (i : Int))]).run Tryz.prog w =
      .ok (.slice (some ⟨w.heap.size, 0, none⟩) (n + m) (grownCap w (n + m) c 63)) (w.drew.alloc (.cells ((cs.take (i * 2)).toArray ++ Builtin.zeroCells (Value.agg #[.int .i64 0, .int .i64 0]).cells (n + m - i) ++ Builtin.zeroCells (Value.agg #[.int .i64 0, .int .i64 0]).cells (grownCap w (n + m) c 63 - (n + m))) 63)) := fun ty => by
    have h := Lib.run_append_grow_zeros (P := Tryz.prog) w 149 3 ty 63 i0 _ .i64 .i64 Tryz.underlying149 Tryz.underlying3 hi0 hz0 (some ⟨B, 0, none⟩) i c (cs.take (i * 2)) hold (n + m - i) (by omega) (by omega) (by omega) (by omega) (by rw [hzb]; omega) (by rw [hzb, hik]; exact growslice_fits hroom hbig)
    rw [hik] at h
    rw [hkk]
    exact h
  obtain ⟨G, hG⟩ : ∃ G, G = grownCap w (n + m) c 63 := ⟨_, rfl⟩
  obtain ⟨ROW, hROW⟩ : ∃ ROW : Array Value, ROW = (cs.take (i * 2)).toArray ++ Builtin.zeroCells (Value.agg #[.int .i64 0, .int .i64 0]).cells (n + m - i) ++ Builtin.zeroCells (Value.agg #[.int .i64 0, .int .i64 0]).cells (G - (n + m)) := ⟨_, rfl⟩
  rw [← hG] at hrz
  rw [← hROW] at hrz
  have hGn : n + m ≤ G := by rw [hG]; exact grownCap_ge w _ _ _
  have hGm : G ≤ maxLen := by rw [hG]; exact grownCap_le_maxLen w (n + m) c 63 (by unfold maxLen; omega)
  have hRs : ROW.size = G * 2 := by
    rw [hROW, Array.size_append, Array.size_append, List.size_toArray, List.length_take, size_zeroCells, size_zeroCells]
    simp only [Value.cells, Array.size]
    simp
    omega
  have hRt : ∀ (j : Nat) (v : Value), (cs.take (i * 2))[j]? = some v → ROW[j]? = some v := fun j v hj => by
    have hj2 := (List.getElem?_eq_some_iff.1 hj).1
    rw [hROW, Array.append_assoc, Array.getElem?_append_left (by rw [List.size_toArray]; exact hj2), List.getElem?_toArray]
    exact hj
  have HG := Lib.hid hGn
  have HGm := Lib.hid hGm
  have HRs := Lib.hid hRs
  have HRt := Lib.hid hRt
  obtain ⟨W1, hW1⟩ : ∃ W1, W1 = w.drew.alloc (.cells ROW 63) := ⟨_, rfl⟩
  rw [← hW1] at hrz
  have hN : W1.there w.heap.size 0 (G * 2) := by
    rw [hW1]
    exact cells_there (C := ROW) (heap_alloc_new w.drew _) (by rw [hRs]; omega)
  have hOb : ∀ j v, w.cell? ⟨B, j, none⟩ = some v → W1.cell? ⟨B, j, none⟩ = some v := fun j v h => by rw [hW1, World.cell?_alloc_past (w := w.drew) _ B j hbw]; exact h
  have hOv : ∀ j v, w.cell? ⟨vb, j, none⟩ = some v → W1.cell? ⟨vb, j, none⟩ = some v := fun j v h => by rw [hW1, World.cell?_alloc_past (w := w.drew) _ vb j hvw]; exact h
  have hcpA : ∀ (W : World), (∀ x, W.cell? x = W1.cell? x) → (∀ x, W.frozen? x = W1.frozen? x) → ∀ ty dc, (Builtin.copy_ #[149, 149] ty #[.slice (some ⟨w.heap.size, i * 2, none⟩) (n + m - i) dc, .slice (some ⟨vb, 0, none⟩) m vc]).run Tryz.prog W = .ok (goInt m) (W.setCells w.heap.size (i * 2) vs) := fun W hWc hWf ty dc =>
    run_copy_z W _ _ ty 63 2 m w.heap.size (i * 2) (n + m - i) dc ⟨vb, 0, none⟩ m vc vs Tryz.underlying149 hsz (by simp only [Nat.min_def]; split <;> omega) hvl
      (fun j v hj => by rw [Addr.add_mid, hWc]; exact hOv _ v (hvs j v hj))
      (fun j hj => by rw [hWc, hWf]; exact there_at hN (m := vs.length) (by rw [hvl]; omega) j hj) h1v
  have hG63 : G ≤ 9223372036854775807 := by
    have := hGm
    unfold maxLen at this
    omega
  have hGi : ¬ (G = i) := by omega
  have hGim : ¬ (G = i + m) := by omega
  have hci : ¬ (c = i) := by omega
  have hbN : B ≠ w.heap.size := by omega
  have hdl : (cs.drop (i * 2)).length = (n - i) * 2 := by rw [List.length_drop, hcl]; omega
  have hcpB : ∀ (W : World), (∀ x, W.cell? x = (W1.setCells w.heap.size (i * 2) vs).cell? x) → (∀ x, W.frozen? x = (W1.setCells w.heap.size (i * 2) vs).frozen? x) → ∀ ty dc sc, (Builtin.copy_ #[149, 149] ty #[.slice (some ⟨w.heap.size, (i + m) * 2, none⟩) (n + m - (i + m)) dc, .slice (some ⟨B, i * 2, none⟩) (n - i) sc]).run Tryz.prog W = .ok (goInt (n - i : Nat)) (W.setCells w.heap.size ((i + m) * 2) (cs.drop (i * 2))) := fun W hWc hWf ty dc sc =>
    run_copy_z W _ _ ty 63 2 (n - i) w.heap.size ((i + m) * 2) (n + m - (i + m)) dc ⟨B, i * 2, none⟩ (n - i) sc (cs.drop (i * 2)) Tryz.underlying149 hsz (by simp only [Nat.min_def]; split <;> omega) hdl
      (fun j v hj => by
        rw [Addr.add_mid, hWc, World.cell?_setCells_out _ _ _ _ _ (fun h _ => absurd h hbN)]
        have := hcs (i * 2 + j) v (by rwa [List.getElem?_drop] at hj)
        rw [Nat.zero_add] at this
        exact hOb _ v this)
      (fun j hj => by rw [hWc, hWf]; exact there_at (isSome_set hN (by rw [hvl]; omega)) (m := (cs.drop (i * 2)).length) (by rw [hdl]; omega) j hj) (fun v hv => h1c v (List.mem_of_mem_drop hv))
  subst hW1
  have hE1 : ∀ x, ((w.alloc (.cells ROW 63)).drew).cell? x = (w.drew.alloc (.cells ROW 63)).cell? x := fun x => rfl
  have hE2 : ∀ x, ((w.alloc (.cells ROW 63)).drew).frozen? x = (w.drew.alloc (.cells ROW 63)).frozen? x := fun x => rfl
  have hF1 : ∀ x, (((w.alloc (.cells ROW 63)).drew.setCells w.heap.size (i * 2) vs).drew).cell? x = ((w.drew.alloc (.cells ROW 63)).setCells w.heap.size (i * 2) vs).cell? x := fun x => rfl
  have hF2 : ∀ x, (((w.alloc (.cells ROW 63)).drew.setCells w.heap.size (i * 2) vs).drew).frozen? x = ((w.drew.alloc (.cells ROW 63)).setCells w.heap.size (i * 2) vs).frozen? x := fun x => rfl
  have hw1 : IntKind.i64.wrap ((i : Int) + (m : Int)) = (i : Int) + (m : Int) := by rw [IntKind.wrap_i64]; omega
  have hw2 : IntKind.i64.wrap ((n : Int) + (m : Int)) = (n : Int) + (m : Int) := by rw [IntKind.wrap_i64]; omega
  have hw3 : IntKind.i64.wrap ((n : Int) + (m : Int) - (i : Int)) = (n : Int) + (m : Int) - (i : Int) := by rw [IntKind.wrap_i64]; omega
  have hb1 : (0 : Int) ≤ (i : Int) + (m : Int) := by omega
  have hin : i ≤ n := by omega
  have htn : ((i : Int) + (m : Int)).toNat = i + m := by omega
  have hb3 : (i : Int) ≤ (n : Int) := by omega
  clear hkk hik hold hROW hG hRt hRs hN hOb hOv hGm
  go_enter Tryz.func260, Tryz.ntmps260
  go_wp2_with (first
    | (at_builtin; refine Lib.wpList_append_run _ rfl _ _ _ _ rfl _ _ rfl rfl _ _ (hrz _) ?_)
    | (at_builtin; refine wpList_copy_runI _ rfl _ _ 149 149 rfl _ _ rfl rfl (hcpA _ hE1 hE2 _ _) ?_)
    | (at_builtin; refine wpList_copy_runI _ rfl _ _ 149 149 rfl _ _ rfl rfl (hcpB _ (fun _ => rfl) (fun _ => rfl) _ _ _) ?_))
  go_region_law_o (refine step_copy_runI rfl _ _ 149 149 rfl (.slice (some ⟨w.heap.size, (i + m) * 2, none⟩) (n + m - (i + m)) (G - (i + m))) (.slice (some ⟨B, i * 2, none⟩) (n - i) (c - i)) (by simp [Act.eval, Act.put]) (by simp [Act.eval, Act.put]) (hcpB _ hF1 hF2 3 (G - (i + m)) (c - i)) ?_)
  go_wp2
  go_ret
  exact ⟨G, ROW, rfl, HG.out, HGm.out, HRs.out, HRt.out, rfl⟩
end Go.Proofs.YtngldifgcgblpaaGreat
namespace Go.Proofs.YtngldifgcgblpaaGreat
open Go.RowKit Go.Lib
attribute [local irreducible] wpQuiet
theorem blk_shape {w : World} {B : Nat} {T : TypeId} {C : Array Value} (h : Blk w B T C) : w.shape? B = some (T, C.size) := by
  unfold Blk at h
  simp [World.shape?, h]
theorem rowC_mid (a : List Span) (x : Span) (d : List Span) : rowC (a ++ x :: d) = rowC a ++ (rowC [x] ++ rowC d) := by
  rw [rowC_append]
  rfl
theorem fit_mid {a d : List Span} {x : Span} (h : ∀ y ∈ a ++ d, FitSpan y) (hx : FitSpan x) : ∀ y ∈ a ++ x :: d, FitSpan y := by
  intro y hy
  rw [List.mem_append, List.mem_cons] at hy
  rcases hy with hy | rfl | hy
  · exact h y (List.mem_append.2 (.inl hy))
  · exact hx
  · exact h y (List.mem_append.2 (.inr hy))
theorem shift_own {a d : List Span} {x : Span} {T : TypeId} {w : World} {B c : Nat} {C : Array Value} (hB : Blk w B T C) (hC : C.size = c * 2) (hr : w.rangeAt B 0 (rowC (a ++ d))) (hroom : (a ++ d).length + 1 ≤ c) (hm : c ≤ maxLen) (hf : ∀ y ∈ a ++ d, FitSpan y) (hx : FitSpan x) :
    OwS OSpan T ((w.drew.setCells B ((a.length + 1) * 2) (rowC d)).setCells B (a.length * 2) (rowC [x])) (.slice (some ⟨B, 0, none⟩) ((a ++ d).length + 1) c) (a ++ x :: d) [B] := by
  have hlen : (a ++ x :: d).length = (a ++ d).length + 1 := by simp; omega
  have hl2 : (a ++ d).length = a.length + d.length := by simp
  have hd : Blk w.drew B T C := hB
  have hth : w.drew.there B 0 (c * 2) := cells_there hd (by rw [hC]; omega)
  obtain ⟨C1, h1, s1⟩ := blk_set hd ((a.length + 1) * 2) (rowC d)
  obtain ⟨C2, h2, s2⟩ := blk_set h1 (a.length * 2) (rowC [x])
  have hx2 : (rowC [x]).length = 2 := rfl
  rw [← hlen]
  refine row_own h2 (by rw [s2, s1, hC]) ?_ (by rw [hlen]; exact hroom) hm (fit_mid hf hx)
  rw [rowC_mid]
  rw [rowC_append] at hr
  have hr' : w.drew.rangeAt B 0 (rowC a ++ rowC d) := hr
  have ra := World.rangeAt_setCells_apart (World.rangeAt_setCells_apart (range_left hr') B ((a.length + 1) * 2) (rowC d) (.inr (.inl (by rw [rowC_length]; omega)))) B (a.length * 2) (rowC [x]) (.inr (.inl (by rw [rowC_length]; omega)))
  have rd := World.rangeAt_setCells_apart (World.rangeAt_setCells_same w.drew B ((a.length + 1) * 2) (rowC d) (there_at hth (by rw [rowC_length]; omega))) B (a.length * 2) (rowC [x]) (.inr (.inr (by rw [hx2]; omega)))
  have rx := World.rangeAt_setCells_same (w.drew.setCells B ((a.length + 1) * 2) (rowC d)) B (a.length * 2) (rowC [x]) (there_at (isSome_set hth (by rw [rowC_length]; omega)) (by rw [hx2]; omega))
  refine range_append ra ?_
  rw [rowC_length, Nat.zero_add]
  refine range_append rx ?_
  rw [hx2, show a.length * 2 + 2 = (a.length + 1) * 2 by omega]
  exact rd
theorem grow_own {a d : List Span} {x : Span} {T : TypeId} {w : World} {G : Nat} {ROW : Array Value} (hG : (a ++ d).length + 1 ≤ G) (hm : G ≤ maxLen) (hR : ROW.size = G * 2) (hRt : ∀ (j : Nat) (v : Value), (rowC a)[j]? = some v → ROW[j]? = some v) (hf : ∀ y ∈ a ++ d, FitSpan y) (hx : FitSpan x) :
    OwS OSpan T ((((w.alloc (.cells ROW T)).drew.setCells w.heap.size (a.length * 2) (rowC [x])).drew).setCells w.heap.size ((a.length + 1) * 2) (rowC d)) (.slice (some ⟨w.heap.size, 0, none⟩) ((a ++ d).length + 1) G) (a ++ x :: d) [w.heap.size] := by
  have hlen : (a ++ x :: d).length = (a ++ d).length + 1 := by simp; omega
  have hl2 : (a ++ d).length = a.length + d.length := by simp
  have h0 : Blk (w.alloc (.cells ROW T)).drew w.heap.size T ROW := Blk.new w T ROW
  have hth : (w.alloc (.cells ROW T)).drew.there w.heap.size 0 (G * 2) := cells_there h0 (by rw [hR]; omega)
  obtain ⟨C1, h1, s1⟩ := blk_set h0 (a.length * 2) (rowC [x])
  have h1' : Blk ((w.alloc (.cells ROW T)).drew.setCells w.heap.size (a.length * 2) (rowC [x])).drew w.heap.size T C1 := h1
  obtain ⟨C2, h2, s2⟩ := blk_set h1' ((a.length + 1) * 2) (rowC d)
  have hx2 : (rowC [x]).length = 2 := rfl
  rw [← hlen]
  refine row_own h2 (by rw [s2, s1, hR]) ?_ (by rw [hlen]; exact hG) hm (fit_mid hf hx)
  rw [rowC_mid]
  have r0 : (w.alloc (.cells ROW T)).drew.rangeAt w.heap.size 0 (rowC a) := fun j v hj => by rw [Nat.zero_add, h0.cell]; exact hRt j v hj
  have ra0 : ((w.alloc (.cells ROW T)).drew.setCells w.heap.size (a.length * 2) (rowC [x])).drew.rangeAt w.heap.size 0 (rowC a) := World.rangeAt_setCells_apart r0 w.heap.size (a.length * 2) (rowC [x]) (.inr (.inl (by rw [rowC_length]; omega)))
  have rx0 : ((w.alloc (.cells ROW T)).drew.setCells w.heap.size (a.length * 2) (rowC [x])).drew.rangeAt w.heap.size (a.length * 2) (rowC [x]) := World.rangeAt_setCells_same (w.alloc (.cells ROW T)).drew w.heap.size (a.length * 2) (rowC [x]) (there_at hth (by rw [hx2]; omega))
  have hth1 : ((w.alloc (.cells ROW T)).drew.setCells w.heap.size (a.length * 2) (rowC [x])).drew.there w.heap.size 0 (G * 2) := isSome_set hth (by rw [hx2]; omega)
  have ra := World.rangeAt_setCells_apart ra0 w.heap.size ((a.length + 1) * 2) (rowC d) (.inr (.inl (by rw [rowC_length]; omega)))
  have rx := World.rangeAt_setCells_apart rx0 w.heap.size ((a.length + 1) * 2) (rowC d) (.inr (.inl (by rw [hx2]; omega)))
  have rd := World.rangeAt_setCells_same ((w.alloc (.cells ROW T)).drew.setCells w.heap.size (a.length * 2) (rowC [x])).drew w.heap.size ((a.length + 1) * 2) (rowC d) (there_at hth1 (by rw [rowC_length]; omega))
  refine range_append ra ?_
  rw [rowC_length, Nat.zero_add]
  refine range_append rx ?_
  rw [hx2, show a.length * 2 + 2 = (a.length + 1) * 2 by omega]
  exact rd
def RetIns (l : List Span) (F : List Nat) (w : World) (e : Ending) (w' : World) : Prop := ∃ v' F', e = .returned v' ∧ OwS OSpan 63 w' v' l F' ∧ Kept F w w' ∧ ∀ b ∈ F', b ∈ F ∨ w.heap.size ≤ b
set_option maxHeartbeats 4000000 in
set_option maxRecDepth 100000 in
theorem insert_end (a : List Span) (x : Span) (v : Value) (F : List Nat) (w : World) (Bx : Nat) (h : OwS OSpan 63 w v a F) (hl : a.length ≤ 1000) (hb : Blk w Bx 63 #[.int .i64 x.from_, .int .i64 x.to_]) (hx : FitSpan x) :
    Calls Tryz.prog 260 #[v, .int .i64 a.length, .slice (some ⟨Bx, 0, none⟩) 1 1] w (RetIns (a ++ [x]) F w) := by
  have HO := Lib.hid h
  obtain ⟨A, c, rfl, h1, h2⟩ := h.form
  unfold maxLen at h2
  have HBx := Lib.hid hb
  have HX := Lib.hid hx
  clear hb hx
  have i5 : (a.length : Int) ≤ (c : Int) := by omega
  cases A with
  | none =>
    have h0 : a.length = 0 ∧ c = 0 := by
      rcases h with ⟨rfl, _, A, hv⟩ | ⟨B, _, _, _, hv, _⟩
      · injection hv with _ _ hh; exact ⟨rfl, hh⟩
      · injection hv with e1; cases e1
    obtain ⟨ha, rfl⟩ := h0
    obtain rfl := List.eq_nil_of_length_eq_zero ha
    clear h ha i5 h1 h2
    go_enter Tryz.func260, Tryz.ntmps260
    go_wp2_with (at_builtin; refine wpList_append_one (O := OSpan) (T := 63) (l := ([] : List Span)) (F := F) (G := []) (y := x) (cs := [.int .i64 x.from_, .int .i64 x.to_]) rfl _ _ 149 rfl (.agg #[.int .i64 0, .int .i64 0]) 2 16 Tryz.underlying149 (by kernel_rfl) rfl rfl rfl HO.out _ 0 1 rfl ⟨rel_Span HX.out, rfl⟩ (Blk.range HBx.out) (by simpa using HO.out.nodup) (by simp) (by decide) ?_; intro v' w9 F' how hkp hF'; have HOW := Lib.hid how; have HKP := Lib.hid hkp; have HFF := Lib.hid hF'; clear how hkp hF')
    go_ret
    exact ⟨_, F', rfl, HOW.out, HKP.out, fun b hb => by rcases HFF.out b hb with h | h | h; exact .inl h; cases h; exact .inr h⟩
  | some ad =>
    obtain ⟨b, o, sp⟩ := ad
    clear h
    have i1 : (0 : Int) ≤ (a.length : Int) := Int.natCast_nonneg _
    go_enter Tryz.func260, Tryz.ntmps260
    go_wp2_with (at_builtin; refine wpList_append_one (O := OSpan) (T := 63) (l := a) (F := F) (G := []) (y := x) (cs := [.int .i64 x.from_, .int .i64 x.to_]) rfl _ _ 149 rfl (.agg #[.int .i64 0, .int .i64 0]) 2 16 Tryz.underlying149 (by kernel_rfl) rfl rfl rfl HO.out _ 0 1 rfl ⟨rel_Span HX.out, rfl⟩ (Blk.range HBx.out) (by simpa using HO.out.nodup) (by omega) (by decide) ?_; intro v' w9 F' how hkp hF'; have HOW := Lib.hid how; have HKP := Lib.hid hkp; have HFF := Lib.hid hF'; clear how hkp hF')
    all_goals (go_ret; exact ⟨_, F', rfl, HOW.out, HKP.out, fun b hb => by rcases HFF.out b hb with h | h | h; exact .inl h; cases h; exact .inr h⟩)
theorem insert_Span (a d : List Span) (x : Span) (v : Value) (F : List Nat) (w : World) (Bx : Nat) (h : OwS OSpan 63 w v (a ++ d) F) (hl : (a ++ d).length ≤ 1000) (hb : Blk w Bx 63 #[.int .i64 x.from_, .int .i64 x.to_]) (hx : FitSpan x) (hBx : Bx ∉ F) :
    Calls Tryz.prog 260 #[v, .int .i64 a.length, .slice (some ⟨Bx, 0, none⟩) 1 1] w (RetIns (a ++ x :: d) F w) := by
  rcases d with _ | ⟨y, d⟩
  · rw [List.append_nil] at h hl
    exact insert_end a x v F w Bx h hl hb hx
  · generalize hd : y :: d = e at *
    have he : 0 < e.length := by rw [← hd]; simp
    clear hd
    have hl2 : (a ++ e).length = a.length + e.length := by simp
    obtain ⟨B, c, C, rfl, hB, hC, hlc, hcm, rfl, hr, hf⟩ := own_row h (by omega)
    have hdrop : (rowC (a ++ e)).drop (a.length * 2) = rowC e := by rw [rowC_append, ← rowC_length, List.drop_left]
    have htake : (rowC (a ++ e)).take (a.length * 2) = rowC a := by rw [rowC_append, ← rowC_length, List.take_left]
    have hxr : w.rangeAt Bx 0 (rowC [x]) := hb.range
    have hm : c ≤ maxLen := hcm
    unfold maxLen at hcm
    by_cases hroom : (a ++ e).length + 1 ≤ c
    · refine (ins_shift B (a ++ e).length c a.length Bx 1 1 (rowC (a ++ e)) (rowC [x]) w (by omega) (by decide) hroom (by omega) (by simpa using hBx) (rowC_length _) rfl hr (cells_there hB (by rw [hC]; omega)) hxr (rowC_one _) (rowC_one _) _ _ _ _ (blk_shape hb) (blk_shape hB) (by rw [hC]; omega) (hb.frozen _) (hb.frozen _)).mono ?_
      rintro r w' ⟨rfl, rfl⟩
      rw [hdrop]
      exact ⟨_, [B], rfl, shift_own hB hC hr hroom hm hf hx, Kept.setCells (by simp) _ _ _ (Kept.setCells (by simp) _ _ _ (Kept.of_ext (Ext.refl w).drew)), fun b hb => .inl hb⟩
    · refine (ins_grow B (a ++ e).length c a.length Bx 1 1 (rowC (a ++ e)) (rowC [x]) w (by omega) (by decide) hlc (by omega) (by omega) (rowC_length _) rfl hr hxr (rowC_one _) (rowC_one _)).mono ?_
      rintro r w' ⟨G, ROW, rfl, hG, hGm, hR, hRt, rfl⟩
      rw [hdrop]
      rw [htake] at hRt
      refine ⟨_, [w.heap.size], rfl, grow_own hG hGm hR hRt hf hx, ?_, fun b hb => .inr (by rw [List.mem_singleton.1 hb]; exact Nat.le_refl _)⟩
      exact Kept.of_ext (setCells_ext (Nat.le_refl _) _ _ _ (setCells_ext (Nat.le_refl _) _ _ _ ((Ext.refl w).alloc _).drew).drew)
end Go.Proofs.YtngldifgcgblpaaGreat
namespace Go.Proofs.YtngldifgcgblpaaGreat
open Go.RowKit
attribute [local irreducible] wpQuiet
def laps (x o : Span) : Bool := decide (o.from_ < x.to_) && decide (x.from_ < o.to_)
def freeOf (l : List Span) (x : Span) : Bool := !(l.any (laps x))
/-- Where x goes. -/
def insAt (l : List Span) (x : Span) : Nat := (l.takeWhile (ahead x)).length
def spanIns (l : List Span) (x : Span) : List Span := l.take (insAt l x) ++ x :: l.drop (insAt l x)
theorem insAt_le (l : List Span) (x : Span) : insAt l x ≤ l.length := by
  unfold insAt
  induction l with
  | nil => simp
  | cons y l ih =>
    rw [List.takeWhile_cons]
    split
    · simpa using ih
    · simp
theorem insAt_low : ∀ (l : List Span) (x : Span) (k : Nat), k < insAt l x → (nth l k).from_ < x.from_
  | [], x, k, h => by simp [insAt] at h
  | y :: l, x, k, h => by
    unfold insAt at h
    rw [List.takeWhile_cons] at h
    split at h
    · rename_i hy
      rcases k with _ | k
      · simpa [ahead, nth] using hy
      · exact insAt_low l x k (by unfold insAt; simpa using h)
    · simp at h
theorem insAt_at : ∀ (l : List Span) (x : Span), insAt l x < l.length → ¬ (nth l (insAt l x)).from_ < x.from_
  | [], x, h => by simp at h
  | y :: l, x, h => by
    unfold insAt at h ⊢
    rw [List.takeWhile_cons] at h ⊢
    split
    · rename_i hy
      rw [if_pos hy] at h
      exact insAt_at l x (by unfold insAt; simpa using h)
    · rename_i hy
      simpa [ahead, nth] using hy
theorem free_no {l : List Span} {x : Span} {k : Nat} (hk : k < l.length) (h : laps x (nth l k) = true) : freeOf l x = false := by
  unfold freeOf
  simp only [Bool.not_eq_false', List.any_eq_true]
  exact ⟨_, nth_mem hk, h⟩
theorem free_yes {l : List Span} {x : Span} (h : ∀ k, k < l.length → laps x (nth l k) = false) : freeOf l x = true := by
  unfold freeOf
  simp only [Bool.not_eq_true', List.any_eq_false]
  intro y hy
  obtain ⟨i, hi, rfl⟩ := List.getElem_of_mem hy
  have := h i hi
  rw [nth_eq hi] at this
  simpa using this
theorem quiet_ext {w0 w V : World} {n : Nat} (h : w.drewN n = V) (hx : Ext w0 w) : Ext w0 V := by subst h; exact hx.trans ⟨rfl, rfl, rfl, Nat.le_refl _, fun _ _ => rfl⟩
theorem call_isFree1 : ∀ (args : Array Value) (W : World), (callFunc 258 args).run Tryz.prog W = .ok (.enter 258 args) W := by
  intro args W
  go_simp
set_option maxHeartbeats 2000000 in
theorem isFree1_any {S : Nat → Prop} (o x : Span) (cs : List Value) (B : Nat) (w : World) (h : ESpan.rel S w cs o) (d0 : w.cell? ⟨B, 0, none⟩ = some (.int .i64 x.from_)) (d1 : w.cell? ⟨B, 1, none⟩ = some (.int .i64 x.to_)) :
    Calls Tryz.prog 258 #[.agg cs.toArray, .pointer (some ⟨B, 0, none⟩)] w fun e w' => e = .returned (.bool (laps x o)) ∧ Ext w w' := by
  obtain ⟨rfl, _⟩ := h
  have d0' := fun ob : Obj => Ext.some ((Ext.refl w).alloc ob) d0
  have d1' := fun ob : Obj => Ext.some ((Ext.refl w).alloc ob) d1
  simp only [cellsSpan]
  go_enter Tryz.func258, Tryz.ntmps258
  go_wp2_with fail
  all_goals (go_ret; exact ⟨ret_bool (by unfold laps; simp_all <;> omega), (Ext.refl _).alloc _⟩)
set_option maxHeartbeats 2000000 in
theorem isFree_any {S : Nat → Prop} (l : List Span) (x : Span) (v : Value) (w : World) (h : Rd ESpan S w v l) :
    Calls Tryz.prog 183 #[v, .agg #[.int .i64 x.from_, .int .i64 x.to_]] w fun e w' => e = .returned (.bool (freeOf l x)) ∧ Ext w w' := by
  have HR := Lib.hid h
  obtain ⟨A, c, rfl, h1, h2⟩ := h.form
  clear h
  go_enter Tryz.func183, Tryz.ntmps183
  go_upto_region 1 with (fail)
  obtain ⟨W, B, hW, hB, hx0, b0⟩ : ∃ W B, W = w.alloc (.cells #[.int .i64 x.from_, .int .i64 x.to_] 63) ∧ B = w.heap.size ∧ Ext w W ∧ Blk W B 63 #[.int .i64 x.from_, .int .i64 x.to_] := ⟨_, _, rfl, rfl, (Ext.refl w).alloc _, Blk.new _ _ _⟩
  rw [← hW, ← hB]
  have B0 := Lib.hid b0
  have X0 := Lib.hid hx0
  clear hW hB hx0 b0
  go_wp2_with fail
  refine (containsFunc_Span_1 (S := S) l (laps x) _ 258 _ _ (HR.out.ext X0.out) call_isFree1 (fun cs o w3 hx hr => isFree1_any o x cs _ w3 hr (Ext.some hx (B0.out.cell 0)) (Ext.some hx (B0.out.cell 1)))).mono ?_
  rintro e w2 ⟨rfl, hx2⟩
  have X2 := Lib.hid (X0.out.trans hx2)
  clear hx2
  go_wp2_with fail
  go_ret
  exact ⟨ret_bool (by rw [freeOf]), X2.out⟩
set_option maxHeartbeats 4000000 in
theorem l03Free_any {S : Nat → Prop} (l : List Span) (x : Span) (v : Value) (w : World) (h : Rd ESpan S w v l) :
    Calls Tryz.prog 180 #[v, .agg #[.int .i64 x.from_, .int .i64 x.to_]] w fun e w' => e = .returned (.bool (freeOf l x)) ∧ Ext w w' := by
  obtain ⟨A, c, rfl, h1, h2, hk⟩ := h.span
  unfold maxLen at h2
  have HK := Lib.hid hk
  clear hk h
  go_enter Tryz.func180, Tryz.ntmps180
  go_upto_region 1 with (fail)
  obtain ⟨W, B, hW, hB, hx0, b0⟩ : ∃ W B, W = w.alloc (.cells #[.int .i64 x.from_, .int .i64 x.to_] 63) ∧ B = w.heap.size ∧ Ext w W ∧ Blk W B 63 #[.int .i64 x.from_, .int .i64 x.to_] := ⟨_, _, rfl, rfl, (Ext.refl w).alloc _, Blk.new _ _ _⟩
  rw [← hW, ← hB]
  have B0 := Lib.hid b0
  have X0 := Lib.hid hx0
  clear hW hB hx0 b0
  go_wp2_with fail
  go_loopw [5] (fun i w' => ∃ k : Nat, k ≤ l.length ∧ i = .int .i64 k ∧ (∀ j, j < k → laps x (nth l j) = false) ∧ Ext W w') (fun i _ => l.length - (intOf i).toNat)
  case atStart => exact ⟨0, by omega, rfl, fun j hj => by omega, Ext.refl _⟩
  case round =>
    obtain ⟨k, hk1, rfl, hall, hx⟩ := hrel
    have HA := Lib.hid hall
    have HX := Lib.hid hx
    clear hall
    by_cases hlt : k < l.length
    · obtain ⟨b, o, rfl, hb, c0, c1⟩ := HK.out k hlt
      have c0' := Ext.some (X0.out.trans hx) c0
      have c1' := Ext.some (X0.out.trans hx) c1
      have b0' : wr.cell? ⟨B, 0, none⟩ = some (.int .i64 x.from_) := Ext.some hx (B0.out.cell 0)
      have b1' : wr.cell? ⟨B, 1, none⟩ = some (.int .i64 x.to_) := Ext.some hx (B0.out.cell 1)
      clear c0 c1 hb hx
      have hi : (k : Int) < (l.length : Int) := by omega
      have hi0 : (0 : Int) ≤ (k : Int) := Int.natCast_nonneg _
      by_cases hp : laps x (nth l k) = true
      · have HF : Hid (freeOf l x = false) := Lib.hid (free_no hlt hp)
        have hq := hp
        unfold laps at hq
        simp only [Bool.and_eq_true, decide_eq_true_eq] at hq
        obtain ⟨q1, q2⟩ := hq
        clear hp
        go_wp2_with fail
        go_quiet (fail)
        generalize hV : wr.drewN _ = V
        have XV := Lib.hid (quiet_ext hV (X0.out.trans HX.out))
        clear hV
        go_wp2_with fail
        go_ret
        exact ⟨ret_bool HF.out.symm, XV.out⟩
      · simp only [Bool.not_eq_true] at hp
        have HE := Lib.hid (all_succ HA.out hp)
        by_cases q1 : (nth l k).from_ < x.to_
        · have q2 : ¬ x.from_ < (nth l k).to_ := by
            intro q2
            unfold laps at hp
            simp [q1, q2] at hp
          clear hp
          go_wp2_with fail
          go_quiet (fail)
          generalize hV : wr.drewN _ = V
          have XV := Lib.hid (quiet_ext hV HX.out)
          clear hV
          go_wp2_with fail
          go_roundw
          case rel => exact ⟨k + 1, by omega, by go_num, HE.out, XV.out⟩
          case measure => simp [intOf]; omega
        · clear hp
          have q1' : decide ((nth l k).from_ < x.to_) = false := by simpa using q1
          go_wp2_with fail
          go_quiet (fail)
          generalize hV : wr.drewN _ = V
          have XV := Lib.hid (quiet_ext hV HX.out)
          clear hV
          go_wp2_with fail
          go_roundw
          case rel => exact ⟨k + 1, by omega, by go_num, HE.out, XV.out⟩
          case measure => simp [intOf]; omega
    · obtain rfl : k = l.length := by omega
      have HE : Hid (freeOf l x = true) := Lib.hid (free_yes HA.out)
      go_wp2_with fail
      go_ret
      exact ⟨ret_bool HE.out.symm, X0.out.trans HX.out⟩
-- printed by wip/put.py
set_option maxHeartbeats 8000000 in
set_option maxRecDepth 100000 in
theorem l03Put_some {S : Nat → Prop} (l : List Span) (x : Span) (v : Value) (w : World) (h : Rd ESpan S w v l) (h0 : 0 < l.length) (hl : l.length ≤ 1000) (hf : FitSpan x) :
    Calls Tryz.prog 181 #[v, .agg #[.int .i64 x.from_, .int .i64 x.to_]] w (RetO OSpan 63 (spanIns l x) w) := by
  have HR := Lib.hid h
  obtain ⟨A, c, rfl, h1, h2, hk⟩ := h.span
  have hcm := Lib.hid h2
  unfold maxLen at h2
  have HK := Lib.hid hk
  have HF := Lib.hid hf
  have HP := Lib.hid (insAt_le l x)
  obtain ⟨b0, o0, hA, -⟩ := hk 0 h0
  subst hA
  have HLT : Hid ((l.take (insAt l x)).length = insAt l x) := Lib.hid (by rw [List.length_take]; have := insAt_le l x; omega)
  clear hk h hf
  go_enter Tryz.func181, Tryz.ntmps181
  go_upto_region 1 with (fail)
  obtain ⟨W, B, hW, hB, hBl, hx0, b0⟩ : ∃ W B, W = w.alloc (.cells #[.int .i64 x.from_, .int .i64 x.to_] 63) ∧ B = w.heap.size ∧ w.heap.size ≤ B ∧ Ext w W ∧ Blk W B 63 #[.int .i64 x.from_, .int .i64 x.to_] := ⟨_, _, rfl, rfl, Nat.le_refl _, (Ext.refl w).alloc _, Blk.new _ _ _⟩
  rw [← hW, ← hB]
  have B0 := Lib.hid b0
  have X0 := Lib.hid hx0
  clear hW hB hx0 b0 hBl
  go_wp2_with fail
  go_loopw [5] (fun i w' => ∃ k : Nat, k ≤ insAt l x ∧ i = .int .i64 k ∧ Ext W w') (fun i _ => l.length - (intOf i).toNat)
  case atStart => exact ⟨0, by omega, rfl, Ext.refl _⟩
  case round =>
    obtain ⟨k, hk1, rfl, hx⟩ := hrel
    have HX := Lib.hid hx
    have hi0 : (0 : Int) ≤ (k : Int) := Int.natCast_nonneg _
    have b0' : wr.cell? ⟨B, 0, none⟩ = some (.int .i64 x.from_) := Ext.some hx (B0.out.cell 0)
    have b1' : wr.cell? ⟨B, 1, none⟩ = some (.int .i64 x.to_) := Ext.some hx (B0.out.cell 1)
    have hle := HP.out
    by_cases hlt : k < insAt l x
    · obtain ⟨b, o, hbo, hb, c0, c1⟩ := HK.out k (by omega)
      cases hbo
      have c0' := Ext.some (X0.out.trans hx) c0
      have c1' := Ext.some (X0.out.trans hx) c1
      have q1 := insAt_low l x k hlt
      clear c0 c1 hb hx
      have hi : (k : Int) < (l.length : Int) := by omega
      go_wp2_with fail
      go_quiet (fail)
      generalize hV : wr.drewN _ = V
      have XV := Lib.hid (quiet_ext hV HX.out)
      clear hV
      go_wp2_with fail
      go_roundw
      case rel => exact ⟨k + 1, by omega, by go_num, XV.out⟩
      case measure => simp [intOf]; omega
    · obtain rfl : k = insAt l x := by omega
      generalize hp : insAt l x = p at *
      have HPL := Lib.hid hp
      by_cases hpl : p < l.length
      · obtain ⟨b, o, hbo, hb, c0, c1⟩ := HK.out p hpl
        cases hbo
        have c0' := Ext.some (X0.out.trans hx) c0
        have c1' := Ext.some (X0.out.trans hx) c1
        have q1 : decide ((nth l p).from_ < x.from_) = false := by have := insAt_at l x (by rw [hp]; exact hpl); rw [hp] at this; simpa using this
        clear c0 c1 hb hx hp hlt hk1
        have hi : (p : Int) < (l.length : Int) := by omega
        have hpc : ¬ (c = p) := by omega
        have hi2 : (p : Int) ≤ (l.length : Int) := by omega
        have hi3 : (p : Int) ≤ (c : Int) := by omega
        go_wp2_with fail
        go_quiet (fail)
        generalize hV : wr.drewN _ = V
        have XV := Lib.hid (quiet_ext hV (X0.out.trans HX.out))
        have b0' : V.cell? ⟨B, 0, none⟩ = some (.int .i64 x.from_) := Ext.some (quiet_ext hV (Ext.refl _)) b0'
        have b1' : V.cell? ⟨B, 1, none⟩ = some (.int .i64 x.to_) := Ext.some (quiet_ext hV (Ext.refl _)) b1'
        clear hV c0' c1'
        go_upto_region 5 with (at_builtin; refine wpList_append_flat (E := ESpan) (T := 63) (hfl := fun h => h) (l := ([] : List Span)) (ys := l.take p) (F := []) (S := S) rfl _ _ 149 rfl (.agg #[.int .i64 0, .int .i64 0]) 2 16 Tryz.underlying149 (by kernel_rfl) rfl rfl rfl (OwS.nil _) rfl (Rd.take (HR.out.ext (XV.out.alloc _)) (by omega)) (by simp only [List.length_nil, List.length_take]; unfold maxLen; omega) (by simp only [List.length_nil, List.length_take]; omega) ?_; intro v1 w1 F1 o1 k1 f1; have O1 := Lib.hid o1; have F1h : Hid (∀ b ∈ F1, (V).heap.size ≤ b) := Lib.hid (fun b hb => by rcases f1 b hb with h | h; cases h; exact Nat.le_trans ((Ext.refl _).alloc _).size h); have X1 := Lib.hid (k1.ext (XV.out.alloc _) (fun b hb => by cases hb)); have d0 : w1.cell? ⟨B, 0, none⟩ = some (.int .i64 x.from_) := k1.cell (by simp) (((Ext.refl _).alloc _).some b0'); have d1 : w1.cell? ⟨B, 1, none⟩ = some (.int .i64 x.to_) := k1.cell (by simp) (((Ext.refl _).alloc _).some b1'); have X1v : Hid (Ext V w1) := Lib.hid (k1.ext ((Ext.refl _).alloc _) (fun b hb => by cases hb)); have F1w : Hid (∀ b ∈ F1, w.heap.size ≤ b) := Lib.hid (fun b hb => Nat.le_trans (XV.out).size (F1h.out b hb)); clear o1 k1 f1)
        go_upto_region 6 with (at_builtin; refine wpList_append_one (O := OSpan) (T := 63) (l := l.take p) (F := F1) (G := []) (y := x) (cs := [.int .i64 x.from_, .int .i64 x.to_]) rfl _ _ 149 rfl (.agg #[.int .i64 0, .int .i64 0]) 2 16 Tryz.underlying149 (by kernel_rfl) rfl rfl rfl (O1.out.ext ((Ext.refl _).alloc _)) _ 0 1 rfl ⟨rel_Span HF.out, rfl⟩ (Blk.new _ _ _).range (by simpa using O1.out.nodup) (by rw [List.length_take]; omega) (by decide) ?_; intro v2 w2 F2 o2 k2 f2; have O2 := Lib.hid o2; have F2h : Hid (∀ b ∈ F2, (V).heap.size ≤ b) := Lib.hid (fun b hb => by rcases f2 b hb with h | h | h; exact F1h.out b h; cases h; exact Nat.le_trans (X1v.out).size (Nat.le_trans ((Ext.refl _).alloc _).size h)); have F1q := F1w; have X2 := Lib.hid (k2.ext (X1.out.alloc _) F1w.out); have F2w : Hid (∀ b ∈ F2, w.heap.size ≤ b) := Lib.hid (fun b hb => Nat.le_trans (XV.out).size (F2h.out b hb)); clear o2 k2 f2)
        go_wp2_with (at_builtin; refine wpList_append_flat (E := ESpan) (T := 63) (hfl := fun h => h) (l := l.take p ++ [x]) (ys := l.drop p) (F := F2) (S := S) rfl _ _ 149 rfl (.agg #[.int .i64 0, .int .i64 0]) 2 16 Tryz.underlying149 (by kernel_rfl) rfl rfl rfl O2.out rfl (Rd.drop (HR.out.ext X2.out) (by omega)) (by simp only [List.length_append, List.length_cons, List.length_nil, List.length_take, List.length_drop]; unfold maxLen; omega) (by simp only [List.length_append, List.length_cons, List.length_nil, List.length_take, List.length_drop]; omega) ?_; intro v3 w3 F3 o3 k3 f3; have O3 := Lib.hid o3; have X3 := Lib.hid (k3.ext X2.out F2w.out); have F3h : Hid (∀ b ∈ F3, w.heap.size ≤ b) := Lib.hid (fun b hb => by rcases f3 b hb with h | h; exact F2w.out b h; exact Nat.le_trans X2.out.size h); clear o3 k3 f3)
        go_ret
        exact ⟨_, F3, rfl, by rw [spanIns, HPL.out]; have o3 := O3.out; simp at o3 ⊢; exact o3, F3h.out, X3.out⟩
      · have hpe : p = l.length := by omega
        subst hpe
        have q0 : ¬ l.length = 0 := by omega
        go_wp2_with fail
        go_quiet (fail)
        generalize hV : wr.drewN _ = V
        have XV := Lib.hid (quiet_ext hV (X0.out.trans HX.out))
        have b0' : V.cell? ⟨B, 0, none⟩ = some (.int .i64 x.from_) := Ext.some (quiet_ext hV (Ext.refl _)) b0'
        have b1' : V.cell? ⟨B, 1, none⟩ = some (.int .i64 x.to_) := Ext.some (quiet_ext hV (Ext.refl _)) b1'
        clear hV
        have hnil : l.drop l.length = [] := List.drop_length
        have hi2 : (0 : Int) ≤ (l.length : Int) := by omega
        have hi3 : (l.length : Int) ≤ (c : Int) := by omega
        have HC := Lib.hid (show c - l.length ≤ maxLen by have := hcm.out; omega)
        clear hp hlt hk1 hx hpl
        by_cases hcp : c = l.length
        · subst hcp
          go_upto_region 5 with (at_builtin; refine wpList_append_flat (E := ESpan) (T := 63) (hfl := fun h => h) (l := ([] : List Span)) (ys := l.take l.length) (F := []) (S := S) rfl _ _ 149 rfl (.agg #[.int .i64 0, .int .i64 0]) 2 16 Tryz.underlying149 (by kernel_rfl) rfl rfl rfl (OwS.nil _) rfl (Rd.take (HR.out.ext (XV.out.alloc _)) (by omega)) (by simp only [List.length_nil, List.length_take]; unfold maxLen; omega) (by simp only [List.length_nil, List.length_take]; omega) ?_; intro v1 w1 F1 o1 k1 f1; have O1 := Lib.hid o1; have F1h : Hid (∀ b ∈ F1, (V).heap.size ≤ b) := Lib.hid (fun b hb => by rcases f1 b hb with h | h; cases h; exact Nat.le_trans ((Ext.refl _).alloc _).size h); have X1 := Lib.hid (k1.ext (XV.out.alloc _) (fun b hb => by cases hb)); have d0 : w1.cell? ⟨B, 0, none⟩ = some (.int .i64 x.from_) := k1.cell (by simp) (((Ext.refl _).alloc _).some b0'); have d1 : w1.cell? ⟨B, 1, none⟩ = some (.int .i64 x.to_) := k1.cell (by simp) (((Ext.refl _).alloc _).some b1'); have X1v : Hid (Ext V w1) := Lib.hid (k1.ext ((Ext.refl _).alloc _) (fun b hb => by cases hb)); have F1w : Hid (∀ b ∈ F1, w.heap.size ≤ b) := Lib.hid (fun b hb => Nat.le_trans (XV.out).size (F1h.out b hb)); clear o1 k1 f1)
          go_upto_region 6 with (at_builtin; refine wpList_append_one (O := OSpan) (T := 63) (l := l.take l.length) (F := F1) (G := []) (y := x) (cs := [.int .i64 x.from_, .int .i64 x.to_]) rfl _ _ 149 rfl (.agg #[.int .i64 0, .int .i64 0]) 2 16 Tryz.underlying149 (by kernel_rfl) rfl rfl rfl (O1.out.ext ((Ext.refl _).alloc _)) _ 0 1 rfl ⟨rel_Span HF.out, rfl⟩ (Blk.new _ _ _).range (by simpa using O1.out.nodup) (by rw [List.length_take]; omega) (by decide) ?_; intro v2 w2 F2 o2 k2 f2; have O2 := Lib.hid o2; have F2h : Hid (∀ b ∈ F2, (V).heap.size ≤ b) := Lib.hid (fun b hb => by rcases f2 b hb with h | h | h; exact F1h.out b h; cases h; exact Nat.le_trans (X1v.out).size (Nat.le_trans ((Ext.refl _).alloc _).size h)); have F1q := F1w; have X2 := Lib.hid (k2.ext (X1.out.alloc _) F1w.out); have F2w : Hid (∀ b ∈ F2, w.heap.size ≤ b) := Lib.hid (fun b hb => Nat.le_trans (XV.out).size (F2h.out b hb)); clear o2 k2 f2)
          go_wp2_with (at_builtin; refine wpList_append_flat (E := ESpan) (T := 63) (hfl := fun h => h) (l := l.take l.length ++ [x]) (ys := ([] : List Span)) (F := F2) (S := S) rfl _ _ 149 rfl (.agg #[.int .i64 0, .int .i64 0]) 2 16 Tryz.underlying149 (by kernel_rfl) rfl rfl rfl O2.out rfl (Rd.nil (by decide)) (by simp only [List.length_append, List.length_cons, List.length_nil, List.length_take]; unfold maxLen; omega) (by simp only [List.length_append, List.length_cons, List.length_nil, List.length_take]; omega) ?_; intro v3 w3 F3 o3 k3 f3; have O3 := Lib.hid o3; have X3 := Lib.hid (k3.ext X2.out F2w.out); have F3h : Hid (∀ b ∈ F3, w.heap.size ≤ b) := Lib.hid (fun b hb => by rcases f3 b hb with h | h; exact F2w.out b h; exact Nat.le_trans X2.out.size h); clear o3 k3 f3)
          go_ret
          exact ⟨_, F3, rfl, by rw [spanIns, HPL.out]; have o3 := O3.out; simp [hnil] at o3 ⊢; exact o3, F3h.out, X3.out⟩
        · skip
          go_upto_region 5 with (at_builtin; refine wpList_append_flat (E := ESpan) (T := 63) (hfl := fun h => h) (l := ([] : List Span)) (ys := l.take l.length) (F := []) (S := S) rfl _ _ 149 rfl (.agg #[.int .i64 0, .int .i64 0]) 2 16 Tryz.underlying149 (by kernel_rfl) rfl rfl rfl (OwS.nil _) rfl (Rd.take (HR.out.ext (XV.out.alloc _)) (by omega)) (by simp only [List.length_nil, List.length_take]; unfold maxLen; omega) (by simp only [List.length_nil, List.length_take]; omega) ?_; intro v1 w1 F1 o1 k1 f1; have O1 := Lib.hid o1; have F1h : Hid (∀ b ∈ F1, (V).heap.size ≤ b) := Lib.hid (fun b hb => by rcases f1 b hb with h | h; cases h; exact Nat.le_trans ((Ext.refl _).alloc _).size h); have X1 := Lib.hid (k1.ext (XV.out.alloc _) (fun b hb => by cases hb)); have d0 : w1.cell? ⟨B, 0, none⟩ = some (.int .i64 x.from_) := k1.cell (by simp) (((Ext.refl _).alloc _).some b0'); have d1 : w1.cell? ⟨B, 1, none⟩ = some (.int .i64 x.to_) := k1.cell (by simp) (((Ext.refl _).alloc _).some b1'); have X1v : Hid (Ext V w1) := Lib.hid (k1.ext ((Ext.refl _).alloc _) (fun b hb => by cases hb)); have F1w : Hid (∀ b ∈ F1, w.heap.size ≤ b) := Lib.hid (fun b hb => Nat.le_trans (XV.out).size (F1h.out b hb)); clear o1 k1 f1)
          go_upto_region 6 with (at_builtin; refine wpList_append_one (O := OSpan) (T := 63) (l := l.take l.length) (F := F1) (G := []) (y := x) (cs := [.int .i64 x.from_, .int .i64 x.to_]) rfl _ _ 149 rfl (.agg #[.int .i64 0, .int .i64 0]) 2 16 Tryz.underlying149 (by kernel_rfl) rfl rfl rfl (O1.out.ext ((Ext.refl _).alloc _)) _ 0 1 rfl ⟨rel_Span HF.out, rfl⟩ (Blk.new _ _ _).range (by simpa using O1.out.nodup) (by rw [List.length_take]; omega) (by decide) ?_; intro v2 w2 F2 o2 k2 f2; have O2 := Lib.hid o2; have F2h : Hid (∀ b ∈ F2, (V).heap.size ≤ b) := Lib.hid (fun b hb => by rcases f2 b hb with h | h | h; exact F1h.out b h; cases h; exact Nat.le_trans (X1v.out).size (Nat.le_trans ((Ext.refl _).alloc _).size h)); have F1q := F1w; have X2 := Lib.hid (k2.ext (X1.out.alloc _) F1w.out); have F2w : Hid (∀ b ∈ F2, w.heap.size ≤ b) := Lib.hid (fun b hb => Nat.le_trans (XV.out).size (F2h.out b hb)); clear o2 k2 f2)
          go_wp2_with (at_builtin; refine wpList_append_flat (E := ESpan) (T := 63) (hfl := fun h => h) (l := l.take l.length ++ [x]) (ys := ([] : List Span)) (F := F2) (S := S) rfl _ _ 149 rfl (.agg #[.int .i64 0, .int .i64 0]) 2 16 Tryz.underlying149 (by kernel_rfl) rfl rfl rfl O2.out rfl (Rd.nil HC.out) (by simp only [List.length_append, List.length_cons, List.length_nil, List.length_take]; unfold maxLen; omega) (by simp only [List.length_append, List.length_cons, List.length_nil, List.length_take]; omega) ?_; intro v3 w3 F3 o3 k3 f3; have O3 := Lib.hid o3; have X3 := Lib.hid (k3.ext X2.out F2w.out); have F3h : Hid (∀ b ∈ F3, w.heap.size ≤ b) := Lib.hid (fun b hb => by rcases f3 b hb with h | h; exact F2w.out b h; exact Nat.le_trans X2.out.size h); clear o3 k3 f3)
          go_ret
          exact ⟨_, F3, rfl, by rw [spanIns, HPL.out]; have o3 := O3.out; simp [hnil] at o3 ⊢; exact o3, F3h.out, X3.out⟩
set_option maxHeartbeats 8000000 in
set_option maxRecDepth 100000 in
theorem l03Put_nil {S : Nat → Prop} (x : Span) (A : Option Addr) (c : Nat) (w : World) (hcm : c ≤ maxLen) (hf : FitSpan x) :
    Calls Tryz.prog 181 #[.slice A 0 c, .agg #[.int .i64 x.from_, .int .i64 x.to_]] w (RetO OSpan 63 [x] w) := by
  have HF := Lib.hid hf
  have HC := Lib.hid hcm
  unfold maxLen at hcm
  have hi3 : (0 : Int) ≤ (c : Int) := Int.natCast_nonneg _
  clear hf
  go_enter Tryz.func181, Tryz.ntmps181
  go_upto_region 1 with (fail)
  obtain ⟨W, B, hW, hB, hBl, hx0, b0⟩ : ∃ W B, W = w.alloc (.cells #[.int .i64 x.from_, .int .i64 x.to_] 63) ∧ B = w.heap.size ∧ w.heap.size ≤ B ∧ Ext w W ∧ Blk W B 63 #[.int .i64 x.from_, .int .i64 x.to_] := ⟨_, _, rfl, rfl, Nat.le_refl _, (Ext.refl w).alloc _, Blk.new _ _ _⟩
  rw [← hW, ← hB]
  have B0 := Lib.hid b0
  have X0 := Lib.hid hx0
  clear hW hB hx0 b0 hBl
  go_wp2_with fail
  go_loopw [5] (fun i w' => i = .int .i64 0 ∧ Ext W w') (fun i _ => 1 - (intOf i).toNat)
  case atStart => exact ⟨rfl, Ext.refl _⟩
  case round =>
    obtain ⟨rfl, hx⟩ := hrel
    have HX := Lib.hid hx
    have b0' : wr.cell? ⟨B, 0, none⟩ = some (.int .i64 x.from_) := Ext.some hx (B0.out.cell 0)
    have b1' : wr.cell? ⟨B, 1, none⟩ = some (.int .i64 x.to_) := Ext.some hx (B0.out.cell 1)
    clear hx
    go_wp2_with fail
    go_quiet (fail)
    generalize hV : wr.drewN _ = V
    have XV := Lib.hid (quiet_ext hV (X0.out.trans HX.out))
    have b0' : V.cell? ⟨B, 0, none⟩ = some (.int .i64 x.from_) := Ext.some (quiet_ext hV (Ext.refl _)) b0'
    have b1' : V.cell? ⟨B, 1, none⟩ = some (.int .i64 x.to_) := Ext.some (quiet_ext hV (Ext.refl _)) b1'
    clear hV
    cases A with
    | none =>
      go_upto_region 5 with (at_builtin; refine wpList_append_flat (E := ESpan) (T := 63) (hfl := fun h => h) (l := ([] : List Span)) (ys := ([] : List Span)) (F := []) (S := S) rfl _ _ 149 rfl (.agg #[.int .i64 0, .int .i64 0]) 2 16 Tryz.underlying149 (by kernel_rfl) rfl rfl rfl (OwS.nil _) rfl (Rd.nil (S := S) HC.out) (by simp only [List.length_nil]; unfold maxLen; omega) (by simp only [List.length_nil]; omega) ?_; intro v1 w1 F1 o1 k1 f1; have O1 := Lib.hid o1; have F1h : Hid (∀ b ∈ F1, (V).heap.size ≤ b) := Lib.hid (fun b hb => by rcases f1 b hb with h | h; cases h; exact Nat.le_trans ((Ext.refl _).alloc _).size h); have X1 := Lib.hid (k1.ext (XV.out.alloc _) (fun b hb => by cases hb)); have d0 : w1.cell? ⟨B, 0, none⟩ = some (.int .i64 x.from_) := k1.cell (by simp) (((Ext.refl _).alloc _).some b0'); have d1 : w1.cell? ⟨B, 1, none⟩ = some (.int .i64 x.to_) := k1.cell (by simp) (((Ext.refl _).alloc _).some b1'); have X1v : Hid (Ext V w1) := Lib.hid (k1.ext ((Ext.refl _).alloc _) (fun b hb => by cases hb)); have F1w : Hid (∀ b ∈ F1, w.heap.size ≤ b) := Lib.hid (fun b hb => Nat.le_trans (XV.out).size (F1h.out b hb)); clear o1 k1 f1)
      go_upto_region 6 with (at_builtin; refine wpList_append_one (O := OSpan) (T := 63) (l := ([] : List Span)) (F := F1) (G := []) (y := x) (cs := [.int .i64 x.from_, .int .i64 x.to_]) rfl _ _ 149 rfl (.agg #[.int .i64 0, .int .i64 0]) 2 16 Tryz.underlying149 (by kernel_rfl) rfl rfl rfl (O1.out.ext ((Ext.refl _).alloc _)) _ 0 1 rfl ⟨rel_Span HF.out, rfl⟩ (Blk.new _ _ _).range (by simpa using O1.out.nodup) (by decide) (by decide) ?_; intro v2 w2 F2 o2 k2 f2; have O2 := Lib.hid o2; have F2h : Hid (∀ b ∈ F2, (V).heap.size ≤ b) := Lib.hid (fun b hb => by rcases f2 b hb with h | h | h; exact F1h.out b h; cases h; exact Nat.le_trans (X1v.out).size (Nat.le_trans ((Ext.refl _).alloc _).size h)); have F1q := F1w; have X2 := Lib.hid (k2.ext (X1.out.alloc _) F1w.out); have F2w : Hid (∀ b ∈ F2, w.heap.size ≤ b) := Lib.hid (fun b hb => Nat.le_trans (XV.out).size (F2h.out b hb)); clear o2 k2 f2)
      go_wp2_with (at_builtin; refine wpList_append_flat (E := ESpan) (T := 63) (hfl := fun h => h) (l := [x]) (ys := ([] : List Span)) (F := F2) (S := S) rfl _ _ 149 rfl (.agg #[.int .i64 0, .int .i64 0]) 2 16 Tryz.underlying149 (by kernel_rfl) rfl rfl rfl O2.out rfl (Rd.nil HC.out) (by simp only [List.length_cons, List.length_nil]; unfold maxLen; omega) (by simp only [List.length_cons, List.length_nil]; omega) ?_; intro v3 w3 F3 o3 k3 f3; have O3 := Lib.hid o3; have X3 := Lib.hid (k3.ext X2.out F2w.out); have F3h : Hid (∀ b ∈ F3, w.heap.size ≤ b) := Lib.hid (fun b hb => by rcases f3 b hb with h | h; exact F2w.out b h; exact Nat.le_trans X2.out.size h); clear o3 k3 f3)
      go_ret
      exact ⟨_, F3, rfl, by have o3 := O3.out; simp at o3; exact o3, F3h.out, X3.out⟩
    | some a =>
      obtain ⟨b, o, sp⟩ := a
      by_cases hcp : c = 0
      · subst hcp
        go_upto_region 5 with (at_builtin; refine wpList_append_flat (E := ESpan) (T := 63) (hfl := fun h => h) (l := ([] : List Span)) (ys := ([] : List Span)) (F := []) (S := S) rfl _ _ 149 rfl (.agg #[.int .i64 0, .int .i64 0]) 2 16 Tryz.underlying149 (by kernel_rfl) rfl rfl rfl (OwS.nil _) rfl (Rd.nil (S := S) HC.out) (by simp only [List.length_nil]; unfold maxLen; omega) (by simp only [List.length_nil]; omega) ?_; intro v1 w1 F1 o1 k1 f1; have O1 := Lib.hid o1; have F1h : Hid (∀ b ∈ F1, (V).heap.size ≤ b) := Lib.hid (fun b hb => by rcases f1 b hb with h | h; cases h; exact Nat.le_trans ((Ext.refl _).alloc _).size h); have X1 := Lib.hid (k1.ext (XV.out.alloc _) (fun b hb => by cases hb)); have d0 : w1.cell? ⟨B, 0, none⟩ = some (.int .i64 x.from_) := k1.cell (by simp) (((Ext.refl _).alloc _).some b0'); have d1 : w1.cell? ⟨B, 1, none⟩ = some (.int .i64 x.to_) := k1.cell (by simp) (((Ext.refl _).alloc _).some b1'); have X1v : Hid (Ext V w1) := Lib.hid (k1.ext ((Ext.refl _).alloc _) (fun b hb => by cases hb)); have F1w : Hid (∀ b ∈ F1, w.heap.size ≤ b) := Lib.hid (fun b hb => Nat.le_trans (XV.out).size (F1h.out b hb)); clear o1 k1 f1)
        go_upto_region 6 with (at_builtin; refine wpList_append_one (O := OSpan) (T := 63) (l := ([] : List Span)) (F := F1) (G := []) (y := x) (cs := [.int .i64 x.from_, .int .i64 x.to_]) rfl _ _ 149 rfl (.agg #[.int .i64 0, .int .i64 0]) 2 16 Tryz.underlying149 (by kernel_rfl) rfl rfl rfl (O1.out.ext ((Ext.refl _).alloc _)) _ 0 1 rfl ⟨rel_Span HF.out, rfl⟩ (Blk.new _ _ _).range (by simpa using O1.out.nodup) (by decide) (by decide) ?_; intro v2 w2 F2 o2 k2 f2; have O2 := Lib.hid o2; have F2h : Hid (∀ b ∈ F2, (V).heap.size ≤ b) := Lib.hid (fun b hb => by rcases f2 b hb with h | h | h; exact F1h.out b h; cases h; exact Nat.le_trans (X1v.out).size (Nat.le_trans ((Ext.refl _).alloc _).size h)); have F1q := F1w; have X2 := Lib.hid (k2.ext (X1.out.alloc _) F1w.out); have F2w : Hid (∀ b ∈ F2, w.heap.size ≤ b) := Lib.hid (fun b hb => Nat.le_trans (XV.out).size (F2h.out b hb)); clear o2 k2 f2)
        go_wp2_with (at_builtin; refine wpList_append_flat (E := ESpan) (T := 63) (hfl := fun h => h) (l := [x]) (ys := ([] : List Span)) (F := F2) (S := S) rfl _ _ 149 rfl (.agg #[.int .i64 0, .int .i64 0]) 2 16 Tryz.underlying149 (by kernel_rfl) rfl rfl rfl O2.out rfl (Rd.nil (by decide)) (by simp only [List.length_cons, List.length_nil]; unfold maxLen; omega) (by simp only [List.length_cons, List.length_nil]; omega) ?_; intro v3 w3 F3 o3 k3 f3; have O3 := Lib.hid o3; have X3 := Lib.hid (k3.ext X2.out F2w.out); have F3h : Hid (∀ b ∈ F3, w.heap.size ≤ b) := Lib.hid (fun b hb => by rcases f3 b hb with h | h; exact F2w.out b h; exact Nat.le_trans X2.out.size h); clear o3 k3 f3)
        go_ret
        exact ⟨_, F3, rfl, by have o3 := O3.out; simp at o3; exact o3, F3h.out, X3.out⟩
      · skip
        go_upto_region 5 with (at_builtin; refine wpList_append_flat (E := ESpan) (T := 63) (hfl := fun h => h) (l := ([] : List Span)) (ys := ([] : List Span)) (F := []) (S := S) rfl _ _ 149 rfl (.agg #[.int .i64 0, .int .i64 0]) 2 16 Tryz.underlying149 (by kernel_rfl) rfl rfl rfl (OwS.nil _) rfl (Rd.nil (S := S) HC.out) (by simp only [List.length_nil]; unfold maxLen; omega) (by simp only [List.length_nil]; omega) ?_; intro v1 w1 F1 o1 k1 f1; have O1 := Lib.hid o1; have F1h : Hid (∀ b ∈ F1, (V).heap.size ≤ b) := Lib.hid (fun b hb => by rcases f1 b hb with h | h; cases h; exact Nat.le_trans ((Ext.refl _).alloc _).size h); have X1 := Lib.hid (k1.ext (XV.out.alloc _) (fun b hb => by cases hb)); have d0 : w1.cell? ⟨B, 0, none⟩ = some (.int .i64 x.from_) := k1.cell (by simp) (((Ext.refl _).alloc _).some b0'); have d1 : w1.cell? ⟨B, 1, none⟩ = some (.int .i64 x.to_) := k1.cell (by simp) (((Ext.refl _).alloc _).some b1'); have X1v : Hid (Ext V w1) := Lib.hid (k1.ext ((Ext.refl _).alloc _) (fun b hb => by cases hb)); have F1w : Hid (∀ b ∈ F1, w.heap.size ≤ b) := Lib.hid (fun b hb => Nat.le_trans (XV.out).size (F1h.out b hb)); clear o1 k1 f1)
        go_upto_region 6 with (at_builtin; refine wpList_append_one (O := OSpan) (T := 63) (l := ([] : List Span)) (F := F1) (G := []) (y := x) (cs := [.int .i64 x.from_, .int .i64 x.to_]) rfl _ _ 149 rfl (.agg #[.int .i64 0, .int .i64 0]) 2 16 Tryz.underlying149 (by kernel_rfl) rfl rfl rfl (O1.out.ext ((Ext.refl _).alloc _)) _ 0 1 rfl ⟨rel_Span HF.out, rfl⟩ (Blk.new _ _ _).range (by simpa using O1.out.nodup) (by decide) (by decide) ?_; intro v2 w2 F2 o2 k2 f2; have O2 := Lib.hid o2; have F2h : Hid (∀ b ∈ F2, (V).heap.size ≤ b) := Lib.hid (fun b hb => by rcases f2 b hb with h | h | h; exact F1h.out b h; cases h; exact Nat.le_trans (X1v.out).size (Nat.le_trans ((Ext.refl _).alloc _).size h)); have F1q := F1w; have X2 := Lib.hid (k2.ext (X1.out.alloc _) F1w.out); have F2w : Hid (∀ b ∈ F2, w.heap.size ≤ b) := Lib.hid (fun b hb => Nat.le_trans (XV.out).size (F2h.out b hb)); clear o2 k2 f2)
        go_wp2_with (at_builtin; refine wpList_append_flat (E := ESpan) (T := 63) (hfl := fun h => h) (l := [x]) (ys := ([] : List Span)) (F := F2) (S := S) rfl _ _ 149 rfl (.agg #[.int .i64 0, .int .i64 0]) 2 16 Tryz.underlying149 (by kernel_rfl) rfl rfl rfl O2.out rfl (Rd.nil HC.out) (by simp only [List.length_cons, List.length_nil]; unfold maxLen; omega) (by simp only [List.length_cons, List.length_nil]; omega) ?_; intro v3 w3 F3 o3 k3 f3; have O3 := Lib.hid o3; have X3 := Lib.hid (k3.ext X2.out F2w.out); have F3h : Hid (∀ b ∈ F3, w.heap.size ≤ b) := Lib.hid (fun b hb => by rcases f3 b hb with h | h; exact F2w.out b h; exact Nat.le_trans X2.out.size h); clear o3 k3 f3)
        go_ret
        exact ⟨_, F3, rfl, by have o3 := O3.out; simp at o3; exact o3, F3h.out, X3.out⟩
theorem l03Put_any {S : Nat → Prop} (l : List Span) (x : Span) (v : Value) (w : World) (h : Rd ESpan S w v l) (hl : l.length ≤ 1000) (hf : FitSpan x) :
    Calls Tryz.prog 181 #[v, .agg #[.int .i64 x.from_, .int .i64 x.to_]] w (RetO OSpan 63 (spanIns l x) w) := by
  rcases Nat.eq_zero_or_pos l.length with h0 | h0
  · obtain rfl := List.eq_nil_of_length_eq_zero h0
    obtain ⟨A, c, rfl, -, h2⟩ := h.form
    exact l03Put_nil (S := S) x A c w h2 hf
  · exact l03Put_some l x v w h h0 hl hf
set_option maxHeartbeats 2000000 in
theorem IsFree_any {S : Nat → Prop} (l : List Span) (x : Span) (v : Value) (w : World) (h : Rd ESpan S w v l) :
    Calls Tryz.prog 259 #[v, .agg #[.int .i64 x.from_, .int .i64 x.to_]] w fun e w' => e = .returned (.bool (spansRight l && spanRight x && freeOf l x)) ∧ Ext w w' := by
  have HR := Lib.hid h
  obtain ⟨A, c, rfl, h1, h2⟩ := h.form
  clear h
  go_enter Tryz.func259, Tryz.ntmps259
  go_upto_region 1 with (fail)
  obtain ⟨W, B, hW, hB, hBl, hx0, b0⟩ : ∃ W B, W = w.alloc (.cells #[.int .i64 x.from_, .int .i64 x.to_] 63) ∧ B = w.heap.size ∧ w.heap.size ≤ B ∧ Ext w W ∧ Blk W B 63 #[.int .i64 x.from_, .int .i64 x.to_] := ⟨_, _, rfl, rfl, Nat.le_refl _, (Ext.refl w).alloc _, Blk.new _ _ _⟩
  rw [← hW, ← hB]
  have B0 := Lib.hid b0
  have X0 := Lib.hid hx0
  clear hW hB hx0 b0 hBl
  have b0' : W.cell? ⟨B, 0, none⟩ = some (.int .i64 x.from_) := B0.out.cell 0
  have b1' : W.cell? ⟨B, 1, none⟩ = some (.int .i64 x.to_) := B0.out.cell 1
  go_wp2_with (first | (go_at_call 231; (with_reducible refine (spansRight_any (S := S) l _ _ (HR.out.ext X0.out)).mono ?_); rintro e w1 ⟨rfl, hx1⟩; have X1 := Lib.hid (X0.out.trans hx1); have B1 := Lib.hid (B0.out.ext hx1); clear hx1 b0' b1'; have b0' : w1.cell? ⟨B, 0, none⟩ = some (.int .i64 x.from_) := B1.out.cell 0; have b1' : w1.cell? ⟨B, 1, none⟩ = some (.int .i64 x.to_) := B1.out.cell 1) | (go_at_call 182; (with_reducible refine (spanRight_any x _).mono ?_); rintro e w2 ⟨rfl, hx2⟩; have X2 := Lib.hid (X1.out.trans hx2); have B2 := Lib.hid (B1.out.ext hx2); clear hx2 b0' b1'; have b0' : w2.cell? ⟨B, 0, none⟩ = some (.int .i64 x.from_) := B2.out.cell 0; have b1' : w2.cell? ⟨B, 1, none⟩ = some (.int .i64 x.to_) := B2.out.cell 1) | (go_at_call 183; (with_reducible refine (isFree_any (S := S) l x _ _ (HR.out.ext X2.out)).mono ?_); rintro e w3 ⟨rfl, hx3⟩; have X3 := Lib.hid (X2.out.trans hx3); clear hx3))
  all_goals (go_ret; exact ⟨ret_bool (by simp_all), by first | exact X3.out | exact X2.out | exact X1.out⟩)
set_option maxHeartbeats 8000000 in
set_option maxRecDepth 100000 in
theorem spanPut_any {S : Nat → Prop} (l : List Span) (x : Span) (v : Value) (w : World) (h : Rd ESpan S w v l) (hl : l.length < 20) (hs : spansRight l = true) (hxr : spanRight x = true) (hfr : freeOf l x = true) (hf : FitSpan x) :
    Calls Tryz.prog 184 #[v, .agg #[.int .i64 x.from_, .int .i64 x.to_]] w (RetO OSpan 63 (spanIns l x) w) := by
  have HR := Lib.hid h
  obtain ⟨A, c, rfl, h1, h2⟩ := h.form
  unfold maxLen at h2
  have HF := Lib.hid hf
  have HP := Lib.hid (insAt_le l x)
  have HS := Lib.hid hs
  have HX := Lib.hid hxr
  have HFr := Lib.hid hfr
  clear h hf
  go_enter Tryz.func184, Tryz.ntmps184
  go_upto_region 1 with (fail)
  obtain ⟨W, B, hW, hB, hBl, hx0, b0⟩ : ∃ W B, W = w.alloc (.cells #[.int .i64 x.from_, .int .i64 x.to_] 63) ∧ B = w.heap.size ∧ w.heap.size ≤ B ∧ Ext w W ∧ Blk W B 63 #[.int .i64 x.from_, .int .i64 x.to_] := ⟨_, _, rfl, rfl, Nat.le_refl _, (Ext.refl w).alloc _, Blk.new _ _ _⟩
  rw [← hW, ← hB]
  have B0 := Lib.hid b0
  have X0 := Lib.hid hx0
  clear hW hB hx0 b0 hBl
  have b0' : W.cell? ⟨B, 0, none⟩ = some (.int .i64 x.from_) := B0.out.cell 0
  have b1' : W.cell? ⟨B, 1, none⟩ = some (.int .i64 x.to_) := B0.out.cell 1
  go_upto_region 4 with (go_at_call 248; (with_reducible refine (cloneSpan_any (S := S) l _ _ (HR.out.ext X0.out) (by omega)).mono ?_); rintro e w1 ⟨v1, F1, rfl, o1, f1, hx1⟩; obtain ⟨A1, c1, rfl, -⟩ := o1.form; have O1 := Lib.hid o1; have F1h := Lib.hid f1; have X1 := Lib.hid (X0.out.trans hx1); have B1 := Lib.hid (B0.out.ext hx1); clear o1 f1 hx1 b0' b1'; have b0' : w1.cell? ⟨B, 0, none⟩ = some (.int .i64 x.from_) := B1.out.cell 0; have b1' : w1.cell? ⟨B, 1, none⟩ = some (.int .i64 x.to_) := B1.out.cell 1)
  have hq : (spansRight l && spanRight x && freeOf l x) = true := by rw [hs, hxr, hfr]; rfl
  have HQ := Lib.hid hq
  clear hs hxr hfr hq
  have hn20 : ¬ (l.length : Int) = 20 := by omega
  go_upto_region 6 with (go_at_call 259; (with_reducible refine (IsFree_any (S := S) l x _ _ (HR.out.ext X1.out)).mono ?_); rintro e w2 ⟨rfl, hx2⟩; rw [HQ.out]; have X2 := Lib.hid (X1.out.trans hx2); have X12 := Lib.hid hx2; have B2 := Lib.hid (B1.out.ext hx2); have O2 := Lib.hid (O1.out.ext hx2); clear hx2 b0' b1'; have b0' : w2.cell? ⟨B, 0, none⟩ = some (.int .i64 x.from_) := B2.out.cell 0; have b1' : w2.cell? ⟨B, 1, none⟩ = some (.int .i64 x.to_) := B2.out.cell 1)
  go_wp2_with fail
  obtain ⟨A2, c2, hv2, n1, n2, hk⟩ := (O2.out.rd).span
  injection hv2 with e1 e2 e3
  subst e1 e3
  clear e2
  unfold maxLen at n2
  have HK := Lib.hid hk
  clear hk
  go_loopw [6] (fun i w' => ∃ k : Nat, k ≤ insAt l x ∧ i = .int .i64 k ∧ Ext w2 w') (fun i _ => l.length - (intOf i).toNat)
  case atStart => exact ⟨0, by omega, rfl, Ext.refl _⟩
  case round =>
    obtain ⟨k, hk1, rfl, hx⟩ := hrel
    have HXr := Lib.hid hx
    have hi0 : (0 : Int) ≤ (k : Int) := Int.natCast_nonneg _
    have b0' : wr.cell? ⟨B, 0, none⟩ = some (.int .i64 x.from_) := Ext.some hx b0'
    have b1' : wr.cell? ⟨B, 1, none⟩ = some (.int .i64 x.to_) := Ext.some hx b1'
    have hle := HP.out
    by_cases hlt : k < insAt l x
    · obtain ⟨b, o, rfl, hb, c0, c1⟩ := HK.out k (by omega)
      have c0' := Ext.some hx c0
      have c1' := Ext.some hx c1
      have q1 := insAt_low l x k hlt
      clear c0 c1 hb hx
      have hi : (k : Int) < (l.length : Int) := by omega
      go_wp2_with fail
      go_quiet (fail)
      generalize hV : wr.drewN _ = V
      have XV := Lib.hid (quiet_ext hV HXr.out)
      clear hV
      go_wp2_with fail
      go_roundw
      case rel => exact ⟨k + 1, by omega, by go_num, XV.out⟩
      case measure => simp [intOf]; omega
    · obtain rfl : k = insAt l x := by omega
      generalize hp : insAt l x = p at *
      have HPL := Lib.hid hp
      by_cases hpl : p < l.length
      · obtain ⟨b, o, rfl, hb, c0, c1⟩ := HK.out p hpl
        have c0' := Ext.some hx c0
        have c1' := Ext.some hx c1
        have q1 : decide ((nth l p).from_ < x.from_) = false := by have := insAt_at l x (by rw [hp]; exact hpl); rw [hp] at this; simpa using this
        clear c0 c1 hb hx hp hlt hk1
        have hi : (p : Int) < (l.length : Int) := by omega
        go_wp2_with fail
        go_quiet (fail)
        generalize hV : wr.drewN _ = V
        have XV := Lib.hid (quiet_ext hV HXr.out)
        have b0' : V.cell? ⟨B, 0, none⟩ = some (.int .i64 x.from_) := Ext.some (quiet_ext hV (Ext.refl _)) b0'
        have b1' : V.cell? ⟨B, 1, none⟩ = some (.int .i64 x.to_) := Ext.some (quiet_ext hV (Ext.refl _)) b1'
        clear hV c0' c1'
        have HOV := Lib.hid (O2.out.ext XV.out)
        have XW := Lib.hid (X2.out.trans XV.out)
        have HI : Hid (∀ (V2 : World) (Bx : Nat), Ext V V2 → Blk V2 Bx 63 #[.int .i64 x.from_, .int .i64 x.to_] → V.heap.size ≤ Bx → Calls Tryz.prog 260 #[.slice (some ⟨b, o, none⟩) l.length c1, .int .i64 p, .slice (some ⟨Bx, 0, none⟩) 1 1] V2 (RetIns (l.take p ++ x :: l.drop p) F1 V2)) := Lib.hid (fun V2 Bx hV2 hb2 hge => by have h0 := insert_Span (l.take p) (l.drop p) x (.slice (some ⟨b, o, none⟩) l.length c1) F1 V2 Bx (by rw [List.take_append_drop]; exact HOV.out.ext hV2) (by rw [List.take_append_drop]; omega) hb2 HF.out (fun hm => by have := HOV.out.lt _ hm; omega); rw [show (l.take p).length = p by rw [List.length_take]; omega] at h0; exact h0)
        have XA := Lib.hid ((Ext.refl V).alloc (.cells #[.int .i64 x.from_, .int .i64 x.to_] 63))
        go_wp2_with (go_at_call 260; (with_reducible refine (HI.out _ V.heap.size XA.out (Blk.new _ _ _) (Nat.le_refl _)).mono ?_); rintro e w5 ⟨v5, F5, rfl, o5, k5, f5⟩; have O5 := Lib.hid o5; have K5 := Lib.hid k5; have F5h := Lib.hid f5; clear o5 k5 f5)
        go_ret
        exact ⟨_, F5, rfl, by rw [spanIns, HPL.out]; exact O5.out, fun b hb => by rcases F5h.out b hb with h | h; exact Nat.le_trans X0.out.size (F1h.out b h); exact Nat.le_trans (XW.out.trans XA.out).size h, K5.out.ext (XW.out.trans XA.out) (fun b hb => Nat.le_trans X0.out.size (F1h.out b hb))⟩
      · have hpe : p = l.length := by omega
        subst hpe
        clear hp hlt hk1 hx hpl
        go_wp2_with fail
        go_quiet (fail)
        generalize hV : wr.drewN _ = V
        have XV := Lib.hid (quiet_ext hV HXr.out)
        have b0' : V.cell? ⟨B, 0, none⟩ = some (.int .i64 x.from_) := Ext.some (quiet_ext hV (Ext.refl _)) b0'
        have b1' : V.cell? ⟨B, 1, none⟩ = some (.int .i64 x.to_) := Ext.some (quiet_ext hV (Ext.refl _)) b1'
        clear hV
        have HOV := Lib.hid (O2.out.ext XV.out)
        have XW := Lib.hid (X2.out.trans XV.out)
        have HI : Hid (∀ (V2 : World) (Bx : Nat), Ext V V2 → Blk V2 Bx 63 #[.int .i64 x.from_, .int .i64 x.to_] → V.heap.size ≤ Bx → Calls Tryz.prog 260 #[.slice A1 l.length c1, .int .i64 l.length, .slice (some ⟨Bx, 0, none⟩) 1 1] V2 (RetIns (l.take l.length ++ x :: l.drop l.length) F1 V2)) := Lib.hid (fun V2 Bx hV2 hb2 hge => by have h0 := insert_Span (l.take l.length) (l.drop l.length) x (.slice A1 l.length c1) F1 V2 Bx (by rw [List.take_append_drop]; exact HOV.out.ext hV2) (by rw [List.take_append_drop]; omega) hb2 HF.out (fun hm => by have := HOV.out.lt _ hm; omega); rw [show (l.take l.length).length = l.length by rw [List.length_take]; omega] at h0; exact h0)
        have XA := Lib.hid ((Ext.refl V).alloc (.cells #[.int .i64 x.from_, .int .i64 x.to_] 63))
        go_wp2_with (go_at_call 260; (with_reducible refine (HI.out _ V.heap.size XA.out (Blk.new _ _ _) (Nat.le_refl _)).mono ?_); rintro e w5 ⟨v5, F5, rfl, o5, k5, f5⟩; have O5 := Lib.hid o5; have K5 := Lib.hid k5; have F5h := Lib.hid f5; clear o5 k5 f5)
        go_ret
        exact ⟨_, F5, rfl, by rw [spanIns, HPL.out]; exact O5.out, fun b hb => by rcases F5h.out b hb with h | h; exact Nat.le_trans X0.out.size (F1h.out b h); exact Nat.le_trans (XW.out.trans XA.out).size h, K5.out.ext (XW.out.trans XA.out) (fun b hb => Nat.le_trans X0.out.size (F1h.out b hb))⟩
end Go.Proofs.YtngldifgcgblpaaGreat
namespace Go.Proofs.YtngldifgcgblpaaGreat
open Go.RowKit
attribute [local irreducible] wpQuiet
def bookPut (l : List Node) (n : Int) (x : Span) (now : Int) : NodesOut :=
  if 400 < l.length then ⟨[], 2⟩
  else if (nodesRight l && spanRight x && nowOk now) = false then ⟨[], 1⟩
  else if isNode l n = false then ⟨[], 6⟩
  else if (decide (x.from_ ≤ now) || decide (now + 40 < x.to_)) = true then ⟨[], 8⟩
  else if freeOf (nth l n.toNat).books x = false then ⟨[], 7⟩
  else if (nth l n.toNat).books.length = 4 then ⟨[], 9⟩
  else ⟨l.set n.toNat { nth l n.toNat with books := spanIns (nth l n.toNat).books x }, 0⟩
set_option maxHeartbeats 8000000 in
set_option maxRecDepth 100000 in
theorem bookPut_any {S : Nat → Prop} (l : List Node) (n : Int) (x : Span) (now : Int) (v : Value) (w : World) (h : Rd ENode S w v l) (hf : FitSpan x) :
    Calls Tryz.prog 95 #[v, .int .i64 n, .agg #[.int .i64 x.from_, .int .i64 x.to_], .int .i64 now] w (RetOS ONodesOut (bookPut l n x now) w) := by
  have HR := Lib.hid h
  obtain ⟨A, c, rfl, h1, h2, hk⟩ := h.open_
  unfold maxLen at h2
  have HK := Lib.hid hk
  have HF := Lib.hid hf
  clear h hk hf
  go_enter Tryz.func95, Tryz.ntmps95
  go_upto_region 1 with (fail)
  obtain ⟨W, R, hW, hB, hRP, hx0, p0, b0⟩ : ∃ W R, W = (w.alloc (.cells #[.int .i64 x.from_, .int .i64 x.to_] 63)).alloc (.cells #[.slice none 0 0, .int .i64 0] 114) ∧ w.heap.size + 1 = R ∧ w.heap.size < R ∧ Ext w W ∧ Blk W w.heap.size 63 #[.int .i64 x.from_, .int .i64 x.to_] ∧ Blk W R 114 #[.slice none 0 0, .int .i64 0] := ⟨_, _, rfl, rfl, Nat.lt_succ_self _, (((Ext.refl w).alloc _).alloc _), (Blk.new w _ _).ext ((Ext.refl _).alloc _), by have h := Blk.new (w.alloc (.cells #[.int .i64 x.from_, .int .i64 x.to_] 63)) 114 #[.slice none 0 0, .int .i64 0]; simpa using h⟩
  rw [← hW]
  try rw [hB]
  have HRB : Hid (w.heap.size ≤ R) := Lib.hid (by omega)
  have HRP : Hid (w.heap.size < R) := Lib.hid hRP
  have R0 := Lib.hid b0
  have P0 := Lib.hid p0
  have X0 := Lib.hid hx0
  clear hW hB hRP hx0 b0 p0
  have p0 : W.cell? ⟨w.heap.size, 0, none⟩ = some (.int .i64 x.from_) := P0.out.cell 0; have p1 : W.cell? ⟨w.heap.size, 1, none⟩ = some (.int .i64 x.to_) := P0.out.cell 1
  by_cases hl : 400 < l.length
  · have HE : Hid (bookPut l n x now = ⟨[], 2⟩) := Lib.hid (by rw [bookPut, if_pos hl])
    go_wp2_with (first | (refine wpList_store_mid rfl 114 _ _ rfl R 0 #[.slice none 0 0, .int .i64 2] rfl rfl (Blk.there (t := 114) (cs := #[.slice none 0 0, .int .i64 0]) R0.out) (by kernel_rfl) (all_oneCell_toArray (cs := [.slice none 0 0, .int .i64 2]) (by simp [Value.oneCell'])) ?_))
    exact bodyPost_ret (v := .agg #[.slice none 0 0, .int .i64 2]) (results_blk Tryz.results95 rfl (Blk.setAll (t := 114) (cs := #[.slice none 0 0, .int .i64 0]) (vs := #[.slice none 0 0, .int .i64 2]) R0.out rfl) Tryz.underlying114 rfl (by kernel_rfl)) rfl ⟨_, [], rfl, ⟨.slice none 0 0, by rw [HE.out]; rfl, by rw [HE.out]; simp [FitNodesOut, I64], by rw [HE.out]; exact OwS.nil _⟩, fun b hb => absurd hb (by simp), setCells_ext HRB.out _ _ _ X0.out⟩
  have hl2 : l.length ≤ 400 := by omega
  cases ht : nodesRight l with
  | false =>
    have HE : Hid (bookPut l n x now = ⟨[], 1⟩) := Lib.hid (by rw [bookPut, if_neg hl, if_pos (by simp [ht])])
    clear hl
    go_wp2_with (first | (go_at_call 145; (with_reducible refine (nodesRight_any (S := S) l _ _ (HR.out.ext X0.out)).mono ?_); rintro e w1 ⟨rfl, hx1⟩; have X1 := Lib.hid (X0.out.trans hx1); have R1 := Lib.hid (R0.out.ext hx1); have P1 := Lib.hid (P0.out.ext hx1); clear hx1 p0 p1; have p0 : w1.cell? ⟨w.heap.size, 0, none⟩ = some (.int .i64 x.from_) := P1.out.cell 0; have p1 : w1.cell? ⟨w.heap.size, 1, none⟩ = some (.int .i64 x.to_) := P1.out.cell 1) | (refine wpList_store_mid rfl 114 _ _ rfl R 0 #[.slice none 0 0, .int .i64 1] rfl rfl (Blk.there (t := 114) (cs := #[.slice none 0 0, .int .i64 0]) R1.out) (by kernel_rfl) (all_oneCell_toArray (cs := [.slice none 0 0, .int .i64 1]) (by simp [Value.oneCell'])) ?_))
    exact bodyPost_ret (v := .agg #[.slice none 0 0, .int .i64 1]) (results_blk Tryz.results95 rfl (Blk.setAll (t := 114) (cs := #[.slice none 0 0, .int .i64 0]) (vs := #[.slice none 0 0, .int .i64 1]) R1.out rfl) Tryz.underlying114 rfl (by kernel_rfl)) rfl ⟨_, [], rfl, ⟨.slice none 0 0, by rw [HE.out]; rfl, by rw [HE.out]; simp [FitNodesOut, I64], by rw [HE.out]; exact OwS.nil _⟩, fun b hb => absurd hb (by simp), setCells_ext HRB.out _ _ _ X1.out⟩
  | true =>
  cases hs : spanRight x with
  | false =>
    have HE : Hid (bookPut l n x now = ⟨[], 1⟩) := Lib.hid (by rw [bookPut, if_neg hl, if_pos (by simp [ht, hs])])
    clear hl
    go_wp2_with (first | (go_at_call 145; (with_reducible refine (nodesRight_any (S := S) l _ _ (HR.out.ext X0.out)).mono ?_); rintro e w1 ⟨rfl, hx1⟩; have X1 := Lib.hid (X0.out.trans hx1); have R1 := Lib.hid (R0.out.ext hx1); have P1 := Lib.hid (P0.out.ext hx1); clear hx1 p0 p1; have p0 : w1.cell? ⟨w.heap.size, 0, none⟩ = some (.int .i64 x.from_) := P1.out.cell 0; have p1 : w1.cell? ⟨w.heap.size, 1, none⟩ = some (.int .i64 x.to_) := P1.out.cell 1) | (go_at_call 182; (with_reducible refine (spanRight_any x _).mono ?_); rintro e w2 ⟨rfl, hx2⟩; have X2 := Lib.hid (X1.out.trans hx2); have R2 := Lib.hid (R1.out.ext hx2); have P2 := Lib.hid (P1.out.ext hx2); clear hx2 p0 p1; have p0 : w2.cell? ⟨w.heap.size, 0, none⟩ = some (.int .i64 x.from_) := P2.out.cell 0; have p1 : w2.cell? ⟨w.heap.size, 1, none⟩ = some (.int .i64 x.to_) := P2.out.cell 1) | (refine wpList_store_mid rfl 114 _ _ rfl R 0 #[.slice none 0 0, .int .i64 1] rfl rfl (Blk.there (t := 114) (cs := #[.slice none 0 0, .int .i64 0]) R2.out) (by kernel_rfl) (all_oneCell_toArray (cs := [.slice none 0 0, .int .i64 1]) (by simp [Value.oneCell'])) ?_))
    exact bodyPost_ret (v := .agg #[.slice none 0 0, .int .i64 1]) (results_blk Tryz.results95 rfl (Blk.setAll (t := 114) (cs := #[.slice none 0 0, .int .i64 0]) (vs := #[.slice none 0 0, .int .i64 1]) R2.out rfl) Tryz.underlying114 rfl (by kernel_rfl)) rfl ⟨_, [], rfl, ⟨.slice none 0 0, by rw [HE.out]; rfl, by rw [HE.out]; simp [FitNodesOut, I64], by rw [HE.out]; exact OwS.nil _⟩, fun b hb => absurd hb (by simp), setCells_ext HRB.out _ _ _ X2.out⟩
  | true =>
  cases ho : nowOk now with
  | false =>
    have HE : Hid (bookPut l n x now = ⟨[], 1⟩) := Lib.hid (by rw [bookPut, if_neg hl, if_pos (by simp [ht, hs, ho])])
    clear hl
    go_wp2_with (first | (go_at_call 145; (with_reducible refine (nodesRight_any (S := S) l _ _ (HR.out.ext X0.out)).mono ?_); rintro e w1 ⟨rfl, hx1⟩; have X1 := Lib.hid (X0.out.trans hx1); have R1 := Lib.hid (R0.out.ext hx1); have P1 := Lib.hid (P0.out.ext hx1); clear hx1 p0 p1; have p0 : w1.cell? ⟨w.heap.size, 0, none⟩ = some (.int .i64 x.from_) := P1.out.cell 0; have p1 : w1.cell? ⟨w.heap.size, 1, none⟩ = some (.int .i64 x.to_) := P1.out.cell 1) | (go_at_call 182; (with_reducible refine (spanRight_any x _).mono ?_); rintro e w2 ⟨rfl, hx2⟩; have X2 := Lib.hid (X1.out.trans hx2); have R2 := Lib.hid (R1.out.ext hx2); have P2 := Lib.hid (P1.out.ext hx2); clear hx2 p0 p1; have p0 : w2.cell? ⟨w.heap.size, 0, none⟩ = some (.int .i64 x.from_) := P2.out.cell 0; have p1 : w2.cell? ⟨w.heap.size, 1, none⟩ = some (.int .i64 x.to_) := P2.out.cell 1) | (go_at_call 148; refine (isNow_any _ _).mono ?_; rintro e w' ⟨rfl, rfl⟩) | (refine wpList_store_mid rfl 114 _ _ rfl R 0 #[.slice none 0 0, .int .i64 1] rfl rfl (Blk.there (t := 114) (cs := #[.slice none 0 0, .int .i64 0]) R2.out) (by kernel_rfl) (all_oneCell_toArray (cs := [.slice none 0 0, .int .i64 1]) (by simp [Value.oneCell'])) ?_))
    exact bodyPost_ret (v := .agg #[.slice none 0 0, .int .i64 1]) (results_blk Tryz.results95 rfl (Blk.setAll (t := 114) (cs := #[.slice none 0 0, .int .i64 0]) (vs := #[.slice none 0 0, .int .i64 1]) R2.out rfl) Tryz.underlying114 rfl (by kernel_rfl)) rfl ⟨_, [], rfl, ⟨.slice none 0 0, by rw [HE.out]; rfl, by rw [HE.out]; simp [FitNodesOut, I64], by rw [HE.out]; exact OwS.nil _⟩, fun b hb => absurd hb (by simp), setCells_ext HRB.out _ _ _ X2.out⟩
  | true =>
  have hb1 : ¬ (nodesRight l && spanRight x && nowOk now) = false := by simp [ht, hs, ho]
  have hno := isB_true ho
  cases hn : isNode l n with
  | false =>
    have HE : Hid (bookPut l n x now = ⟨[], 6⟩) := Lib.hid (by rw [bookPut, if_neg hl, if_neg hb1, if_pos hn])
    clear hl
    go_wp2_with (first | (go_at_call 145; (with_reducible refine (nodesRight_any (S := S) l _ _ (HR.out.ext X0.out)).mono ?_); rintro e w1 ⟨rfl, hx1⟩; have X1 := Lib.hid (X0.out.trans hx1); have R1 := Lib.hid (R0.out.ext hx1); have P1 := Lib.hid (P0.out.ext hx1); clear hx1 p0 p1; have p0 : w1.cell? ⟨w.heap.size, 0, none⟩ = some (.int .i64 x.from_) := P1.out.cell 0; have p1 : w1.cell? ⟨w.heap.size, 1, none⟩ = some (.int .i64 x.to_) := P1.out.cell 1) | (go_at_call 182; (with_reducible refine (spanRight_any x _).mono ?_); rintro e w2 ⟨rfl, hx2⟩; have X2 := Lib.hid (X1.out.trans hx2); have R2 := Lib.hid (R1.out.ext hx2); have P2 := Lib.hid (P1.out.ext hx2); clear hx2 p0 p1; have p0 : w2.cell? ⟨w.heap.size, 0, none⟩ = some (.int .i64 x.from_) := P2.out.cell 0; have p1 : w2.cell? ⟨w.heap.size, 1, none⟩ = some (.int .i64 x.to_) := P2.out.cell 1) | (go_at_call 148; refine (isNow_any _ _).mono ?_; rintro e w' ⟨rfl, rfl⟩) | (go_at_call 172; refine (isNodeOf_any l n _ _ _ hl2).mono ?_; rintro e w' ⟨rfl, rfl⟩) | (refine wpList_store_mid rfl 114 _ _ rfl R 0 #[.slice none 0 0, .int .i64 6] rfl rfl (Blk.there (t := 114) (cs := #[.slice none 0 0, .int .i64 0]) R2.out) (by kernel_rfl) (all_oneCell_toArray (cs := [.slice none 0 0, .int .i64 6]) (by simp [Value.oneCell'])) ?_))
    exact bodyPost_ret (v := .agg #[.slice none 0 0, .int .i64 6]) (results_blk Tryz.results95 rfl (Blk.setAll (t := 114) (cs := #[.slice none 0 0, .int .i64 0]) (vs := #[.slice none 0 0, .int .i64 6]) R2.out rfl) Tryz.underlying114 rfl (by kernel_rfl)) rfl ⟨_, [], rfl, ⟨.slice none 0 0, by rw [HE.out]; rfl, by rw [HE.out]; simp [FitNodesOut, I64], by rw [HE.out]; exact OwS.nil _⟩, fun b hb => absurd hb (by simp), setCells_ext HRB.out _ _ _ X2.out⟩
  | true =>
  obtain ⟨d, rfl, hd⟩ := isNode_nat hn
  have hw40 : IntKind.i64.wrap (now + 40) = now + 40 := IntWalk.i64_in _ (by omega)
  by_cases hr1 : x.from_ ≤ now
  · have HE : Hid (bookPut l (d : Int) x now = ⟨[], 8⟩) := Lib.hid (by rw [bookPut, if_neg hl, if_neg hb1, if_neg (by simp [hn]), if_pos (by simp [hr1])])
    clear hl hb1
    go_wp2_with (first | (go_at_call 145; (with_reducible refine (nodesRight_any (S := S) l _ _ (HR.out.ext X0.out)).mono ?_); rintro e w1 ⟨rfl, hx1⟩; have X1 := Lib.hid (X0.out.trans hx1); have R1 := Lib.hid (R0.out.ext hx1); have P1 := Lib.hid (P0.out.ext hx1); clear hx1 p0 p1; have p0 : w1.cell? ⟨w.heap.size, 0, none⟩ = some (.int .i64 x.from_) := P1.out.cell 0; have p1 : w1.cell? ⟨w.heap.size, 1, none⟩ = some (.int .i64 x.to_) := P1.out.cell 1) | (go_at_call 182; (with_reducible refine (spanRight_any x _).mono ?_); rintro e w2 ⟨rfl, hx2⟩; have X2 := Lib.hid (X1.out.trans hx2); have R2 := Lib.hid (R1.out.ext hx2); have P2 := Lib.hid (P1.out.ext hx2); clear hx2 p0 p1; have p0 : w2.cell? ⟨w.heap.size, 0, none⟩ = some (.int .i64 x.from_) := P2.out.cell 0; have p1 : w2.cell? ⟨w.heap.size, 1, none⟩ = some (.int .i64 x.to_) := P2.out.cell 1) | (go_at_call 148; refine (isNow_any _ _).mono ?_; rintro e w' ⟨rfl, rfl⟩) | (go_at_call 172; refine (isNodeOf_any l (d : Int) _ _ _ hl2).mono ?_; rintro e w' ⟨rfl, rfl⟩) | (refine wpList_store_mid rfl 114 _ _ rfl R 0 #[.slice none 0 0, .int .i64 8] rfl rfl (Blk.there (t := 114) (cs := #[.slice none 0 0, .int .i64 0]) R2.out) (by kernel_rfl) (all_oneCell_toArray (cs := [.slice none 0 0, .int .i64 8]) (by simp [Value.oneCell'])) ?_))
    exact bodyPost_ret (v := .agg #[.slice none 0 0, .int .i64 8]) (results_blk Tryz.results95 rfl (Blk.setAll (t := 114) (cs := #[.slice none 0 0, .int .i64 0]) (vs := #[.slice none 0 0, .int .i64 8]) R2.out rfl) Tryz.underlying114 rfl (by kernel_rfl)) rfl ⟨_, [], rfl, ⟨.slice none 0 0, by rw [HE.out]; rfl, by rw [HE.out]; simp [FitNodesOut, I64], by rw [HE.out]; exact OwS.nil _⟩, fun b hb => absurd hb (by simp), setCells_ext HRB.out _ _ _ X2.out⟩
  by_cases hr2 : now + 40 < x.to_
  · have HE : Hid (bookPut l (d : Int) x now = ⟨[], 8⟩) := Lib.hid (by rw [bookPut, if_neg hl, if_neg hb1, if_neg (by simp [hn]), if_pos (by simp [hr2])])
    clear hl hb1
    go_wp2_with (first | (go_at_call 145; (with_reducible refine (nodesRight_any (S := S) l _ _ (HR.out.ext X0.out)).mono ?_); rintro e w1 ⟨rfl, hx1⟩; have X1 := Lib.hid (X0.out.trans hx1); have R1 := Lib.hid (R0.out.ext hx1); have P1 := Lib.hid (P0.out.ext hx1); clear hx1 p0 p1; have p0 : w1.cell? ⟨w.heap.size, 0, none⟩ = some (.int .i64 x.from_) := P1.out.cell 0; have p1 : w1.cell? ⟨w.heap.size, 1, none⟩ = some (.int .i64 x.to_) := P1.out.cell 1) | (go_at_call 182; (with_reducible refine (spanRight_any x _).mono ?_); rintro e w2 ⟨rfl, hx2⟩; have X2 := Lib.hid (X1.out.trans hx2); have R2 := Lib.hid (R1.out.ext hx2); have P2 := Lib.hid (P1.out.ext hx2); clear hx2 p0 p1; have p0 : w2.cell? ⟨w.heap.size, 0, none⟩ = some (.int .i64 x.from_) := P2.out.cell 0; have p1 : w2.cell? ⟨w.heap.size, 1, none⟩ = some (.int .i64 x.to_) := P2.out.cell 1) | (go_at_call 148; refine (isNow_any _ _).mono ?_; rintro e w' ⟨rfl, rfl⟩) | (go_at_call 172; refine (isNodeOf_any l (d : Int) _ _ _ hl2).mono ?_; rintro e w' ⟨rfl, rfl⟩) | (refine wpList_store_mid rfl 114 _ _ rfl R 0 #[.slice none 0 0, .int .i64 8] rfl rfl (Blk.there (t := 114) (cs := #[.slice none 0 0, .int .i64 0]) R2.out) (by kernel_rfl) (all_oneCell_toArray (cs := [.slice none 0 0, .int .i64 8]) (by simp [Value.oneCell'])) ?_))
    exact bodyPost_ret (v := .agg #[.slice none 0 0, .int .i64 8]) (results_blk Tryz.results95 rfl (Blk.setAll (t := 114) (cs := #[.slice none 0 0, .int .i64 0]) (vs := #[.slice none 0 0, .int .i64 8]) R2.out rfl) Tryz.underlying114 rfl (by kernel_rfl)) rfl ⟨_, [], rfl, ⟨.slice none 0 0, by rw [HE.out]; rfl, by rw [HE.out]; simp [FitNodesOut, I64], by rw [HE.out]; exact OwS.nil _⟩, fun b hb => absurd hb (by simp), setCells_ext HRB.out _ _ _ X2.out⟩
  have hb2 : ¬ (decide (x.from_ ≤ now) || decide (now + 40 < x.to_)) = true := by simp [hr1, hr2]
  obtain ⟨b, q, cs, rfl, _, ⟨v1, rfl, hfit, hrd⟩, hc⟩ := HK.out d hd
  obtain ⟨A1, d1, rfl, -⟩ := hrd.form
  have HRD := Lib.hid hrd
  have hd0 : (0 : Int) ≤ (d : Int) := Int.natCast_nonneg _
  have hdl : (d : Int) < (l.length : Int) := by omega
  have CE : Hid (∀ V, Ext w V → V.cell? ⟨b, q + d * 2 + 1, none⟩ = some (.slice A1 (nth l d).books.length d1)) := Lib.hid fun V hV => by have := Ext.some hV (hc 1 _ rfl); simpa [ENode] using this
  have HFit := Lib.hid hfit
  clear hc hrd hfit
  have HBk := Lib.hid (nodesRight_books ht hd)
  have HS : Hid (∀ k, k < l.length → (nth l k).books.length ≤ 1000000000) := Lib.hid fun k hk => by have := (nodesRight_books ht hk).1; omega
  have HSR := Lib.hid hs
  have HE0 : Hid (bookPut l (d : Int) x now = if freeOf (nth l d).books x = false then ⟨[], 7⟩ else if (nth l d).books.length = 4 then ⟨[], 9⟩ else ⟨l.set d { nth l d with books := spanIns (nth l d).books x }, 0⟩) := Lib.hid (by rw [bookPut, if_neg hl, if_neg hb1, if_neg (by simp [hn]), if_neg hb2, Int.toNat_natCast])
  clear hl hb1 hb2
  go_upto_region 9 with (first | (go_at_call 145; (with_reducible refine (nodesRight_any (S := S) l _ _ (HR.out.ext X0.out)).mono ?_); rintro e w1 ⟨rfl, hx1⟩; have X1 := Lib.hid (X0.out.trans hx1); have R1 := Lib.hid (R0.out.ext hx1); have P1 := Lib.hid (P0.out.ext hx1); clear hx1 p0 p1; have p0 : w1.cell? ⟨w.heap.size, 0, none⟩ = some (.int .i64 x.from_) := P1.out.cell 0; have p1 : w1.cell? ⟨w.heap.size, 1, none⟩ = some (.int .i64 x.to_) := P1.out.cell 1) | (go_at_call 182; (with_reducible refine (spanRight_any x _).mono ?_); rintro e w2 ⟨rfl, hx2⟩; have X2 := Lib.hid (X1.out.trans hx2); have R2 := Lib.hid (R1.out.ext hx2); have P2 := Lib.hid (P1.out.ext hx2); clear hx2 p0 p1; have p0 : w2.cell? ⟨w.heap.size, 0, none⟩ = some (.int .i64 x.from_) := P2.out.cell 0; have p1 : w2.cell? ⟨w.heap.size, 1, none⟩ = some (.int .i64 x.to_) := P2.out.cell 1) | (go_at_call 148; refine (isNow_any _ _).mono ?_; rintro e w' ⟨rfl, rfl⟩) | (go_at_call 172; refine (isNodeOf_any l (d : Int) _ _ _ hl2).mono ?_; rintro e w' ⟨rfl, rfl⟩))
  have ce := CE.out _ X2.out
  refine wp_region_ext (by kernel_rfl) (by kernel_rfl) ?_
  repeat (
    (refine wpQuiet_step (fun K hK => ?_)
     go_simp
     first
      | (refine hK _ ?_; clear hK K)
      | (apply Exists.intro
         refine ⟨fun w__ hx__ => ?_, hK _ ?_⟩
         · have ce__ := Ext.some hx__ ce; have p0__ := Ext.some hx__ p0; have p1__ := Ext.some hx__ p1; first | exact rfl | (go_simp; done) | (go_simp; exact rfl) | (go_at_call 183; exact ext_of hx__ (isFree_any (S := S) (nth l d).books x _ _ (HRD.out.ext (X2.out.trans hx__))))
         clear hK K)))
  refine wpQuiet_nil ?_
  intro w1 hx1
  have X3 := Lib.hid (X2.out.trans hx1)
  have R3 := Lib.hid (R2.out.ext hx1)
  have P3 := Lib.hid (P2.out.ext hx1)
  clear ce p0 p1
  have p0 : w1.cell? ⟨w.heap.size, 0, none⟩ = some (.int .i64 x.from_) := P3.out.cell 0; have p1 : w1.cell? ⟨w.heap.size, 1, none⟩ = some (.int .i64 x.to_) := P3.out.cell 1
  have ce := CE.out _ X3.out
  clear hx1
  cases hfr : freeOf (nth l d).books x with
  | false =>
    have HE : Hid (bookPut l (d : Int) x now = ⟨[], 7⟩) := Lib.hid (by rw [HE0.out, if_pos hfr])
    go_wp2_with (first | (refine wpList_store_mid rfl 114 _ _ rfl R 0 #[.slice none 0 0, .int .i64 7] rfl rfl (Blk.there (t := 114) (cs := #[.slice none 0 0, .int .i64 0]) R3.out) (by kernel_rfl) (all_oneCell_toArray (cs := [.slice none 0 0, .int .i64 7]) (by simp [Value.oneCell'])) ?_))
    exact bodyPost_ret (v := .agg #[.slice none 0 0, .int .i64 7]) (results_blk Tryz.results95 rfl (Blk.setAll (t := 114) (cs := #[.slice none 0 0, .int .i64 0]) (vs := #[.slice none 0 0, .int .i64 7]) R3.out rfl) Tryz.underlying114 rfl (by kernel_rfl)) rfl ⟨_, [], rfl, ⟨.slice none 0 0, by rw [HE.out]; rfl, by rw [HE.out]; simp [FitNodesOut, I64], by rw [HE.out]; exact OwS.nil _⟩, fun b hb => absurd hb (by simp), setCells_ext HRB.out _ _ _ X3.out⟩
  | true =>
  by_cases h4 : (nth l d).books.length = 4
  · have HE : Hid (bookPut l (d : Int) x now = ⟨[], 9⟩) := Lib.hid (by rw [HE0.out, if_neg (by simp [hfr]), if_pos h4])
    go_wp2_with (first | (refine wpList_store_mid rfl 114 _ _ rfl R 0 #[.slice none 0 0, .int .i64 9] rfl rfl (Blk.there (t := 114) (cs := #[.slice none 0 0, .int .i64 0]) R3.out) (by kernel_rfl) (all_oneCell_toArray (cs := [.slice none 0 0, .int .i64 9]) (by simp [Value.oneCell'])) ?_))
    exact bodyPost_ret (v := .agg #[.slice none 0 0, .int .i64 9]) (results_blk Tryz.results95 rfl (Blk.setAll (t := 114) (cs := #[.slice none 0 0, .int .i64 0]) (vs := #[.slice none 0 0, .int .i64 9]) R3.out rfl) Tryz.underlying114 rfl (by kernel_rfl)) rfl ⟨_, [], rfl, ⟨.slice none 0 0, by rw [HE.out]; rfl, by rw [HE.out]; simp [FitNodesOut, I64], by rw [HE.out]; exact OwS.nil _⟩, fun b hb => absurd hb (by simp), setCells_ext HRB.out _ _ _ X3.out⟩
  have HE : Hid (bookPut l (d : Int) x now = ⟨l.set d { nth l d with books := spanIns (nth l d).books x }, 0⟩) := Lib.hid (by rw [HE0.out, if_neg (by simp [hfr]), if_neg h4])
  have HFR := Lib.hid hfr
  have h44 : (nth l d).books.length < 4 := by have := HBk.out.1; omega
  have HL4 := Lib.hid h44
  clear hfr
  go_upto_region 14 with (go_at_call 158; (with_reducible refine (copyNodes_any (S := S) l _ _ (HR.out.ext X3.out) (by omega) HS.out).mono ?_); rintro e w4 ⟨v4, F4, rfl, o4, g4, hx4⟩)
  have HX4 := Lib.hid hx4
  have X4 := Lib.hid (X3.out.trans hx4)
  have R4 := Lib.hid (R3.out.ext hx4)
  have P4 := Lib.hid (P3.out.ext hx4)
  have G4 := Lib.hid g4
  have HRl := Lib.hid R3.out.lt
  have LF4 := Lib.hid o4.lt
  obtain ⟨B2, cc, G, cs2, hv2, hlc, hcm, hBF, hBG, hGF, ho2, hc2, hfz, hth, hrow, hset⟩ := o4.at2 (k := d) hd
  subst hv2
  obtain ⟨u1, rfl, hfit2, q1⟩ := ho2
  obtain ⟨p1_, k1, rfl, -⟩ := q1.form
  have e1 := hc2 1 _ rfl
  simp only [ENode] at e1
  have Q1 := Lib.hid q1
  have HC := Lib.hid hc2
  have HSET := Lib.hid hset
  have HROW := Lib.hid hrow
  have HBF := Lib.hid hBF
  have HBG := Lib.hid hBG
  have HGF := Lib.hid hGF
  have HBW := Lib.hid (blk_lt_of hrow)
  have HRB2 : Hid (R ≠ B2) := Lib.hid fun hb => by have a := G4.out _ hBF; have b := HRl.out; omega
  have hfz1 := hfz (d * 2 + 1)
  clear o4 g4 hx4 hset hrow hth hc2 q1 hBF hBG hGF hlc hcm hfz hfit2 ht ce p0 p1
  have p0 : w4.cell? ⟨w.heap.size, 0, none⟩ = some (.int .i64 x.from_) := P4.out.cell 0; have p1 : w4.cell? ⟨w.heap.size, 1, none⟩ = some (.int .i64 x.to_) := P4.out.cell 1
  have HXD : Hid (Ext w4 w4.drew) := Lib.hid (Ext.refl _).drew
  have HBW2 : Hid (w.heap.size ≤ B2) := Lib.hid (Nat.le_trans X3.out.size (G4.out _ HBF.out))
  have E1 := Lib.hid e1
  have HSR := Lib.hid hs
  go_region_law (first | (go_simp; go_at_call 184; (with_reducible refine (spanPut_any (S := fun b => b ∈ G) (nth l d).books x _ _ (Q1.out.rd.ext HXD.out) (by have := HL4.out; omega) HBk.out.2 HSR.out HFR.out HF.out).mono ?_); rintro e w5 ⟨v5, F5, rfl, o5, f5, hx5⟩; obtain ⟨A5, c5, rfl, -⟩ := o5.form; have O5 := Lib.hid o5; have F5h := Lib.hid f5; have XX5 := Lib.hid (HXD.out.trans hx5); have X5 := Lib.hid (X4.out.trans (HXD.out.trans hx5)); have e13 := Ext.some (HXD.out.trans hx5) E1.out; have f13 := (RowBut.kept HROW.out (Kept.of_ext (F := []) (HXD.out.trans hx5)) (by simp)).frozen (d * 2 + 1); clear o5 f5 hx5))
  all_goals
    have hB3 := RowBut.kept HROW.out (Kept.of_ext (F := []) XX5.out) (by simp)
    obtain ⟨W6, hW6⟩ : ∃ W6, W6 = w5.setCell ⟨B2, d * 2 + 1, none⟩ (.slice A5 (spanIns (nth l d).books x).length c5) := ⟨_, rfl⟩
    have HN : Hid (∃ F', OwS ONode 151 W6 (.slice (some ⟨B2, 0, none⟩) l.length cc) (l.set d { nth l d with books := spanIns (nth l d).books x }) F' ∧ ∀ b ∈ F', b ∈ F4 ∨ w4.heap.size ≤ b) := Lib.hid (by
      rw [hW6]
      refine HSET.out _ _ [.int .i64 (nth l d).state, .slice A5 (spanIns (nth l d).books x).length c5] F5 (Kept.setCell (Kept.of_ext XX5.out) (by simp) _) (RowBut.setCell hB3 (by simp [ENode]) (by simp [ENode]) _) ⟨_, rfl, HFit.out, O5.out.kept (G := [B2]) (Kept.setCell (Kept.refl _ _) (by simp) _) (fun b hb => by have a : w4.heap.size ≤ b := F5h.out b hb; have c := HBW.out; simp; omega)⟩ (fun b hb => .inr (F5h.out b hb)) ?_
      have hc3 : w5.rangeAt B2 (d * 2) ([.int .i64 (nth l d).state] ++ [.slice p1_ (nth l d).books.length k1]) := XX5.out.range HC.out
      exact range_back (a := [.int .i64 (nth l d).state]) hc3 (fun j hj => ⟨(by obtain rfl : j = 0 := (by simpa using hj); rw [show d * 2 + [Value.int IntKind.i64 (nth l d).state].length + 0 = d * 2 + 1 from rfl, hc3 1 _ rfl]; rfl), hB3.frozen _⟩))
    have X6 : Hid (Ext w W6) := Lib.hid (by rw [hW6]; exact X5.out.setCell HBW2.out _)
    have R6 : Hid (Blk W6 R 114 #[.slice none 0 0, .int .i64 0]) := Lib.hid (by rw [hW6]; exact Blk.far (R4.out.ext XX5.out) HRB2.out _)
    have HX3 := Lib.hid X3.out.size
    clear hB3 e13 f13 e1
    rw [← hW6]
    clear hW6
    obtain ⟨F6, o6, f6⟩ := HN.out
    have O6 := Lib.hid o6
    have G6 : Hid (∀ b ∈ F6, w1.heap.size ≤ b) := Lib.hid fun b hb => by rcases f6 b hb with h | h; exact G4.out b h; exact Nat.le_trans HX4.out.size h
    clear o6 f6
    go_wp2_with (refine wpList_store_mid rfl 114 _ _ rfl R 0 #[.slice (some ⟨B2, 0, none⟩) l.length cc, .int .i64 0] rfl rfl (Blk.there (t := 114) (cs := #[.slice none 0 0, .int .i64 0]) R6.out) (by kernel_rfl) (all_oneCell_toArray (cs := [.slice (some ⟨B2, 0, none⟩) l.length cc, .int .i64 0]) (by simp [Value.oneCell'])) ?_)
    exact bodyPost_ret (v := .agg #[.slice (some ⟨B2, 0, none⟩) l.length cc, .int .i64 0]) (results_blk Tryz.results95 rfl (Blk.setAll (t := 114) (cs := #[.slice none 0 0, .int .i64 0]) (vs := #[.slice (some ⟨B2, 0, none⟩) l.length cc, .int .i64 0]) R6.out rfl) Tryz.underlying114 rfl (by kernel_rfl)) rfl ⟨_, F6, rfl, ⟨.slice (some ⟨B2, 0, none⟩) l.length cc, by rw [HE.out]; rfl, by rw [HE.out]; simp [FitNodesOut, I64], by rw [HE.out]; exact O6.out.kept (G := [R]) (Kept.setCells (by simp) _ _ _ (Kept.refl _ _)) (fun b hb => by have := G6.out b hb; have := HRl.out; simp; omega)⟩, fun b hb => Nat.le_trans HX3.out (G6.out b hb), setCells_ext HRB.out _ _ _ X6.out⟩
set_option maxHeartbeats 8000000 in
set_option maxRecDepth 100000 in
theorem specBookPut_any {S : Nat → Prop} (l : List Node) (n : Int) (x : Span) (now : Int) (v : Value) (w : World) (h : Rd ENode S w v l) (hf : FitSpan x) :
    Calls Tryz.prog 93 #[v, .int .i64 n, .agg #[.int .i64 x.from_, .int .i64 x.to_], .int .i64 now] w (RetOS ONodesOut (bookPut l n x now) w) := by
  have HR := Lib.hid h
  obtain ⟨A, c, rfl, h1, h2, hk⟩ := h.open_
  unfold maxLen at h2
  have HK := Lib.hid hk
  have HF := Lib.hid hf
  clear h hk hf
  go_enter Tryz.func93, Tryz.ntmps93
  go_upto_region 1 with (fail)
  obtain ⟨W, R, hW, hB, hRP, hx0, p0, b0⟩ : ∃ W R, W = (w.alloc (.cells #[.int .i64 x.from_, .int .i64 x.to_] 63)).alloc (.cells #[.slice none 0 0, .int .i64 0] 114) ∧ w.heap.size + 1 = R ∧ w.heap.size < R ∧ Ext w W ∧ Blk W w.heap.size 63 #[.int .i64 x.from_, .int .i64 x.to_] ∧ Blk W R 114 #[.slice none 0 0, .int .i64 0] := ⟨_, _, rfl, rfl, Nat.lt_succ_self _, (((Ext.refl w).alloc _).alloc _), (Blk.new w _ _).ext ((Ext.refl _).alloc _), by have h := Blk.new (w.alloc (.cells #[.int .i64 x.from_, .int .i64 x.to_] 63)) 114 #[.slice none 0 0, .int .i64 0]; simpa using h⟩
  rw [← hW]
  try rw [hB]
  have HRB : Hid (w.heap.size ≤ R) := Lib.hid (by omega)
  have HRP : Hid (w.heap.size < R) := Lib.hid hRP
  have R0 := Lib.hid b0
  have P0 := Lib.hid p0
  have X0 := Lib.hid hx0
  clear hW hB hRP hx0 b0 p0
  have p0 : W.cell? ⟨w.heap.size, 0, none⟩ = some (.int .i64 x.from_) := P0.out.cell 0; have p1 : W.cell? ⟨w.heap.size, 1, none⟩ = some (.int .i64 x.to_) := P0.out.cell 1
  by_cases hl : 400 < l.length
  · have HE : Hid (bookPut l n x now = ⟨[], 2⟩) := Lib.hid (by rw [bookPut, if_pos hl])
    go_wp2_with (first | (go_at_call 167; refine (l10Ill_any _ _).mono ?_; rintro e wi ⟨rfl, hxi⟩; have XI := Lib.hid (X0.out.trans hxi); have RI := Lib.hid (R0.out.ext hxi); clear hxi) | (refine wpList_store_mid rfl 114 _ _ rfl R 0 #[.slice none 0 0, .int .i64 2] rfl rfl (Blk.there (t := 114) (cs := #[.slice none 0 0, .int .i64 0]) RI.out) (by kernel_rfl) (all_oneCell_toArray (cs := [.slice none 0 0, .int .i64 2]) (by simp [Value.oneCell'])) ?_))
    exact bodyPost_ret (v := .agg #[.slice none 0 0, .int .i64 2]) (results_blk Tryz.results93 rfl (Blk.setAll (t := 114) (cs := #[.slice none 0 0, .int .i64 0]) (vs := #[.slice none 0 0, .int .i64 2]) RI.out rfl) Tryz.underlying114 rfl (by kernel_rfl)) rfl ⟨_, [], rfl, ⟨.slice none 0 0, by rw [HE.out]; rfl, by rw [HE.out]; simp [FitNodesOut, I64], by rw [HE.out]; exact OwS.nil _⟩, fun b hb => absurd hb (by simp), setCells_ext HRB.out _ _ _ XI.out⟩
  have hl2 : l.length ≤ 400 := by omega
  cases ht : nodesRight l with
  | false =>
    have HE : Hid (bookPut l n x now = ⟨[], 1⟩) := Lib.hid (by rw [bookPut, if_neg hl, if_pos (by simp [ht])])
    clear hl
    go_wp2_with (first | (go_at_call 163; (with_reducible refine (specNodesRight_any (S := S) l _ _ (HR.out.ext X0.out)).mono ?_); rintro e w1 ⟨rfl, hx1⟩; have X1 := Lib.hid (X0.out.trans hx1); have R1 := Lib.hid (R0.out.ext hx1); have P1 := Lib.hid (P0.out.ext hx1); clear hx1 p0 p1; have p0 : w1.cell? ⟨w.heap.size, 0, none⟩ = some (.int .i64 x.from_) := P1.out.cell 0; have p1 : w1.cell? ⟨w.heap.size, 1, none⟩ = some (.int .i64 x.to_) := P1.out.cell 1) | (go_at_call 167; refine (l10Ill_any _ _).mono ?_; rintro e wi ⟨rfl, hxi⟩; have XI := Lib.hid (X1.out.trans hxi); have RI := Lib.hid (R1.out.ext hxi); clear hxi) | (refine wpList_store_mid rfl 114 _ _ rfl R 0 #[.slice none 0 0, .int .i64 1] rfl rfl (Blk.there (t := 114) (cs := #[.slice none 0 0, .int .i64 0]) RI.out) (by kernel_rfl) (all_oneCell_toArray (cs := [.slice none 0 0, .int .i64 1]) (by simp [Value.oneCell'])) ?_))
    exact bodyPost_ret (v := .agg #[.slice none 0 0, .int .i64 1]) (results_blk Tryz.results93 rfl (Blk.setAll (t := 114) (cs := #[.slice none 0 0, .int .i64 0]) (vs := #[.slice none 0 0, .int .i64 1]) RI.out rfl) Tryz.underlying114 rfl (by kernel_rfl)) rfl ⟨_, [], rfl, ⟨.slice none 0 0, by rw [HE.out]; rfl, by rw [HE.out]; simp [FitNodesOut, I64], by rw [HE.out]; exact OwS.nil _⟩, fun b hb => absurd hb (by simp), setCells_ext HRB.out _ _ _ XI.out⟩
  | true =>
  cases hs : spanRight x with
  | false =>
    have HE : Hid (bookPut l n x now = ⟨[], 1⟩) := Lib.hid (by rw [bookPut, if_neg hl, if_pos (by simp [ht, hs])])
    clear hl
    go_wp2_with (first | (go_at_call 163; (with_reducible refine (specNodesRight_any (S := S) l _ _ (HR.out.ext X0.out)).mono ?_); rintro e w1 ⟨rfl, hx1⟩; have X1 := Lib.hid (X0.out.trans hx1); have R1 := Lib.hid (R0.out.ext hx1); have P1 := Lib.hid (P0.out.ext hx1); clear hx1 p0 p1; have p0 : w1.cell? ⟨w.heap.size, 0, none⟩ = some (.int .i64 x.from_) := P1.out.cell 0; have p1 : w1.cell? ⟨w.heap.size, 1, none⟩ = some (.int .i64 x.to_) := P1.out.cell 1) | (go_at_call 179; (with_reducible refine (l03Span_any x _).mono ?_); rintro e w2 ⟨rfl, hx2⟩; have X2 := Lib.hid (X1.out.trans hx2); have R2 := Lib.hid (R1.out.ext hx2); have P2 := Lib.hid (P1.out.ext hx2); clear hx2 p0 p1; have p0 : w2.cell? ⟨w.heap.size, 0, none⟩ = some (.int .i64 x.from_) := P2.out.cell 0; have p1 : w2.cell? ⟨w.heap.size, 1, none⟩ = some (.int .i64 x.to_) := P2.out.cell 1) | (go_at_call 167; refine (l10Ill_any _ _).mono ?_; rintro e wi ⟨rfl, hxi⟩; have XI := Lib.hid (X2.out.trans hxi); have RI := Lib.hid (R2.out.ext hxi); clear hxi) | (refine wpList_store_mid rfl 114 _ _ rfl R 0 #[.slice none 0 0, .int .i64 1] rfl rfl (Blk.there (t := 114) (cs := #[.slice none 0 0, .int .i64 0]) RI.out) (by kernel_rfl) (all_oneCell_toArray (cs := [.slice none 0 0, .int .i64 1]) (by simp [Value.oneCell'])) ?_))
    exact bodyPost_ret (v := .agg #[.slice none 0 0, .int .i64 1]) (results_blk Tryz.results93 rfl (Blk.setAll (t := 114) (cs := #[.slice none 0 0, .int .i64 0]) (vs := #[.slice none 0 0, .int .i64 1]) RI.out rfl) Tryz.underlying114 rfl (by kernel_rfl)) rfl ⟨_, [], rfl, ⟨.slice none 0 0, by rw [HE.out]; rfl, by rw [HE.out]; simp [FitNodesOut, I64], by rw [HE.out]; exact OwS.nil _⟩, fun b hb => absurd hb (by simp), setCells_ext HRB.out _ _ _ XI.out⟩
  | true =>
  cases ho : nowOk now with
  | false =>
    have HE : Hid (bookPut l n x now = ⟨[], 1⟩) := Lib.hid (by rw [bookPut, if_neg hl, if_pos (by simp [ht, hs, ho])])
    clear hl
    go_wp2_with (first | (go_at_call 163; (with_reducible refine (specNodesRight_any (S := S) l _ _ (HR.out.ext X0.out)).mono ?_); rintro e w1 ⟨rfl, hx1⟩; have X1 := Lib.hid (X0.out.trans hx1); have R1 := Lib.hid (R0.out.ext hx1); have P1 := Lib.hid (P0.out.ext hx1); clear hx1 p0 p1; have p0 : w1.cell? ⟨w.heap.size, 0, none⟩ = some (.int .i64 x.from_) := P1.out.cell 0; have p1 : w1.cell? ⟨w.heap.size, 1, none⟩ = some (.int .i64 x.to_) := P1.out.cell 1) | (go_at_call 179; (with_reducible refine (l03Span_any x _).mono ?_); rintro e w2 ⟨rfl, hx2⟩; have X2 := Lib.hid (X1.out.trans hx2); have R2 := Lib.hid (R1.out.ext hx2); have P2 := Lib.hid (P1.out.ext hx2); clear hx2 p0 p1; have p0 : w2.cell? ⟨w.heap.size, 0, none⟩ = some (.int .i64 x.from_) := P2.out.cell 0; have p1 : w2.cell? ⟨w.heap.size, 1, none⟩ = some (.int .i64 x.to_) := P2.out.cell 1) | (go_at_call 161; refine (l03Now_any _ _).mono ?_; rintro e w' ⟨rfl, rfl⟩) | (go_at_call 167; refine (l10Ill_any _ _).mono ?_; rintro e wi ⟨rfl, hxi⟩; have XI := Lib.hid (X2.out.trans hxi); have RI := Lib.hid (R2.out.ext hxi); clear hxi) | (refine wpList_store_mid rfl 114 _ _ rfl R 0 #[.slice none 0 0, .int .i64 1] rfl rfl (Blk.there (t := 114) (cs := #[.slice none 0 0, .int .i64 0]) RI.out) (by kernel_rfl) (all_oneCell_toArray (cs := [.slice none 0 0, .int .i64 1]) (by simp [Value.oneCell'])) ?_))
    exact bodyPost_ret (v := .agg #[.slice none 0 0, .int .i64 1]) (results_blk Tryz.results93 rfl (Blk.setAll (t := 114) (cs := #[.slice none 0 0, .int .i64 0]) (vs := #[.slice none 0 0, .int .i64 1]) RI.out rfl) Tryz.underlying114 rfl (by kernel_rfl)) rfl ⟨_, [], rfl, ⟨.slice none 0 0, by rw [HE.out]; rfl, by rw [HE.out]; simp [FitNodesOut, I64], by rw [HE.out]; exact OwS.nil _⟩, fun b hb => absurd hb (by simp), setCells_ext HRB.out _ _ _ XI.out⟩
  | true =>
  have hb1 : ¬ (nodesRight l && spanRight x && nowOk now) = false := by simp [ht, hs, ho]
  have hno := isB_true ho
  cases hn : isNode l n with
  | false =>
    have HE : Hid (bookPut l n x now = ⟨[], 6⟩) := Lib.hid (by rw [bookPut, if_neg hl, if_neg hb1, if_pos hn])
    clear hl
    go_wp2_with (first | (go_at_call 163; (with_reducible refine (specNodesRight_any (S := S) l _ _ (HR.out.ext X0.out)).mono ?_); rintro e w1 ⟨rfl, hx1⟩; have X1 := Lib.hid (X0.out.trans hx1); have R1 := Lib.hid (R0.out.ext hx1); have P1 := Lib.hid (P0.out.ext hx1); clear hx1 p0 p1; have p0 : w1.cell? ⟨w.heap.size, 0, none⟩ = some (.int .i64 x.from_) := P1.out.cell 0; have p1 : w1.cell? ⟨w.heap.size, 1, none⟩ = some (.int .i64 x.to_) := P1.out.cell 1) | (go_at_call 179; (with_reducible refine (l03Span_any x _).mono ?_); rintro e w2 ⟨rfl, hx2⟩; have X2 := Lib.hid (X1.out.trans hx2); have R2 := Lib.hid (R1.out.ext hx2); have P2 := Lib.hid (P1.out.ext hx2); clear hx2 p0 p1; have p0 : w2.cell? ⟨w.heap.size, 0, none⟩ = some (.int .i64 x.from_) := P2.out.cell 0; have p1 : w2.cell? ⟨w.heap.size, 1, none⟩ = some (.int .i64 x.to_) := P2.out.cell 1) | (go_at_call 161; refine (l03Now_any _ _).mono ?_; rintro e w' ⟨rfl, rfl⟩) | (go_at_call 168; refine (l10Place_any l n _ _ _ hl2).mono ?_; rintro e w' ⟨rfl, rfl⟩) | (go_at_call 167; refine (l10Ill_any _ _).mono ?_; rintro e wi ⟨rfl, hxi⟩; have XI := Lib.hid (X2.out.trans hxi); have RI := Lib.hid (R2.out.ext hxi); clear hxi) | (refine wpList_store_mid rfl 114 _ _ rfl R 0 #[.slice none 0 0, .int .i64 6] rfl rfl (Blk.there (t := 114) (cs := #[.slice none 0 0, .int .i64 0]) RI.out) (by kernel_rfl) (all_oneCell_toArray (cs := [.slice none 0 0, .int .i64 6]) (by simp [Value.oneCell'])) ?_))
    exact bodyPost_ret (v := .agg #[.slice none 0 0, .int .i64 6]) (results_blk Tryz.results93 rfl (Blk.setAll (t := 114) (cs := #[.slice none 0 0, .int .i64 0]) (vs := #[.slice none 0 0, .int .i64 6]) RI.out rfl) Tryz.underlying114 rfl (by kernel_rfl)) rfl ⟨_, [], rfl, ⟨.slice none 0 0, by rw [HE.out]; rfl, by rw [HE.out]; simp [FitNodesOut, I64], by rw [HE.out]; exact OwS.nil _⟩, fun b hb => absurd hb (by simp), setCells_ext HRB.out _ _ _ XI.out⟩
  | true =>
  obtain ⟨d, rfl, hd⟩ := isNode_nat hn
  have hw40 : IntKind.i64.wrap (now + 40) = now + 40 := IntWalk.i64_in _ (by omega)
  by_cases hr1 : x.from_ ≤ now
  · have HE : Hid (bookPut l (d : Int) x now = ⟨[], 8⟩) := Lib.hid (by rw [bookPut, if_neg hl, if_neg hb1, if_neg (by simp [hn]), if_pos (by simp [hr1])])
    clear hl hb1
    go_wp2_with (first | (go_at_call 163; (with_reducible refine (specNodesRight_any (S := S) l _ _ (HR.out.ext X0.out)).mono ?_); rintro e w1 ⟨rfl, hx1⟩; have X1 := Lib.hid (X0.out.trans hx1); have R1 := Lib.hid (R0.out.ext hx1); have P1 := Lib.hid (P0.out.ext hx1); clear hx1 p0 p1; have p0 : w1.cell? ⟨w.heap.size, 0, none⟩ = some (.int .i64 x.from_) := P1.out.cell 0; have p1 : w1.cell? ⟨w.heap.size, 1, none⟩ = some (.int .i64 x.to_) := P1.out.cell 1) | (go_at_call 179; (with_reducible refine (l03Span_any x _).mono ?_); rintro e w2 ⟨rfl, hx2⟩; have X2 := Lib.hid (X1.out.trans hx2); have R2 := Lib.hid (R1.out.ext hx2); have P2 := Lib.hid (P1.out.ext hx2); clear hx2 p0 p1; have p0 : w2.cell? ⟨w.heap.size, 0, none⟩ = some (.int .i64 x.from_) := P2.out.cell 0; have p1 : w2.cell? ⟨w.heap.size, 1, none⟩ = some (.int .i64 x.to_) := P2.out.cell 1) | (go_at_call 161; refine (l03Now_any _ _).mono ?_; rintro e w' ⟨rfl, rfl⟩) | (go_at_call 168; refine (l10Place_any l (d : Int) _ _ _ hl2).mono ?_; rintro e w' ⟨rfl, rfl⟩) | (go_at_call 167; refine (l10Ill_any _ _).mono ?_; rintro e wi ⟨rfl, hxi⟩; have XI := Lib.hid (X2.out.trans hxi); have RI := Lib.hid (R2.out.ext hxi); clear hxi) | (refine wpList_store_mid rfl 114 _ _ rfl R 0 #[.slice none 0 0, .int .i64 8] rfl rfl (Blk.there (t := 114) (cs := #[.slice none 0 0, .int .i64 0]) RI.out) (by kernel_rfl) (all_oneCell_toArray (cs := [.slice none 0 0, .int .i64 8]) (by simp [Value.oneCell'])) ?_))
    exact bodyPost_ret (v := .agg #[.slice none 0 0, .int .i64 8]) (results_blk Tryz.results93 rfl (Blk.setAll (t := 114) (cs := #[.slice none 0 0, .int .i64 0]) (vs := #[.slice none 0 0, .int .i64 8]) RI.out rfl) Tryz.underlying114 rfl (by kernel_rfl)) rfl ⟨_, [], rfl, ⟨.slice none 0 0, by rw [HE.out]; rfl, by rw [HE.out]; simp [FitNodesOut, I64], by rw [HE.out]; exact OwS.nil _⟩, fun b hb => absurd hb (by simp), setCells_ext HRB.out _ _ _ XI.out⟩
  by_cases hr2 : now + 40 < x.to_
  · have HE : Hid (bookPut l (d : Int) x now = ⟨[], 8⟩) := Lib.hid (by rw [bookPut, if_neg hl, if_neg hb1, if_neg (by simp [hn]), if_pos (by simp [hr2])])
    clear hl hb1
    go_wp2_with (first | (go_at_call 163; (with_reducible refine (specNodesRight_any (S := S) l _ _ (HR.out.ext X0.out)).mono ?_); rintro e w1 ⟨rfl, hx1⟩; have X1 := Lib.hid (X0.out.trans hx1); have R1 := Lib.hid (R0.out.ext hx1); have P1 := Lib.hid (P0.out.ext hx1); clear hx1 p0 p1; have p0 : w1.cell? ⟨w.heap.size, 0, none⟩ = some (.int .i64 x.from_) := P1.out.cell 0; have p1 : w1.cell? ⟨w.heap.size, 1, none⟩ = some (.int .i64 x.to_) := P1.out.cell 1) | (go_at_call 179; (with_reducible refine (l03Span_any x _).mono ?_); rintro e w2 ⟨rfl, hx2⟩; have X2 := Lib.hid (X1.out.trans hx2); have R2 := Lib.hid (R1.out.ext hx2); have P2 := Lib.hid (P1.out.ext hx2); clear hx2 p0 p1; have p0 : w2.cell? ⟨w.heap.size, 0, none⟩ = some (.int .i64 x.from_) := P2.out.cell 0; have p1 : w2.cell? ⟨w.heap.size, 1, none⟩ = some (.int .i64 x.to_) := P2.out.cell 1) | (go_at_call 161; refine (l03Now_any _ _).mono ?_; rintro e w' ⟨rfl, rfl⟩) | (go_at_call 168; refine (l10Place_any l (d : Int) _ _ _ hl2).mono ?_; rintro e w' ⟨rfl, rfl⟩) | (go_at_call 167; refine (l10Ill_any _ _).mono ?_; rintro e wi ⟨rfl, hxi⟩; have XI := Lib.hid (X2.out.trans hxi); have RI := Lib.hid (R2.out.ext hxi); clear hxi) | (refine wpList_store_mid rfl 114 _ _ rfl R 0 #[.slice none 0 0, .int .i64 8] rfl rfl (Blk.there (t := 114) (cs := #[.slice none 0 0, .int .i64 0]) RI.out) (by kernel_rfl) (all_oneCell_toArray (cs := [.slice none 0 0, .int .i64 8]) (by simp [Value.oneCell'])) ?_))
    exact bodyPost_ret (v := .agg #[.slice none 0 0, .int .i64 8]) (results_blk Tryz.results93 rfl (Blk.setAll (t := 114) (cs := #[.slice none 0 0, .int .i64 0]) (vs := #[.slice none 0 0, .int .i64 8]) RI.out rfl) Tryz.underlying114 rfl (by kernel_rfl)) rfl ⟨_, [], rfl, ⟨.slice none 0 0, by rw [HE.out]; rfl, by rw [HE.out]; simp [FitNodesOut, I64], by rw [HE.out]; exact OwS.nil _⟩, fun b hb => absurd hb (by simp), setCells_ext HRB.out _ _ _ XI.out⟩
  have hb2 : ¬ (decide (x.from_ ≤ now) || decide (now + 40 < x.to_)) = true := by simp [hr1, hr2]
  obtain ⟨b, q, cs, rfl, _, ⟨v1, rfl, hfit, hrd⟩, hc⟩ := HK.out d hd
  obtain ⟨A1, d1, rfl, -⟩ := hrd.form
  have HRD := Lib.hid hrd
  have hd0 : (0 : Int) ≤ (d : Int) := Int.natCast_nonneg _
  have hdl : (d : Int) < (l.length : Int) := by omega
  have CE : Hid (∀ V, Ext w V → V.cell? ⟨b, q + d * 2 + 1, none⟩ = some (.slice A1 (nth l d).books.length d1)) := Lib.hid fun V hV => by have := Ext.some hV (hc 1 _ rfl); simpa [ENode] using this
  have HFit := Lib.hid hfit
  clear hc hrd hfit
  have HBk := Lib.hid (nodesRight_books ht hd)
  have HS : Hid (∀ k, k < l.length → (nth l k).books.length ≤ 1000000000) := Lib.hid fun k hk => by have := (nodesRight_books ht hk).1; omega
  have HSR := Lib.hid hs
  have HE0 : Hid (bookPut l (d : Int) x now = if freeOf (nth l d).books x = false then ⟨[], 7⟩ else if (nth l d).books.length = 4 then ⟨[], 9⟩ else ⟨l.set d { nth l d with books := spanIns (nth l d).books x }, 0⟩) := Lib.hid (by rw [bookPut, if_neg hl, if_neg hb1, if_neg (by simp [hn]), if_neg hb2, Int.toNat_natCast])
  clear hl hb1 hb2
  go_upto_region 9 with (first | (go_at_call 163; (with_reducible refine (specNodesRight_any (S := S) l _ _ (HR.out.ext X0.out)).mono ?_); rintro e w1 ⟨rfl, hx1⟩; have X1 := Lib.hid (X0.out.trans hx1); have R1 := Lib.hid (R0.out.ext hx1); have P1 := Lib.hid (P0.out.ext hx1); clear hx1 p0 p1; have p0 : w1.cell? ⟨w.heap.size, 0, none⟩ = some (.int .i64 x.from_) := P1.out.cell 0; have p1 : w1.cell? ⟨w.heap.size, 1, none⟩ = some (.int .i64 x.to_) := P1.out.cell 1) | (go_at_call 179; (with_reducible refine (l03Span_any x _).mono ?_); rintro e w2 ⟨rfl, hx2⟩; have X2 := Lib.hid (X1.out.trans hx2); have R2 := Lib.hid (R1.out.ext hx2); have P2 := Lib.hid (P1.out.ext hx2); clear hx2 p0 p1; have p0 : w2.cell? ⟨w.heap.size, 0, none⟩ = some (.int .i64 x.from_) := P2.out.cell 0; have p1 : w2.cell? ⟨w.heap.size, 1, none⟩ = some (.int .i64 x.to_) := P2.out.cell 1) | (go_at_call 161; refine (l03Now_any _ _).mono ?_; rintro e w' ⟨rfl, rfl⟩) | (go_at_call 168; refine (l10Place_any l (d : Int) _ _ _ hl2).mono ?_; rintro e w' ⟨rfl, rfl⟩))
  have ce := CE.out _ X2.out
  refine wp_region_ext (by kernel_rfl) (by kernel_rfl) ?_
  repeat (
    (refine wpQuiet_step (fun K hK => ?_)
     go_simp
     first
      | (refine hK _ ?_; clear hK K)
      | (apply Exists.intro
         refine ⟨fun w__ hx__ => ?_, hK _ ?_⟩
         · have ce__ := Ext.some hx__ ce; have p0__ := Ext.some hx__ p0; have p1__ := Ext.some hx__ p1; first | exact rfl | (go_simp; done) | (go_simp; exact rfl) | (go_at_call 180; exact ext_of hx__ (l03Free_any (S := S) (nth l d).books x _ _ (HRD.out.ext (X2.out.trans hx__))))
         clear hK K)))
  refine wpQuiet_nil ?_
  intro w1 hx1
  have X3 := Lib.hid (X2.out.trans hx1)
  have R3 := Lib.hid (R2.out.ext hx1)
  have P3 := Lib.hid (P2.out.ext hx1)
  clear ce p0 p1
  have p0 : w1.cell? ⟨w.heap.size, 0, none⟩ = some (.int .i64 x.from_) := P3.out.cell 0; have p1 : w1.cell? ⟨w.heap.size, 1, none⟩ = some (.int .i64 x.to_) := P3.out.cell 1
  have ce := CE.out _ X3.out
  clear hx1
  cases hfr : freeOf (nth l d).books x with
  | false =>
    have HE : Hid (bookPut l (d : Int) x now = ⟨[], 7⟩) := Lib.hid (by rw [HE0.out, if_pos hfr])
    go_wp2_with (first | (go_at_call 167; refine (l10Ill_any _ _).mono ?_; rintro e wi ⟨rfl, hxi⟩; have XI := Lib.hid (X3.out.trans hxi); have RI := Lib.hid (R3.out.ext hxi); clear hxi) | (refine wpList_store_mid rfl 114 _ _ rfl R 0 #[.slice none 0 0, .int .i64 7] rfl rfl (Blk.there (t := 114) (cs := #[.slice none 0 0, .int .i64 0]) RI.out) (by kernel_rfl) (all_oneCell_toArray (cs := [.slice none 0 0, .int .i64 7]) (by simp [Value.oneCell'])) ?_))
    exact bodyPost_ret (v := .agg #[.slice none 0 0, .int .i64 7]) (results_blk Tryz.results93 rfl (Blk.setAll (t := 114) (cs := #[.slice none 0 0, .int .i64 0]) (vs := #[.slice none 0 0, .int .i64 7]) RI.out rfl) Tryz.underlying114 rfl (by kernel_rfl)) rfl ⟨_, [], rfl, ⟨.slice none 0 0, by rw [HE.out]; rfl, by rw [HE.out]; simp [FitNodesOut, I64], by rw [HE.out]; exact OwS.nil _⟩, fun b hb => absurd hb (by simp), setCells_ext HRB.out _ _ _ XI.out⟩
  | true =>
  by_cases h4 : (nth l d).books.length = 4
  · have HE : Hid (bookPut l (d : Int) x now = ⟨[], 9⟩) := Lib.hid (by rw [HE0.out, if_neg (by simp [hfr]), if_pos h4])
    go_wp2_with (first | (go_at_call 167; refine (l10Ill_any _ _).mono ?_; rintro e wi ⟨rfl, hxi⟩; have XI := Lib.hid (X3.out.trans hxi); have RI := Lib.hid (R3.out.ext hxi); clear hxi) | (refine wpList_store_mid rfl 114 _ _ rfl R 0 #[.slice none 0 0, .int .i64 9] rfl rfl (Blk.there (t := 114) (cs := #[.slice none 0 0, .int .i64 0]) RI.out) (by kernel_rfl) (all_oneCell_toArray (cs := [.slice none 0 0, .int .i64 9]) (by simp [Value.oneCell'])) ?_))
    exact bodyPost_ret (v := .agg #[.slice none 0 0, .int .i64 9]) (results_blk Tryz.results93 rfl (Blk.setAll (t := 114) (cs := #[.slice none 0 0, .int .i64 0]) (vs := #[.slice none 0 0, .int .i64 9]) RI.out rfl) Tryz.underlying114 rfl (by kernel_rfl)) rfl ⟨_, [], rfl, ⟨.slice none 0 0, by rw [HE.out]; rfl, by rw [HE.out]; simp [FitNodesOut, I64], by rw [HE.out]; exact OwS.nil _⟩, fun b hb => absurd hb (by simp), setCells_ext HRB.out _ _ _ XI.out⟩
  have HE : Hid (bookPut l (d : Int) x now = ⟨l.set d { nth l d with books := spanIns (nth l d).books x }, 0⟩) := Lib.hid (by rw [HE0.out, if_neg (by simp [hfr]), if_neg h4])
  have HFR := Lib.hid hfr
  have h44 : (nth l d).books.length < 4 := by have := HBk.out.1; omega
  have HL4 := Lib.hid h44
  clear hfr
  go_upto_region 14 with (go_at_call 169; (with_reducible refine (l10Copy_any (S := S) l _ _ (HR.out.ext X3.out) (by omega) HS.out).mono ?_); rintro e w4 ⟨v4, F4, rfl, o4, g4, hx4⟩)
  have HX4 := Lib.hid hx4
  have X4 := Lib.hid (X3.out.trans hx4)
  have R4 := Lib.hid (R3.out.ext hx4)
  have P4 := Lib.hid (P3.out.ext hx4)
  have G4 := Lib.hid g4
  have HRl := Lib.hid R3.out.lt
  have LF4 := Lib.hid o4.lt
  obtain ⟨B2, cc, G, cs2, hv2, hlc, hcm, hBF, hBG, hGF, ho2, hc2, hfz, hth, hrow, hset⟩ := o4.at2 (k := d) hd
  subst hv2
  obtain ⟨u1, rfl, hfit2, q1⟩ := ho2
  obtain ⟨p1_, k1, rfl, -⟩ := q1.form
  have e1 := hc2 1 _ rfl
  simp only [ENode] at e1
  have Q1 := Lib.hid q1
  have HC := Lib.hid hc2
  have HSET := Lib.hid hset
  have HROW := Lib.hid hrow
  have HBF := Lib.hid hBF
  have HBG := Lib.hid hBG
  have HGF := Lib.hid hGF
  have HBW := Lib.hid (blk_lt_of hrow)
  have HRB2 : Hid (R ≠ B2) := Lib.hid fun hb => by have a := G4.out _ hBF; have b := HRl.out; omega
  have hfz1 := hfz (d * 2 + 1)
  clear o4 g4 hx4 hset hrow hth hc2 q1 hBF hBG hGF hlc hcm hfz hfit2 ht ce p0 p1
  have p0 : w4.cell? ⟨w.heap.size, 0, none⟩ = some (.int .i64 x.from_) := P4.out.cell 0; have p1 : w4.cell? ⟨w.heap.size, 1, none⟩ = some (.int .i64 x.to_) := P4.out.cell 1
  have HXD : Hid (Ext w4 w4.drew) := Lib.hid (Ext.refl _).drew
  have HBW2 : Hid (w.heap.size ≤ B2) := Lib.hid (Nat.le_trans X3.out.size (G4.out _ HBF.out))
  have E1 := Lib.hid e1
  have HSR := Lib.hid hs
  go_region_law (first | (go_simp; go_at_call 181; (with_reducible refine (l03Put_any (S := fun b => b ∈ G) (nth l d).books x _ _ (Q1.out.rd.ext HXD.out) (by have := HL4.out; omega) HF.out).mono ?_); rintro e w5 ⟨v5, F5, rfl, o5, f5, hx5⟩; obtain ⟨A5, c5, rfl, -⟩ := o5.form; have O5 := Lib.hid o5; have F5h := Lib.hid f5; have XX5 := Lib.hid (HXD.out.trans hx5); have X5 := Lib.hid (X4.out.trans (HXD.out.trans hx5)); have e13 := Ext.some (HXD.out.trans hx5) E1.out; have f13 := (RowBut.kept HROW.out (Kept.of_ext (F := []) (HXD.out.trans hx5)) (by simp)).frozen (d * 2 + 1); clear o5 f5 hx5))
  all_goals
    have hB3 := RowBut.kept HROW.out (Kept.of_ext (F := []) XX5.out) (by simp)
    obtain ⟨W6, hW6⟩ : ∃ W6, W6 = w5.setCell ⟨B2, d * 2 + 1, none⟩ (.slice A5 (spanIns (nth l d).books x).length c5) := ⟨_, rfl⟩
    have HN : Hid (∃ F', OwS ONode 151 W6 (.slice (some ⟨B2, 0, none⟩) l.length cc) (l.set d { nth l d with books := spanIns (nth l d).books x }) F' ∧ ∀ b ∈ F', b ∈ F4 ∨ w4.heap.size ≤ b) := Lib.hid (by
      rw [hW6]
      refine HSET.out _ _ [.int .i64 (nth l d).state, .slice A5 (spanIns (nth l d).books x).length c5] F5 (Kept.setCell (Kept.of_ext XX5.out) (by simp) _) (RowBut.setCell hB3 (by simp [ENode]) (by simp [ENode]) _) ⟨_, rfl, HFit.out, O5.out.kept (G := [B2]) (Kept.setCell (Kept.refl _ _) (by simp) _) (fun b hb => by have a : w4.heap.size ≤ b := F5h.out b hb; have c := HBW.out; simp; omega)⟩ (fun b hb => .inr (F5h.out b hb)) ?_
      have hc3 : w5.rangeAt B2 (d * 2) ([.int .i64 (nth l d).state] ++ [.slice p1_ (nth l d).books.length k1]) := XX5.out.range HC.out
      exact range_back (a := [.int .i64 (nth l d).state]) hc3 (fun j hj => ⟨(by obtain rfl : j = 0 := (by simpa using hj); rw [show d * 2 + [Value.int IntKind.i64 (nth l d).state].length + 0 = d * 2 + 1 from rfl, hc3 1 _ rfl]; rfl), hB3.frozen _⟩))
    have X6 : Hid (Ext w W6) := Lib.hid (by rw [hW6]; exact X5.out.setCell HBW2.out _)
    have R6 : Hid (Blk W6 R 114 #[.slice none 0 0, .int .i64 0]) := Lib.hid (by rw [hW6]; exact Blk.far (R4.out.ext XX5.out) HRB2.out _)
    have HX3 := Lib.hid X3.out.size
    clear hB3 e13 f13 e1
    rw [← hW6]
    clear hW6
    obtain ⟨F6, o6, f6⟩ := HN.out
    have O6 := Lib.hid o6
    have G6 : Hid (∀ b ∈ F6, w1.heap.size ≤ b) := Lib.hid fun b hb => by rcases f6 b hb with h | h; exact G4.out b h; exact Nat.le_trans HX4.out.size h
    clear o6 f6
    go_wp2_with (refine wpList_store_mid rfl 114 _ _ rfl R 0 #[.slice (some ⟨B2, 0, none⟩) l.length cc, .int .i64 0] rfl rfl (Blk.there (t := 114) (cs := #[.slice none 0 0, .int .i64 0]) R6.out) (by kernel_rfl) (all_oneCell_toArray (cs := [.slice (some ⟨B2, 0, none⟩) l.length cc, .int .i64 0]) (by simp [Value.oneCell'])) ?_)
    exact bodyPost_ret (v := .agg #[.slice (some ⟨B2, 0, none⟩) l.length cc, .int .i64 0]) (results_blk Tryz.results93 rfl (Blk.setAll (t := 114) (cs := #[.slice none 0 0, .int .i64 0]) (vs := #[.slice (some ⟨B2, 0, none⟩) l.length cc, .int .i64 0]) R6.out rfl) Tryz.underlying114 rfl (by kernel_rfl)) rfl ⟨_, F6, rfl, ⟨.slice (some ⟨B2, 0, none⟩) l.length cc, by rw [HE.out]; rfl, by rw [HE.out]; simp [FitNodesOut, I64], by rw [HE.out]; exact O6.out.kept (G := [R]) (Kept.setCells (by simp) _ _ _ (Kept.refl _ _)) (fun b hb => by have := G6.out b hb; have := HRl.out; simp; omega)⟩, fun b hb => Nat.le_trans HX3.out (G6.out b hb), setCells_ext HRB.out _ _ _ X6.out⟩
end Go.Proofs.YtngldifgcgblpaaGreat
namespace Go.Proofs.YtngldifgcgblpaaGreat
end Go.Proofs.YtngldifgcgblpaaGreat
namespace Go.Proofs.YtngldifgcgblpaaGreat
open Go.RowKit
attribute [local irreducible] wpQuiet
theorem bookPut_small (l : List Node) (n : Int) (x : Span) (now : Int) : (bookPut l n x now).nodes.length ≤ 1000 ∧ ∀ z ∈ (bookPut l n x now).nodes, z.books.length ≤ 1000 := by
  unfold bookPut
  split
  · exact nil_small
  split
  · exact nil_small
  split
  · exact nil_small
  split
  · exact nil_small
  split
  · exact nil_small
  split
  · exact nil_small
  rename_i h1 h2 h3 h4 h5 h6
  simp only [Bool.not_eq_false] at h2 h3
  simp only [Bool.and_eq_true] at h2
  refine set_small h2.1.1 ?_
  have := (nodesRight_books h2.1.1 (isNode_lt h3)).1
  show (spanIns _ _).length ≤ _
  unfold spanIns
  rw [List.length_append, List.length_cons, List.length_take, List.length_drop]
  omega
end Go.Proofs.YtngldifgcgblpaaGreat
namespace Go.Proofs.YtngldifgcgblpaaGreat
open Go.RowKit
attribute [local irreducible] wpQuiet
set_option maxHeartbeats 16000000 in
set_option maxRecDepth 100000 in
theorem specYardBook_any {S : Nat → Prop} (y : Yard) (n : Int) (sp : Span) (cs : List Value) (w : World) (h : EYard.rel S w cs y) (hsp : FitSpan sp) :
    Calls Tryz.prog 35 #[.agg cs.toArray, .int .i64 n, .agg #[.int .i64 sp.from_, .int .i64 sp.to_]] w (RetOS OYardOut (nodeY y (bookPut y.nodes n sp y.now)) w) := by
  obtain ⟨v1, v2, v3, v4, v5, v6, rfl, hf, h1, h2, h3, h4, h5, h6⟩ := h
  obtain ⟨A1, c1, rfl, -⟩ := h1.form
  obtain ⟨A2, c2, rfl, -⟩ := h2.form
  obtain ⟨A3, c3, rfl, -⟩ := h3.form
  obtain ⟨A4, c4, rfl, -⟩ := h4.form
  obtain ⟨A5, c5, rfl, -⟩ := h5.form
  obtain ⟨A6, c6, rfl, -⟩ := h6.form
  have HF := Lib.hid hf
  have HFC : Hid (FitConfig y.config) := Lib.hid hf.1
  have H1 := Lib.hid h1
  have H2 := Lib.hid h2
  have H3 := Lib.hid h3
  have H4 := Lib.hid h4
  have H5 := Lib.hid h5
  have H6 := Lib.hid h6
  clear hf h1 h2 h3 h4 h5 h6
  simp only [cellsYard]
  have HSP := Lib.hid hsp
  clear hsp
  obtain ⟨x, hx⟩ : ∃ x, bookPut y.nodes n sp y.now = x := ⟨_, rfl⟩
  rw [hx]
  have HX := Lib.hid hx
  clear hx
  obtain ⟨t, ht⟩ : ∃ t, yardRight y = t := ⟨_, rfl⟩
  have T := Lib.hid ht
  obtain ⟨c, hc⟩ : ∃ c, x.code = c := ⟨_, rfl⟩
  have HC := Lib.hid hc
  clear ht hc
  go_enter Tryz.func35, Tryz.ntmps35
  go_upto_region 1 with (fail)
  obtain ⟨W, B, hW, hB, hx0, a0, b0, r0⟩ := boxes3 w #[.slice A1 y.config.nodes.length c1, .slice A2 y.config.pairs.length c2, .slice A3 y.config.quotas.length c3, .int .i64 y.config.half, .slice A4 y.nodes.length c4, .slice A5 y.tasks.length c5, .slice A6 y.uses.length c6, .int .i64 y.now] #[.int .i64 sp.from_, .int .i64 sp.to_] #[.slice none 0 0, .slice none 0 0, .slice none 0 0, .int .i64 0, .slice none 0 0, .slice none 0 0, .slice none 0 0, .int .i64 0, .int .i64 0, .int .i64 0] 44 63 46
  rw [← hW, ← hB]
  have HB : Hid (w.heap.size ≤ B + 1 + 1) := Lib.hid (by omega)
  have QA := Lib.hid a0
  have QE0 := Lib.hid b0
  have QR := Lib.hid r0
  have X := Lib.hid hx0
  clear hW hB hx0 a0 b0 r0
  have qa := QA.out.cell
  have qe0 := QE0.out.cell
  have HLT : Hid (B + 1 + 1 < W.heap.size) := Lib.hid QR.out.lt
  have HXW := Lib.hid X.out
  have XV : Hid (Ext W W) := Lib.hid (Ext.refl W)
  cases t with
  | false =>
    have HE : Hid (nodeY y x = illY 1) := Lib.hid (nodeY_form T.out)
    go_upto_region 2 with (go_at_call 82; (with_reducible refine (specYardRight_is (S := S) y _ _ (rel_Yard HF.out (H1.out.ext X.out) (H2.out.ext X.out) (H3.out.ext X.out) (H4.out.ext X.out) (H5.out.ext X.out) (H6.out.ext X.out)) _ T.out).mono ?_); rintro e w7 ⟨rfl, hx7⟩; replace X := Lib.hid (X.out.trans hx7); replace XV := Lib.hid (XV.out.trans hx7); replace QA := Lib.hid (QA.out.ext hx7); replace QE0 := Lib.hid (QE0.out.ext hx7); replace QR := Lib.hid (QR.out.ext hx7); clear hx7 qa qe0; have qa := QA.out.cell; have qe0 := QE0.out.cell)
    clear qa qe0
    go_wp2_with (first | (go_at_call 52; (with_reducible refine (l13IllT_any _ _).mono ?_); rintro e w8 ⟨rfl, hx8⟩; have H8 := Lib.hid hx8; clear hx8) | refine wpList_store_mid rfl 46 _ _ rfl (B + 1 + 1) 0 #[.slice none 0 0, .slice none 0 0, .slice none 0 0, .int .i64 0, .slice none 0 0, .slice none 0 0, .slice none 0 0, .int .i64 0, .int .i64 0, .int .i64 1] rfl rfl (Blk.there (t := 46) (cs := #[.slice none 0 0, .slice none 0 0, .slice none 0 0, .int .i64 0, .slice none 0 0, .slice none 0 0, .slice none 0 0, .int .i64 0, .int .i64 0, .int .i64 0]) (QR.out.ext H8.out)) (by kernel_rfl) (all_oneCell_toArray (cs := [.slice none 0 0, .slice none 0 0, .slice none 0 0, .int .i64 0, .slice none 0 0, .slice none 0 0, .slice none 0 0, .int .i64 0, .int .i64 0, .int .i64 1]) (by simp [Value.oneCell'])) ?_)
    exact bodyPost_ret (v := .agg #[.slice none 0 0, .slice none 0 0, .slice none 0 0, .int .i64 0, .slice none 0 0, .slice none 0 0, .slice none 0 0, .int .i64 0, .int .i64 0, .int .i64 1]) (results_blk Tryz.results35 rfl (Blk.setAll (t := 46) (cs := #[.slice none 0 0, .slice none 0 0, .slice none 0 0, .int .i64 0, .slice none 0 0, .slice none 0 0, .slice none 0 0, .int .i64 0, .int .i64 0, .int .i64 0]) (vs := #[.slice none 0 0, .slice none 0 0, .slice none 0 0, .int .i64 0, .slice none 0 0, .slice none 0 0, .slice none 0 0, .int .i64 0, .int .i64 0, .int .i64 1]) (QR.out.ext H8.out) rfl) Tryz.underlying46 rfl (by kernel_rfl)) rfl ⟨_, [], rfl, by rw [HE.out]; exact own_ill _ _ (by unfold I64; decide), fun b hb => absurd hb (by simp), setCells_ext HB.out _ _ _ (X.out.trans H8.out)⟩
  | true =>
    by_cases hz : c = 0
    case neg =>
      have HE : Hid (nodeY y x = illY c) := Lib.hid (nodeY_code T.out HC.out hz)
      go_upto_region 4 with (first | (go_at_call 82; (with_reducible refine (specYardRight_is (S := S) y _ _ (rel_Yard HF.out (H1.out.ext X.out) (H2.out.ext X.out) (H3.out.ext X.out) (H4.out.ext X.out) (H5.out.ext X.out) (H6.out.ext X.out)) _ T.out).mono ?_); rintro e w7 ⟨rfl, hx7⟩; replace X := Lib.hid (X.out.trans hx7); replace XV := Lib.hid (XV.out.trans hx7); replace QA := Lib.hid (QA.out.ext hx7); replace QE0 := Lib.hid (QE0.out.ext hx7); replace QR := Lib.hid (QR.out.ext hx7); clear hx7 qa qe0; have qa := QA.out.cell; have qe0 := QE0.out.cell) | (go_at_call 93; (with_reducible refine (specBookPut_any (S := S) y.nodes n sp y.now _ _ (H4.out.ext X.out) HSP.out).mono ?_); rw [HX.out]; rintro e wn ⟨csn, FN, rfl, ⟨un, rfl, hfn, qn⟩, gn, hxn⟩; obtain ⟨pn, kn, rfl, -⟩ := OwS.form qn; have QX := Lib.hid qn; have HFN : Hid (FitNodesOut x) := Lib.hid hfn; have GN : Hid (∀ b ∈ FN, W.heap.size ≤ b) := Lib.hid (fun b hb => Nat.le_trans XV.out.size (gn b hb)); have LN := Lib.hid qn.lt; replace X := Lib.hid (X.out.trans hxn); replace XV := Lib.hid (XV.out.trans hxn); replace QA := Lib.hid (QA.out.ext hxn); replace QE0 := Lib.hid (QE0.out.ext hxn); replace QR := Lib.hid (QR.out.ext hxn); clear hxn qa qe0; clear qn hfn gn; simp only [cellsNodesOut]; rw [HC.out]))
      have HCI : Hid (I64 c) := Lib.hid (by rw [← HC.out]; exact HFN.out)
      obtain ⟨WN, BN, hWN, hBN, hxN, bN⟩ : ∃ V B, V = wn.alloc (.cells #[.slice pn x.nodes.length kn, .int .i64 c] 114) ∧ B = wn.heap.size ∧ Ext wn V ∧ Blk V B 114 #[.slice pn x.nodes.length kn, .int .i64 c] := ⟨_, _, rfl, rfl, (Ext.refl wn).alloc _, Blk.new _ _ _⟩
      rw [← hWN, ← hBN]
      have QN := Lib.hid bN
      have XN := Lib.hid hxN
      clear hWN hBN bN hxN
      replace X := Lib.hid (X.out.trans XN.out)
      replace XV := Lib.hid (XV.out.trans XN.out)
      replace QA := Lib.hid (QA.out.ext XN.out)
      replace QR := Lib.hid (QR.out.ext XN.out)
      have qn := QN.out.cell
      go_upto_region 5 with (fail)
      clear hz
      go_wp2_with (first | (go_at_call 52; (with_reducible refine (l13IllT_any _ _).mono ?_); rintro e w8 ⟨rfl, hx8⟩; have H8 := Lib.hid hx8; clear hx8) | refine wpList_store_mid rfl 46 _ _ rfl (B + 1 + 1) 0 #[.slice none 0 0, .slice none 0 0, .slice none 0 0, .int .i64 0, .slice none 0 0, .slice none 0 0, .slice none 0 0, .int .i64 0, .int .i64 0, .int .i64 c] rfl rfl (Blk.there (t := 46) (cs := #[.slice none 0 0, .slice none 0 0, .slice none 0 0, .int .i64 0, .slice none 0 0, .slice none 0 0, .slice none 0 0, .int .i64 0, .int .i64 0, .int .i64 0]) (QR.out.ext H8.out)) (by kernel_rfl) (all_oneCell_toArray (cs := [.slice none 0 0, .slice none 0 0, .slice none 0 0, .int .i64 0, .slice none 0 0, .slice none 0 0, .slice none 0 0, .int .i64 0, .int .i64 0, .int .i64 c]) (by simp [Value.oneCell'])) ?_)
      exact bodyPost_ret (v := .agg #[.slice none 0 0, .slice none 0 0, .slice none 0 0, .int .i64 0, .slice none 0 0, .slice none 0 0, .slice none 0 0, .int .i64 0, .int .i64 0, .int .i64 c]) (results_blk Tryz.results35 rfl (Blk.setAll (t := 46) (cs := #[.slice none 0 0, .slice none 0 0, .slice none 0 0, .int .i64 0, .slice none 0 0, .slice none 0 0, .slice none 0 0, .int .i64 0, .int .i64 0, .int .i64 0]) (vs := #[.slice none 0 0, .slice none 0 0, .slice none 0 0, .int .i64 0, .slice none 0 0, .slice none 0 0, .slice none 0 0, .int .i64 0, .int .i64 0, .int .i64 c]) (QR.out.ext H8.out) rfl) Tryz.underlying46 rfl (by kernel_rfl)) rfl ⟨_, [], rfl, by rw [HE.out]; exact own_ill _ _ (by exact HCI.out), fun b hb => absurd hb (by simp), setCells_ext HB.out _ _ _ (X.out.trans H8.out)⟩
    case pos =>
      subst hz
      have HE : Hid (nodeY y x = ⟨withN y x.nodes, 0, 0⟩) := Lib.hid (nodeY_done T.out HC.out)
      have HFW := Lib.hid (few_yard T.out)
      go_upto_region 4 with (first | (go_at_call 82; (with_reducible refine (specYardRight_is (S := S) y _ _ (rel_Yard HF.out (H1.out.ext X.out) (H2.out.ext X.out) (H3.out.ext X.out) (H4.out.ext X.out) (H5.out.ext X.out) (H6.out.ext X.out)) _ T.out).mono ?_); rintro e w7 ⟨rfl, hx7⟩; replace X := Lib.hid (X.out.trans hx7); replace XV := Lib.hid (XV.out.trans hx7); replace QA := Lib.hid (QA.out.ext hx7); replace QE0 := Lib.hid (QE0.out.ext hx7); replace QR := Lib.hid (QR.out.ext hx7); clear hx7 qa qe0; have qa := QA.out.cell; have qe0 := QE0.out.cell) | (go_at_call 93; (with_reducible refine (specBookPut_any (S := S) y.nodes n sp y.now _ _ (H4.out.ext X.out) HSP.out).mono ?_); rw [HX.out]; rintro e wn ⟨csn, FN, rfl, ⟨un, rfl, hfn, qn⟩, gn, hxn⟩; obtain ⟨pn, kn, rfl, -⟩ := OwS.form qn; have QX := Lib.hid qn; have HFN : Hid (FitNodesOut x) := Lib.hid hfn; have GN : Hid (∀ b ∈ FN, W.heap.size ≤ b) := Lib.hid (fun b hb => Nat.le_trans XV.out.size (gn b hb)); have LN := Lib.hid qn.lt; replace X := Lib.hid (X.out.trans hxn); replace XV := Lib.hid (XV.out.trans hxn); replace QA := Lib.hid (QA.out.ext hxn); replace QE0 := Lib.hid (QE0.out.ext hxn); replace QR := Lib.hid (QR.out.ext hxn); clear hxn qa qe0; clear qn hfn gn; simp only [cellsNodesOut]; rw [HC.out]))
      obtain ⟨WN, BN, hWN, hBN, hxN, bN⟩ : ∃ V B, V = wn.alloc (.cells #[.slice pn x.nodes.length kn, .int .i64 0] 114) ∧ B = wn.heap.size ∧ Ext wn V ∧ Blk V B 114 #[.slice pn x.nodes.length kn, .int .i64 0] := ⟨_, _, rfl, rfl, (Ext.refl wn).alloc _, Blk.new _ _ _⟩
      rw [← hWN, ← hBN]
      have QN := Lib.hid bN
      have XN := Lib.hid hxN
      clear hWN hBN bN hxN
      replace X := Lib.hid (X.out.trans XN.out)
      replace XV := Lib.hid (XV.out.trans XN.out)
      replace QA := Lib.hid (QA.out.ext XN.out)
      replace QR := Lib.hid (QR.out.ext XN.out)
      have qa := QA.out.cell
      have qn := QN.out.cell
      go_upto_region 7 with ((go_at_call 84; (with_reducible refine (l13Copy_own (S := S) y _ _ (rel_Yard HF.out (H1.out.ext X.out) (H2.out.ext X.out) (H3.out.ext X.out) (H4.out.ext X.out) (H5.out.ext X.out) (H6.out.ext X.out)) HFW.out).mono ?_); rintro e w9 ⟨cs9, G9, rfl, ⟨u1, u2, u3, u4, u5, u6, G1, G2, G3, G4, G5, G6, rfl, -, o1, o2, o3, o4, o5, o6, hG, hn⟩, g9, hx9⟩; obtain ⟨p1, k1, rfl, -⟩ := OwS.form o1; obtain ⟨p2, k2, rfl, -⟩ := OwS.form o2; obtain ⟨p3, k3, rfl, -⟩ := OwS.form o3; obtain ⟨p4, k4, rfl, -⟩ := OwS.form o4; obtain ⟨p5, k5, rfl, -⟩ := OwS.form o5; obtain ⟨p6, k6, rfl, -⟩ := OwS.form o6; have O1 := Lib.hid o1; have O2 := Lib.hid o2; have O3 := Lib.hid o3; have O4 := Lib.hid o4; have O5 := Lib.hid o5; have O6 := Lib.hid o6; have HG := Lib.hid hG; have HN := Lib.hid hn; have Z9 := Lib.hid g9; have H9 := Lib.hid hx9; clear o1 o2 o3 o4 o5 o6 hG hn g9 hx9 qa; simp only [cellsYard]))
      clear qn
      have qn9 := fun ob : Obj => (QN.out.ext (H9.out.trans ((Ext.refl w9).alloc ob))).cell
      go_upto_region 8 with (fail)
      clear qn9
      obtain ⟨W9, B9, hW9, hB9, hx9, b9⟩ : ∃ W B, W = w9.alloc (.cells #[.slice p1 y.config.nodes.length k1, .slice p2 y.config.pairs.length k2, .slice p3 y.config.quotas.length k3, .int .i64 y.config.half, .slice pn x.nodes.length kn, .slice p5 y.tasks.length k5, .slice p6 y.uses.length k6, .int .i64 y.now] 44) ∧ B = w9.heap.size ∧ Ext w9 W ∧ Blk W B 44 #[.slice p1 y.config.nodes.length k1, .slice p2 y.config.pairs.length k2, .slice p3 y.config.quotas.length k3, .int .i64 y.config.half, .slice pn x.nodes.length kn, .slice p5 y.tasks.length k5, .slice p6 y.uses.length k6, .int .i64 y.now] := ⟨_, _, rfl, rfl, (Ext.refl w9).alloc _, Blk.new _ _ _⟩
      rw [← hW9, ← hB9]
      have Q9 := Lib.hid b9
      have XO := Lib.hid hx9
      clear hW9 hB9 hx9 b9
      have RO := Lib.hid (QR.out.ext (H9.out.trans XO.out))
      have GE : Hid (∀ b ∈ G1 ++ (G2 ++ (G3 ++ (G4 ++ (G5 ++ G6)))), WN.heap.size ≤ b) := Lib.hid (by rw [← HG.out]; exact Z9.out)
      have q9 := Q9.out.cell
      go_wp2_with (refine wpList_store_mid rfl 46 _ _ rfl (B + 1 + 1) 0 (List.toArray [.slice p1 y.config.nodes.length k1, .slice p2 y.config.pairs.length k2, .slice p3 y.config.quotas.length k3, .int .i64 y.config.half, .slice pn x.nodes.length kn, .slice p5 y.tasks.length k5, .slice p6 y.uses.length k6, .int .i64 y.now, .int .i64 0, .int .i64 0]) rfl rfl (Blk.there (t := 46) (cs := #[.slice none 0 0, .slice none 0 0, .slice none 0 0, .int .i64 0, .slice none 0 0, .slice none 0 0, .slice none 0 0, .int .i64 0, .int .i64 0, .int .i64 0]) RO.out) (by kernel_rfl) (all_oneCell_toArray (cs := [.slice p1 y.config.nodes.length k1, .slice p2 y.config.pairs.length k2, .slice p3 y.config.quotas.length k3, .int .i64 y.config.half, .slice pn x.nodes.length kn, .slice p5 y.tasks.length k5, .slice p6 y.uses.length k6, .int .i64 y.now, .int .i64 0, .int .i64 0]) (by simp [Value.oneCell'])) ?_)
      have OW := own_put4 (a := WN.heap.size) HF.out (O1.out.ext XO.out) (O2.out.ext XO.out) (O3.out.ext XO.out) (O5.out.ext XO.out) (O6.out.ext XO.out) (QX.out.ext (XN.out.trans (H9.out.trans XO.out))) (by rw [← HG.out]; exact HN.out) (fun b hb => Nat.lt_of_lt_of_le (LN.out b hb) XN.out.size) GE.out
      have szR := QR.out.lt
      have szX := XV.out.size
      have szN := XN.out.size
      have all : ∀ b ∈ G1 ++ (G2 ++ (G3 ++ (FN ++ (G5 ++ G6)))), W.heap.size ≤ b := fun b hb => by
        simp only [List.mem_append] at hb
        have ge := fun h => GE.out b h
        simp only [List.mem_append] at ge
        rcases hb with h | h | h | h | h | h
        · have := ge (by simp [h]); omega
        · have := ge (by simp [h]); omega
        · have := ge (by simp [h]); omega
        · exact GN.out b h
        · have := ge (by simp [h]); omega
        · have := ge (by simp [h]); omega
      exact bodyPost_ret (v := .agg (List.toArray [.slice p1 y.config.nodes.length k1, .slice p2 y.config.pairs.length k2, .slice p3 y.config.quotas.length k3, .int .i64 y.config.half, .slice pn x.nodes.length kn, .slice p5 y.tasks.length k5, .slice p6 y.uses.length k6, .int .i64 y.now, .int .i64 0, .int .i64 0])) (results_blk Tryz.results35 rfl (Blk.setAll (t := 46) (cs := #[.slice none 0 0, .slice none 0 0, .slice none 0 0, .int .i64 0, .slice none 0 0, .slice none 0 0, .slice none 0 0, .int .i64 0, .int .i64 0, .int .i64 0]) (vs := List.toArray [.slice p1 y.config.nodes.length k1, .slice p2 y.config.pairs.length k2, .slice p3 y.config.quotas.length k3, .int .i64 y.config.half, .slice pn x.nodes.length kn, .slice p5 y.tasks.length k5, .slice p6 y.uses.length k6, .int .i64 y.now, .int .i64 0, .int .i64 0]) RO.out rfl) Tryz.underlying46 rfl (by kernel_rfl)) rfl
        ⟨_, G1 ++ (G2 ++ (G3 ++ (FN ++ (G5 ++ G6)))), rfl, by rw [HE.out]; exact ownk (own_out (y := withN y x.nodes) OW) (Kept.setCells (F := [B + 1 + 1]) (by simp) _ _ _ (Kept.refl _ _)) (fun b hb hm => by have := all b hb; have := List.mem_singleton.1 hm; have := HLT.out; omega),
          fun b hb => Nat.le_trans HXW.out.size (all b hb),
          setCells_ext HB.out _ _ _ (X.out.trans (H9.out.trans XO.out))⟩
end Go.Proofs.YtngldifgcgblpaaGreat
namespace Go.Proofs.YtngldifgcgblpaaGreat
open Go.RowKit
attribute [local irreducible] wpQuiet
theorem caps_three (v a b c : Value) : (#[v] ++ #[a, b, c] : Array Value) = #[v, a, b, c] := rfl
theorem call_Book1 : ∀ (args : Array Value) (W : World), (callFunc 94 args).run Tryz.prog W = .ok (.enter 94 args) W := by
  intro args W
  go_simp
set_option maxHeartbeats 8000000 in
set_option maxRecDepth 100000 in
theorem book1_any {S : Nat → Prop} (l : List Node) (n : Int) (sp : Span) (now : Int) (v : Value) (B1 B2 B3 : Nat) (w : World) (h : Rd ENode S w v l) (hp : w.cell? ⟨B1, 0, none⟩ = some (.int .i64 n)) (hq1 : w.cell? ⟨B2, 0, none⟩ = some (.int .i64 sp.from_)) (hq2 : w.cell? ⟨B2, 1, none⟩ = some (.int .i64 sp.to_)) (hy : w.cell? ⟨B3, 7, none⟩ = some (.int .i64 now)) (hsp : FitSpan sp) :
    Calls Tryz.prog 94 #[v, .pointer (some ⟨B1, 0, none⟩), .pointer (some ⟨B2, 0, none⟩), .pointer (some ⟨B3, 0, none⟩)] w (RetOS ONodesOut (bookPut l n sp now) w) := by
  obtain ⟨A, c, rfl, -⟩ := h.form
  have HR := Lib.hid h
  have HSP := Lib.hid hsp
  clear hsp
  obtain ⟨m, hm⟩ : ∃ m, bookPut l n sp now = m := ⟨_, rfl⟩
  rw [hm]
  have HM := Lib.hid hm
  clear hm h
  go_enter Tryz.func94, Tryz.ntmps94
  go_upto_region 1 with (fail)
  obtain ⟨W, B, hW, hB, hx0, r0⟩ : ∃ W B, W = w.alloc (.cells #[.slice none 0 0, .int .i64 0] 114) ∧ B = w.heap.size ∧ Ext w W ∧ Blk W B 114 #[.slice none 0 0, .int .i64 0] := ⟨_, _, rfl, rfl, (Ext.refl w).alloc _, Blk.new _ _ _⟩
  rw [← hW, ← hB]
  have HB : Hid (w.heap.size ≤ B) := Lib.hid (by omega)
  have R := Lib.hid r0
  have X := Lib.hid hx0
  have g_hp := Ext.some hx0 hp
  have g_hq1 := Ext.some hx0 hq1
  have g_hq2 := Ext.some hx0 hq2
  have g_hy := Ext.some hx0 hy
  clear hW hB hx0 r0 hp hq1 hq2 hy 
  go_wp2_with (first
    | (go_at_call 95; (with_reducible refine (bookPut_any (S := S) l n sp now _ _ (HR.out.ext X.out) HSP.out).mono ?_); rw [HM.out]; rintro e w8 ⟨cs8, F8, rfl, ⟨u8, rfl, ft8, q8⟩, g8, hx8⟩; obtain ⟨p8, k8, rfl, -⟩ := OwS.form q8; have Q8 := Lib.hid q8; have FT := Lib.hid ft8; have G8 := Lib.hid g8; have H8 := Lib.hid hx8; clear q8 ft8 g8 hx8 g_hp g_hq1 g_hq2 g_hy; simp only [cellsNodesOut])
    | refine wpList_store_mid rfl 114 _ _ rfl B 0 (List.toArray [.slice p8 m.nodes.length k8, .int .i64 m.code]) rfl rfl (Blk.there (t := 114) (cs := #[.slice none 0 0, .int .i64 0]) (R.out.ext H8.out)) (by kernel_rfl) (all_oneCell_toArray (cs := [.slice p8 m.nodes.length k8, .int .i64 m.code]) (by simp [Value.oneCell'])) ?_)
  exact bodyPost_ret (v := .agg (List.toArray [.slice p8 m.nodes.length k8, .int .i64 m.code])) (results_blk Tryz.results94 rfl (Blk.setAll (t := 114) (cs := #[.slice none 0 0, .int .i64 0]) (vs := List.toArray [.slice p8 m.nodes.length k8, .int .i64 m.code]) (R.out.ext H8.out) rfl) Tryz.underlying114 rfl (by kernel_rfl)) rfl
    ⟨_, F8, rfl, ownk (O := ONodesOut) ⟨_, rfl, FT.out, Q8.out⟩ (Kept.setCells (F := [B]) (by simp) _ _ _ (Kept.refl _ _)) (fun b hb hm => by have := G8.out b hb; have := R.out.lt; have := List.mem_singleton.1 hm; omega), fun b hb => Nat.le_trans X.out.size (G8.out b hb), setCells_ext HB.out _ _ _ (X.out.trans H8.out)⟩
set_option maxHeartbeats 8000000 in
set_option maxRecDepth 100000 in
theorem yardBook_any {S : Nat → Prop} (y : Yard) (n : Int) (sp : Span) (cs : List Value) (w : World) (h : EYard.rel S w cs y) (hsp : FitSpan sp) :
    Calls Tryz.prog 37 #[.agg cs.toArray, .int .i64 n, .agg #[.int .i64 sp.from_, .int .i64 sp.to_]] w (RetOS OYardOut (nodeY y (bookPut y.nodes n sp y.now)) w) := by
  obtain ⟨v1, v2, v3, v4, v5, v6, rfl, hf, h1, h2, h3, h4, h5, h6⟩ := h
  obtain ⟨A1, c1, rfl, -⟩ := h1.form
  obtain ⟨A2, c2, rfl, -⟩ := h2.form
  obtain ⟨A3, c3, rfl, -⟩ := h3.form
  obtain ⟨A4, c4, rfl, -⟩ := h4.form
  obtain ⟨A5, c5, rfl, -⟩ := h5.form
  obtain ⟨A6, c6, rfl, -⟩ := h6.form
  have HF := Lib.hid hf
  have HFC : Hid (FitConfig y.config) := Lib.hid hf.1
  have H1 := Lib.hid h1
  have H2 := Lib.hid h2
  have H3 := Lib.hid h3
  have H4 := Lib.hid h4
  have H5 := Lib.hid h5
  have H6 := Lib.hid h6
  clear hf h1 h2 h3 h4 h5 h6
  simp only [cellsYard]
  have HSP := Lib.hid hsp
  clear hsp
  have XID : ∀ V : World, Hid (Ext V V) := fun V => Lib.hid (Ext.refl V)
  obtain ⟨m, hm⟩ : ∃ m, nodeY y (bookPut y.nodes n sp y.now) = m := ⟨_, rfl⟩
  rw [hm]
  have HME := Lib.hid hm
  clear hm
  go_enter Tryz.func37, Tryz.ntmps37
  go_upto_region 1 with (fail)
  obtain ⟨W, B, hW, hB, hx0, a0, b0, d0, r0⟩ := boxes4 w #[.slice A1 y.config.nodes.length c1, .slice A2 y.config.pairs.length c2, .slice A3 y.config.quotas.length c3, .int .i64 y.config.half, .slice A4 y.nodes.length c4, .slice A5 y.tasks.length c5, .slice A6 y.uses.length c6, .int .i64 y.now] #[.int .i64 n] #[.int .i64 sp.from_, .int .i64 sp.to_] #[.slice none 0 0, .slice none 0 0, .slice none 0 0, .int .i64 0, .slice none 0 0, .slice none 0 0, .slice none 0 0, .int .i64 0, .int .i64 0, .int .i64 0] 44 2 63 46
  rw [← hW, ← hB]
  have HB : Hid (w.heap.size ≤ B + 1 + 1 + 1) := Lib.hid (by omega)
  have QA := Lib.hid a0
  have QB := Lib.hid b0
  have QD := Lib.hid d0
  have QR := Lib.hid r0
  have X := Lib.hid hx0
  clear hW hB hx0 a0 b0 d0 r0
  have qa := QA.out.cell
  have qb := QB.out.cell
  have HCL : Hid (∀ (v : Value) (V : World), Ext W V → Rd ENode S V v y.nodes → Calls Tryz.prog 94 (#[v] ++ #[.pointer (some ⟨B + 1, 0, none⟩), .pointer (some ⟨B + 1 + 1, 0, none⟩), .pointer (some ⟨B, 0, none⟩)]) V (RetOS ONodesOut (bookPut y.nodes n sp y.now) V)) := Lib.hid (fun v V hV hr => by rw [caps_three]; exact book1_any (S := S) y.nodes n sp y.now v _ _ _ V hr ((QB.out.ext hV).cell 0) ((QD.out.ext hV).cell 0) ((QD.out.ext hV).cell 1) ((QA.out.ext hV).cell 7) HSP.out)
  go_wp2_with (first
    | (go_at_call 85; (with_reducible refine (withNodes_any (S := S) y _ (bookPut y.nodes n sp y.now) 94 #[.pointer (some ⟨B + 1, 0, none⟩), .pointer (some ⟨B + 1 + 1, 0, none⟩), .pointer (some ⟨B, 0, none⟩)] _ (rel_Yard HF.out (H1.out.ext X.out) (H2.out.ext X.out) (H3.out.ext X.out) (H4.out.ext X.out) (H5.out.ext X.out) (H6.out.ext X.out)) call_Book1 HCL.out).mono ?_); rw [HME.out]; rintro e w8 ⟨cs8, F8, rfl, o8, g8, hx8⟩; obtain ⟨u1, u2, u3, u4, u5, u6, F1, F2, F3, F4, F5, F6, rfl, f8, o1, o2, o3, o4, o5, o6, hF8, hn8⟩ := id o8; obtain ⟨P1, K1, rfl, -⟩ := OwS.form o1; obtain ⟨P2, K2, rfl, -⟩ := OwS.form o2; obtain ⟨P3, K3, rfl, -⟩ := OwS.form o3; obtain ⟨P4, K4, rfl, -⟩ := OwS.form o4; obtain ⟨P5, K5, rfl, -⟩ := OwS.form o5; obtain ⟨P6, K6, rfl, -⟩ := OwS.form o6; have O8 := Lib.hid o8; have G8 := Lib.hid g8; have H8 := Lib.hid hx8; have R8 := Lib.hid (QR.out.ext hx8); clear o8 g8 hx8 f8 o1 o2 o3 o4 o5 o6 hF8 hn8 qa qb; simp only [cellsYardOut])
    | refine wpList_store_mid rfl 46 _ _ rfl (B + 1 + 1 + 1) 0 (List.toArray [.slice P1 m.yard.config.nodes.length K1, .slice P2 m.yard.config.pairs.length K2, .slice P3 m.yard.config.quotas.length K3, .int .i64 m.yard.config.half, .slice P4 m.yard.nodes.length K4, .slice P5 m.yard.tasks.length K5, .slice P6 m.yard.uses.length K6, .int .i64 m.yard.now, .int .i64 m.id, .int .i64 m.code]) rfl rfl (Blk.there (t := 46) (cs := #[.slice none 0 0, .slice none 0 0, .slice none 0 0, .int .i64 0, .slice none 0 0, .slice none 0 0, .slice none 0 0, .int .i64 0, .int .i64 0, .int .i64 0]) R8.out) (by kernel_rfl) (all_oneCell_toArray (cs := [.slice P1 m.yard.config.nodes.length K1, .slice P2 m.yard.config.pairs.length K2, .slice P3 m.yard.config.quotas.length K3, .int .i64 m.yard.config.half, .slice P4 m.yard.nodes.length K4, .slice P5 m.yard.tasks.length K5, .slice P6 m.yard.uses.length K6, .int .i64 m.yard.now, .int .i64 m.id, .int .i64 m.code]) (by simp [Value.oneCell'])) ?_)
  exact bodyPost_ret (v := .agg (List.toArray [.slice P1 m.yard.config.nodes.length K1, .slice P2 m.yard.config.pairs.length K2, .slice P3 m.yard.config.quotas.length K3, .int .i64 m.yard.config.half, .slice P4 m.yard.nodes.length K4, .slice P5 m.yard.tasks.length K5, .slice P6 m.yard.uses.length K6, .int .i64 m.yard.now, .int .i64 m.id, .int .i64 m.code])) (results_blk Tryz.results37 rfl (Blk.setAll (t := 46) (cs := #[.slice none 0 0, .slice none 0 0, .slice none 0 0, .int .i64 0, .slice none 0 0, .slice none 0 0, .slice none 0 0, .int .i64 0, .int .i64 0, .int .i64 0]) (vs := List.toArray [.slice P1 m.yard.config.nodes.length K1, .slice P2 m.yard.config.pairs.length K2, .slice P3 m.yard.config.quotas.length K3, .int .i64 m.yard.config.half, .slice P4 m.yard.nodes.length K4, .slice P5 m.yard.tasks.length K5, .slice P6 m.yard.uses.length K6, .int .i64 m.yard.now, .int .i64 m.id, .int .i64 m.code]) R8.out rfl) Tryz.underlying46 rfl (by kernel_rfl)) rfl
    ⟨_, F8, rfl, ownk O8.out (Kept.setCells (F := [B + 1 + 1 + 1]) (by simp) _ _ _ (Kept.refl _ _)) (fun b hb hm => by have := G8.out b hb; have := QR.out.lt; have := (XID W).out.size; have := List.mem_singleton.1 hm; omega), fun b hb => Nat.le_trans (Nat.le_trans X.out.size (XID W).out.size) (G8.out b hb), setCells_ext HB.out _ _ _ (X.out.trans ((XID W).out.trans H8.out))⟩
end Go.Proofs.YtngldifgcgblpaaGreat
