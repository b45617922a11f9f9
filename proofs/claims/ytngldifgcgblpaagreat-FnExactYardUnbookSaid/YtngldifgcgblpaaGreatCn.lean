/- What the laws YardUnbook need, and no others. Laid by wip/split.py. -/
import Derived.Test.YtngldifgcgblpaaGreatNodes
import Derived.Test.YtngldifgcgblpaaGreatOwn2
import Derived.Test.YtngldifgcgblpaaGreatClones
import Derived.Deep.RegionHeld3
import Derived.Test.YtngldifgcgblpaaGreatNodeC
import Derived.Test.YtngldifgcgblpaaGreatOrdU
import Derived.Test.YtngldifgcgblpaaGreatShelf
import Derived.Shelf.Spec.SlicesInsertGrow
import Derived.Test.YtngldifgcgblpaaGreatInsSpan
import Derived.Test.YtngldifgcgblpaaGreatYardLb
import Derived.Test.YtngldifgcgblpaaGreatPut
import Derived.Deep.RegionLaw
import Derived.Test.YtngldifgcgblpaaGreatCounts
import Derived.Test.YtngldifgcgblpaaGreatYardTs
import Derived.Test.YtngldifgcgblpaaGreatYardUi
import Derived.Test.YtngldifgcgblpaaGreatCe
import Derived.Test.YtngldifgcgblpaaGreatCf
namespace Go.Proofs.YtngldifgcgblpaaGreat
open Go.RowKit
def bookAt (l : List Span) (from_ : Int) : Int := idxOf (fun x => decide (x.from_ = from_)) l
def bookCut (l : List Node) (n from_ : Int) : NodesOut :=
  if 400 < l.length then ⟨[], 2⟩ else if nodesRight l = false then ⟨[], 1⟩ else if isNode l n = false then ⟨[], 6⟩ else if bookAt (nth l n.toNat).books from_ < 0 then ⟨[], 6⟩
  else ⟨l.set n.toNat { nth l n.toNat with books := (nth l n.toNat).books.filter fun x => !decide (x.from_ = from_) }, 0⟩
end Go.Proofs.YtngldifgcgblpaaGreat
namespace Go.Proofs.YtngldifgcgblpaaGreat
open Go.RowKit
attribute [local irreducible] wpQuiet
end Go.Proofs.YtngldifgcgblpaaGreat
namespace Go.Proofs.YtngldifgcgblpaaGreat
open Go.RowKit
attribute [local irreducible] wpQuiet
end Go.Proofs.YtngldifgcgblpaaGreat
namespace Go.Proofs.YtngldifgcgblpaaGreat
open Go.RowKit
attribute [local irreducible] wpQuiet
theorem indexFunc_Span_1 {S : Nat → Prop} (l : List Span) (p : Span → Bool) (v : Value) (f : Nat) (c1 : Value) (w : World) (h : Rd ESpan S w v l) (hcall : ∀ (args : Array Value) (W : World), (callFunc f args).run Tryz.prog W = .ok (.enter f args) W)
    (hf : ∀ (cs : List Value) (x : Span) (w1 : World), Ext w w1 → ESpan.rel S w1 cs x → Calls Tryz.prog f #[.agg cs.toArray, c1] w1 fun e w' => e = .returned (.bool (p x)) ∧ Ext w1 w') :
    Calls Tryz.prog 173 #[v, .func (.func f) #[] #[c1]] w fun e w' => e = .returned (.int .i64 (idxOf p l)) ∧ Ext w w' :=
  indexFunc_Span l p v f #[c1] w h hcall fun cs x w1 hx hr => by rw [show (#[.agg cs.toArray] ++ #[c1] : Array Value) = #[.agg cs.toArray, c1] from rfl]; exact hf cs x w1 hx hr
theorem filter_take_yes {α : Type} [Inhabited α] {f : α → Bool} {l : List α} {k : Nat} (hk : k < l.length) (h : f (nth l k) = true) : (l.take (k + 1)).filter f = (l.take k).filter f ++ [nth l k] := by
  rw [take_succ_nth hk, List.filter_append]; simp [h]
theorem filter_take_no {α : Type} [Inhabited α] {f : α → Bool} {l : List α} {k : Nat} (hk : k < l.length) (h : f (nth l k) = false) : (l.take (k + 1)).filter f = (l.take k).filter f := by
  rw [take_succ_nth hk, List.filter_append]; simp [h]
theorem filter_all_nth {α : Type} [Inhabited α] {f : α → Bool} {l : List α} (h : ∀ j, j < l.length → f (nth l j) = true) : l.filter f = l := List.filter_eq_self.2 fun x hx => by
  obtain ⟨i, hi, rfl⟩ := List.getElem_of_mem hx
  have := h i hi
  rwa [nth_eq hi] at this
end Go.Proofs.YtngldifgcgblpaaGreat
namespace Go.Proofs.YtngldifgcgblpaaGreat
open Go.RowKit
attribute [local irreducible] wpQuiet
section
variable {α : Type} [Inhabited α] {E : Elem α} {T : TypeId} {w : World} {l ys : List α} {P : Program} {hfl : ∀ {S S' : Nat → Prop} {w w' : World} {cs x}, E.rel S w cs x → E.rel S' w' cs x}
/-- append(v, s...) in a slice that has room: it stays where it is. -/
theorem run_append_flat_room (t ty : TypeId) (i : TypeInfo) (z : Value) (ht : P.underlying t = some (.slice T)) (hi : P.info? T = some i) (hz : i.zero = some z) (hsz : i.size = E.size) (hzs : z.cells.size = E.size) {B cap : Nat} {F : List Nat} {S : Nat → Prop}
    (hown : OwS (OFlat E hfl) T w (.slice (some ⟨B, 0, none⟩) l.length cap) l F) (hcap : 0 < cap) (Bs os c : Nat) (hy : ∀ k, k < ys.length → ∃ cs, E.rel S w cs (nth ys k) ∧ w.rangeAt Bs (os + k * E.size) cs) (hroom : l.length + ys.length ≤ cap) (hs : cap ≤ maxLen) (hby : (l.length + ys.length) * i.bytes ≤ 140737488355328) :
    ∃ w' F', (Builtin.append_ #[t, t] ty #[.slice (some ⟨B, 0, none⟩) l.length cap, .slice (some ⟨Bs, os, none⟩) ys.length c]).run P w = .ok (.slice (some ⟨B, 0, none⟩) (l.length + ys.length) cap) w' ∧ OwS (OFlat E hfl) T w' (.slice (some ⟨B, 0, none⟩) (l.length + ys.length) cap) (l ++ ys) F' ∧ Kept F w w' ∧ (∀ b ∈ F', b ∈ F ∨ w.heap.size ≤ b) := by
  have hy' : ∀ k, k < ys.length → ∃ cs, (OFlat E hfl).own w cs (nth ys k) (nth (List.replicate ys.length []) k) ∧ w.rangeAt Bs (os + k * E.size) cs := fun k hk => by
    obtain ⟨cs, h1, h2⟩ := hy k hk
    exact ⟨cs, ⟨hfl h1, flat_list (α := α) hk⟩, h2⟩
  obtain ⟨v', w', F', hr, g2, g3, g4⟩ := run_append_ow (P := P) (Gs := List.replicate ys.length []) t ty i z ht hi hz hsz hzs hown Bs os c (by simp) hy' (by rw [flat_flatten, List.append_nil]; exact hown.nodup) (fun b hb => by rw [flat_flatten] at hb; cases hb) (Nat.le_trans hroom hs) hby
  rcases hown with ⟨_, _, A, hv⟩ | ⟨B', cap', C, Fs, hv, hB, h1, h2, h3, hl, _, _, hk⟩
  · injection hv with _ _ hh; omega
  · injection hv with e1 e2 e3
    cases e1
    subst e3
    obtain ⟨hnews, hone⟩ := rowOf_cell (cells_there_of hy')
    have hnl : (rowOf w Bs os (ys.length * E.size)).length = ys.length * i.size := by rw [rowOf_length, hsz]
    have hfit : l.length * i.size + (rowOf w Bs os (ys.length * E.size)).length ≤ C.size := by rw [hnl, h3, ← Nat.add_mul, hsz]; exact Nat.mul_le_mul_right _ hroom
    have hr2 := run_append_room (P := P) w t ty T i ht hi B l.length cap C hB ⟨Bs, os, none⟩ ys.length c _ hnl (fun j u hj => by rw [Addr.add_mid]; exact hnews j u hj) hone hroom hfit
    rw [hr] at hr2
    injection hr2 with e1 e2
    subst e1
    exact ⟨w', F', hr, g2, g3, fun b hb => by
      have := g4 b hb
      rw [flat_flatten] at this
      simpa using this⟩
theorem step_append_flat_room {ops : Array Oper} {o : Oper} {a : Act} {K : Act → World → Prop} {Q : Exit → Act → World → Prop} {X : Prop} (hgd : o.guard = none) (s x : Operand) (t : TypeId)
    (ho : o.op = .call { callee := .builtin .append, args := #[s, x], argTypes := #[t, t] })
    (z : Value) (size bytes : Nat) (ht : P.underlying t = some (.slice T)) (hi : (P.info? T).map (fun i => (i.zero, i.size, i.bytes)) = some (some z, size, bytes)) (hsz : size = E.size) (hzs : z.cells.size = E.size) {B cap n m : Nat} {F : List Nat} {S : Nat → Prop}
    (hn : l.length = n) (hm : ys.length = m) (hs : a.eval s = .slice (some ⟨B, 0, none⟩) n cap) (hown : OwS (OFlat E hfl) T w (.slice (some ⟨B, 0, none⟩) n cap) l F) (hcap : 0 < cap) (Bs os c : Nat) (hx : a.eval x = .slice (some ⟨Bs, os, none⟩) m c)
    (hy : ∀ k, k < m → ∃ cs, E.rel S w cs (nth ys k) ∧ w.rangeAt Bs (os + k * E.size) cs) (hroom : n + m ≤ cap) (hs' : cap ≤ maxLen) (hby : (n + m) * bytes ≤ 140737488355328)
    (h : ∀ w' F', OwS (OFlat E hfl) T w' (.slice (some ⟨B, 0, none⟩) (n + m) cap) (l ++ ys) F' → Kept F w w' → (∀ b ∈ F', b ∈ F ∨ w.heap.size ≤ b) → K (a.put o.dst (.slice (some ⟨B, 0, none⟩) (n + m) cap)) w') : if Region.wanted o (yielded ops a.tmps) = true then Oper.wp P o a w K Q else X := by
  have hw : Region.wanted o (yielded ops a.tmps) = true := by simp [Region.wanted, hgd]
  rw [if_pos hw]
  subst hn hm
  obtain ⟨i, h1, h2, h3, h4⟩ := info_parts hi
  obtain ⟨w', F', hr, g2, g3, g4⟩ := run_append_flat_room (P := P) t o.type i z ht h1 h2 (h3.trans hsz) hzs hown hcap Bs os c hy hroom hs' (by rw [h4]; exact hby)
  unfold Oper.wp execOp
  simp only [ho, resolve, invoke, builtin, Sem.run_bind, Sem.run_pure, Result.andThen_ok, List.map_toArray, List.map_cons, List.map_nil, hs, hx, hr]
  exact h w' F' g2 g3 g4
end
/-- The first elements of a row, when what stands behind them has been written. -/
theorem OwS.cut2 {α : Type} [Inhabited α] {E : Elem α} {hfl : ∀ {S S' : Nat → Prop} {w w' : World} {cs x}, E.rel S w cs x → E.rel S' w' cs x} {T : TypeId} {w w' : World} {l : List α} {B c m n : Nat} {F : List Nat}
    (h : OwS (OFlat E hfl) T w (.slice (some ⟨B, 0, none⟩) n c) l F) (hl : l.length = n) (hc : 0 < c) (hr : RowBut T B (n * E.size) m w w') : OwS (OFlat E hfl) T w' (.slice (some ⟨B, 0, none⟩) n c) l F := by
  subst hl
  rcases h with ⟨_, _, A, hv⟩ | ⟨B', c', C, Fs, hv, hB, h1, h2, h3, hlF, rfl, hnd, hall⟩
  · injection hv with _ _ hh; omega
  · cases hv
    obtain ⟨C0, C', g1, g2, g3, g4⟩ := hr
    rw [hB] at g1
    cases g1
    refine .inr ⟨B, c, C', Fs, rfl, g2, h1, h2, by rw [g3, h3], hlF, rfl, hnd, fun k hk => ?_⟩
    obtain ⟨cs, ho, hc'⟩ := hall k hk
    refine ⟨cs, ⟨hfl ho.1, ho.2⟩, fun i u hi => ?_⟩
    have hil : i < E.size := by have := (List.getElem?_eq_some_iff.1 hi).1; rwa [E.len ho.1] at this
    have hcell := hc' i u hi
    rw [cell_of_row w B _ C T (0, 0) hB] at hcell
    rw [cell_of_row w' B _ C' T (0, 0) g2, g4 _ (.inl (Nat.lt_of_lt_of_le (Nat.add_lt_add_left hil _) (by rw [← Nat.succ_mul]; exact Nat.mul_le_mul_right _ hk)))]
    exact hcell
set_option maxHeartbeats 8000000 in
set_option maxRecDepth 100000 in
theorem delete_Span (l : List Span) (k : Nat) (v : Value) (F : List Nat) (w : World) (h : OwS OSpan 63 w v l F) (hl : l.length ≤ 1000000) (hk : k < l.length) :
    Calls Tryz.prog 175 #[v, .int .i64 k, .int .i64 ((k : Int) + 1)] w fun e w' => ∃ v' F', e = .returned v' ∧ OwS OSpan 63 w' v' (l.eraseIdx k) F' ∧ (∀ b ∈ F', b ∈ F) ∧ Kept F w w' := by
  obtain ⟨A, c, rfl, h1, h2⟩ := h.form
  unfold maxLen at h2
  have HO := Lib.hid h
  obtain ⟨B, rfl⟩ : ∃ B, A = some ⟨B, 0, none⟩ := by
    rcases h with ⟨rfl, _⟩ | ⟨B, _, _, _, hv, _⟩
    · simp at hk
    · injection hv with e1; exact ⟨B, e1⟩
  clear h
  have i0 : (0 : Int) ≤ (k : Int) := Int.natCast_nonneg _
  have i1 : (k : Int) ≤ (l.length : Int) := by omega
  have i2 : (k : Int) + 1 ≤ (l.length : Int) := by omega
  have i3 : (k : Int) ≤ (k : Int) + 1 := by omega
  have i4 : ((k : Int) + 1).toNat = k + 1 := by omega
  have i5 : (l.length : Int) ≤ (c : Int) := by omega
  go_enter Tryz.func175, Tryz.ntmps175
  go_upto_region 5 with (fail)
  have i6 : (k : Int) ≤ (c : Int) := by omega
  have i7 : (k : Int) + 1 ≤ (c : Int) := by omega
  have i8 : (0 : Int) ≤ (k : Int) + 1 := by omega
  obtain ⟨F1, o1, f1⟩ := HO.out.take (n := k) (by omega) _ _ rfl
  have O1 := Lib.hid o1
  have HY : Hid (∀ j, j < l.length - (k + 1) → ∃ cs, ESpan.rel (fun b => b ∈ F) w cs (nth (l.drop (k + 1)) j) ∧ w.rangeAt B ((k + 1) * 2 + j * 2) cs) := Lib.hid fun j hj => by
    obtain ⟨A2, c2, hv2, _, _, hk2⟩ := HO.out.rd.open_
    obtain ⟨b, q, cs, hA2, _, hr2, hc2⟩ := hk2 (k + 1 + j) (by omega)
    injection hv2 with e1 e2 e3
    rw [← e1] at hA2
    cases hA2
    have e : nth (l.drop (k + 1)) j = nth l (k + 1 + j) := by rw [nth_eq (by rw [List.length_drop]; omega), nth_eq (by omega)]; simp
    rw [e]
    refine ⟨cs, hr2, ?_⟩
    have e2 : 0 + (k + 1 + j) * ESpan.size = (k + 1) * 2 + j * 2 := by simp [ESpan]; omega
    rwa [e2] at hc2
  have LT : Hid ((l.take k).length = k) := Lib.hid (by rw [List.length_take]; omega)
  have LD : Hid ((l.drop (k + 1)).length = l.length - (k + 1)) := Lib.hid (by rw [List.length_drop])
  clear o1
  have HC0 : Hid (0 < c) := Lib.hid (by omega)
  rcases Classical.em (c = k + 1) with rfl | hck
  · skip
    go_region_held3 (fun _ => True) (exact trivial) (first | (refine step_append_flat_room (E := ESpan) (T := 63) (hfl := fun h => h) (S := fun b => b ∈ F) (B := B) (cap := (k + 1)) (n := k) (m := 0) (F := F1) (l := l.take k) (ys := l.drop (k + 1)) (by rfl) _ _ 149 (by rfl) (.agg #[.int .i64 0, .int .i64 0]) 2 16 Tryz.underlying149 (by kernel_rfl) rfl rfl LT.out (by rw [LD.out]; omega) (by rfl) (O1.out.ext (by first | exact Ext.refl _ | exact (Ext.refl _).drew)) (by omega) B 0 0 (by rfl) (fun j hj => absurd hj (by omega)) (by omega) (by unfold maxLen; omega) (by omega) ?_; intro w1 F2 o2 k2 f2))
    have HO2 := Lib.hid o2
    have HK2 := Lib.hid k2
    have HF2 := Lib.hid f2
    clear o2 k2 f2
    have hlen : k + 0 = k := by omega
    have HO3 : Hid (OwS OSpan 63 w1 (.slice (some ⟨B, 0, none⟩) k (k + 1)) (l.take k ++ l.drop (k + 1)) F2) := Lib.hid (by have := HO2.out; rwa [hlen] at this)
    have HLA : Hid ((l.take k ++ l.drop (k + 1)).length = k) := Lib.hid (by rw [List.length_append, LT.out, LD.out]; omega)
    obtain ⟨C, hC, hCs⟩ : ∃ C : Array Value, w1.heap[B]? = some (.cells C 63 (0, 0)) ∧ C.size = (k + 1) * 2 := by
      rcases HO3.out with ⟨_, _, A', hv⟩ | ⟨B', c', C, Fs, hv, hB, _, _, h3, _⟩
      · injection hv with _ _ hh; omega
      · injection hv with e1 e2 e3; cases e1; subst e3; exact ⟨C, hB, by simpa [ESpan] using h3⟩
    have HBF : Hid (B ∈ F2) := Lib.hid (by
      rcases HO3.out with ⟨_, _, A', hv⟩ | ⟨B', c', C, Fs, hv, _, _, _, _, _, rfl, _⟩
      · injection hv with _ _ hh; omega
      · injection hv with e1 e2 e3; cases e1; exact List.mem_cons_self ..)
    have HTH : Hid (w1.there B (k * 2) 2) := Lib.hid (cells_there hC (by rw [hCs]; omega))
    have HRW : Hid (RowBut 63 B (k * 2) 2 w1 (w1.setCells B (k * 2) (Builtin.zeroCells (Value.agg #[.int .i64 0, .int .i64 0]).cells 1).toList)) := Lib.hid (RowBut.setCells _ _ _ (RowBut.refl hC) (Nat.le_refl _) (by rw [(zero_spans _).1]; exact Nat.le_refl _))
    have hclr := run_clear_row (P := Tryz.prog) w1 149 63 0 (.agg #[.int .i64 0, .int .i64 0]) 1 Tryz.underlying149 (by intro w; go_simp) (zero_spans _).2 B (k * 2) 1 (by omega) (by rw [(zero_spans _).1]; exact HTH.out)
    rw [hlen]
    have j1 : (k : Int) ≤ (l.length : Int) := by omega
    have j2 : (0 : Int) ≤ (k : Int) := Int.natCast_nonneg _
    have j3 : l.length - k = 1 := by omega
    have j4 : ¬ (k + 1) = k := by omega
    clear hC hCs i0 i1 i2 i3 i4 i6 i7 i8 hlen
    go_wp2_with fail
    go_ret
    have hE : l.take k ++ l.drop (k + 1) = l.eraseIdx k := (List.eraseIdx_eq_take_drop_succ ..).symm
    exact ⟨_, F2, rfl, by rw [← hE]; exact OwS.cut2 HO3.out HLA.out HC0.out HRW.out, fun b hb => by rw [HO3.out.flat_blocks HC0.out] at hb; rw [HO.out.flat_blocks HC0.out]; exact hb, (Kept.trans (Kept.of_ext (Ext.refl _).drew) (HK2.out.sub fun b _ hb => f1 b hb)).trans (Kept.setCells (by rw [HO.out.flat_blocks HC0.out]; simp) _ _ _ (Kept.refl _ _))⟩
  · skip
    go_region_held3 (fun _ => True) (exact trivial) (first | (refine step_append_flat_room (E := ESpan) (T := 63) (hfl := fun h => h) (S := fun b => b ∈ F) (B := B) (cap := c) (n := k) (m := l.length - (k + 1)) (F := F1) (l := l.take k) (ys := l.drop (k + 1)) (by rfl) _ _ 149 (by rfl) (.agg #[.int .i64 0, .int .i64 0]) 2 16 Tryz.underlying149 (by kernel_rfl) rfl rfl LT.out LD.out (by rfl) (O1.out.ext (by first | exact Ext.refl _ | exact (Ext.refl _).drew)) (by omega) B ((k + 1) * 2) (c - (k + 1)) (by rfl) (by first | exact HY.out | exact fun j hj => (let ⟨cs, a, b⟩ := HY.out j hj; ⟨cs, ESpan.keep ((Ext.refl _).drew.same _) a, (Ext.refl _).drew.range b⟩)) (by omega) (by unfold maxLen; omega) (by omega) ?_; intro w1 F2 o2 k2 f2))
    have HO2 := Lib.hid o2
    have HK2 := Lib.hid k2
    have HF2 := Lib.hid f2
    clear o2 k2 f2
    have hlen : k + (l.length - (k + 1)) = l.length - 1 := by omega
    have HO3 : Hid (OwS OSpan 63 w1 (.slice (some ⟨B, 0, none⟩) (l.length - 1) c) (l.take k ++ l.drop (k + 1)) F2) := Lib.hid (by have := HO2.out; rwa [hlen] at this)
    have HLA : Hid ((l.take k ++ l.drop (k + 1)).length = l.length - 1) := Lib.hid (by rw [List.length_append, LT.out, LD.out]; omega)
    obtain ⟨C, hC, hCs⟩ : ∃ C : Array Value, w1.heap[B]? = some (.cells C 63 (0, 0)) ∧ C.size = c * 2 := by
      rcases HO3.out with ⟨_, _, A', hv⟩ | ⟨B', c', C, Fs, hv, hB, _, _, h3, _⟩
      · injection hv with _ _ hh; omega
      · injection hv with e1 e2 e3; cases e1; subst e3; exact ⟨C, hB, by simpa [ESpan] using h3⟩
    have HBF : Hid (B ∈ F2) := Lib.hid (by
      rcases HO3.out with ⟨_, _, A', hv⟩ | ⟨B', c', C, Fs, hv, _, _, _, _, _, rfl, _⟩
      · injection hv with _ _ hh; omega
      · injection hv with e1 e2 e3; cases e1; exact List.mem_cons_self ..)
    have HTH : Hid (w1.there B ((l.length - 1) * 2) 2) := Lib.hid (cells_there hC (by rw [hCs]; omega))
    have HRW : Hid (RowBut 63 B ((l.length - 1) * 2) 2 w1 (w1.setCells B ((l.length - 1) * 2) (Builtin.zeroCells (Value.agg #[.int .i64 0, .int .i64 0]).cells 1).toList)) := Lib.hid (RowBut.setCells _ _ _ (RowBut.refl hC) (Nat.le_refl _) (by rw [(zero_spans _).1]; exact Nat.le_refl _))
    have hclr := run_clear_row (P := Tryz.prog) w1 149 63 0 (.agg #[.int .i64 0, .int .i64 0]) 1 Tryz.underlying149 (by intro w; go_simp) (zero_spans _).2 B ((l.length - 1) * 2) (c - (l.length - 1)) (by omega) (by rw [(zero_spans _).1]; exact HTH.out)
    rw [hlen]
    have j1 : ((l.length - 1 : Nat) : Int) ≤ (l.length : Int) := by omega
    have j2 : (0 : Int) ≤ ((l.length - 1 : Nat) : Int) := Int.natCast_nonneg _
    have j3 : l.length - (l.length - 1) = 1 := by omega
    have j4 : ¬ c = l.length - 1 := by omega
    clear hC hCs i0 i1 i2 i3 i4 i6 i7 i8 hlen
    go_wp2_with fail
    go_ret
    have hE : l.take k ++ l.drop (k + 1) = l.eraseIdx k := (List.eraseIdx_eq_take_drop_succ ..).symm
    exact ⟨_, F2, rfl, by rw [← hE]; exact OwS.cut2 HO3.out HLA.out HC0.out HRW.out, fun b hb => by rw [HO3.out.flat_blocks HC0.out] at hb; rw [HO.out.flat_blocks HC0.out]; exact hb, (Kept.trans (Kept.of_ext (Ext.refl _).drew) (HK2.out.sub fun b _ hb => f1 b hb)).trans (Kept.setCells (by rw [HO.out.flat_blocks HC0.out]; simp) _ _ _ (Kept.refl _ _))⟩
end Go.Proofs.YtngldifgcgblpaaGreat
namespace Go.Proofs.YtngldifgcgblpaaGreat
open Go.RowKit
variable {T : TypeId} {w w' : World} {v : Value} {l : List Span} {F : List Nat}
end Go.Proofs.YtngldifgcgblpaaGreat
namespace Go.Proofs.YtngldifgcgblpaaGreat
open Go.RowKit Go.Lib
attribute [local irreducible] wpQuiet
end Go.Proofs.YtngldifgcgblpaaGreat
namespace Go.Proofs.YtngldifgcgblpaaGreat
open Go.RowKit Go.Lib
attribute [local irreducible] wpQuiet
end Go.Proofs.YtngldifgcgblpaaGreat
namespace Go.Proofs.YtngldifgcgblpaaGreat
open Go.RowKit
attribute [local irreducible] wpQuiet
theorem spans_up {l : List Span} (h : spansRight l = true) {i j : Nat} (hij : i < j) (hj : j < l.length) : (nth l i).from_ < (nth l j).from_ := by
  have hall : ∀ t, t < l.length → spanAt l t = true := fun t ht => by
    simp only [spansRight, Bool.and_eq_true, List.all_eq_true, List.mem_range] at h
    exact h.2 t ht
  have hr : ∀ t, t < l.length → (nth l t).from_ < (nth l t).to_ := fun t ht => by
    have := hall t ht
    simp only [spanAt, spanRight, Bool.and_eq_true, decide_eq_true_eq] at this
    exact this.1.2
  induction j with
  | zero => omega
  | succ j ih =>
    have h1 : (nth l j).to_ ≤ (nth l (j + 1)).from_ := by
      have := hall (j + 1) hj
      rw [spanAt_succ] at this
      simp only [Bool.and_eq_true, decide_eq_true_eq] at this
      exact this.2
    have h2 := hr j (by omega)
    rcases Nat.lt_or_ge i j with h3 | h3
    · have := ih h3 (by omega)
      omega
    · obtain rfl : i = j := by omega
      omega
def notFrom (f : Int) (x : Span) : Bool := !decide (x.from_ = f)
def isFrom (f : Int) (x : Span) : Bool := decide (x.from_ = f)
theorem erase_filter {l : List Span} {f : Int} {k : Nat} (h : spansRight l = true) (hk : k < l.length) (hp : isFrom f (nth l k) = true) : l.eraseIdx k = l.filter (notFrom f) := by
  have hf : (nth l k).from_ = f := by simpa [isFrom] using hp
  have e1 : (l.take k).filter (notFrom f) = l.take k := filter_all_nth fun j hj => by
    rw [List.length_take] at hj
    have := spans_up h (i := j) (j := k) (by omega) hk
    rw [nth_eq (by rw [List.length_take]; omega), List.getElem_take, ← nth_eq (by omega)]
    simp only [notFrom, Bool.not_eq_true', decide_eq_false_iff_not]
    omega
  have e2 : (l.drop (k + 1)).filter (notFrom f) = l.drop (k + 1) := filter_all_nth fun j hj => by
    rw [List.length_drop] at hj
    have := spans_up h (i := k) (j := k + 1 + j) (by omega) (by omega)
    rw [nth_eq (by rw [List.length_drop]; omega), List.getElem_drop, ← nth_eq (by omega)]
    simp only [notFrom, Bool.not_eq_true', decide_eq_false_iff_not]
    omega
  have e3 : l = l.take k ++ (nth l k :: l.drop (k + 1)) := by rw [← drop_nth hk, List.take_append_drop]
  rw [List.eraseIdx_eq_take_drop_succ]
  conv => rhs; rw [e3]
  rw [List.filter_append, List.filter_cons_of_neg (by simp [notFrom, hf]), e1, e2]
theorem filter_none {l : List Span} {f : Int} (h : ∀ j, j < l.length → isFrom f (nth l j) = false) : l.filter (notFrom f) = l := filter_all_nth fun j hj => by
  have := h j hj
  simp only [isFrom, decide_eq_false_iff_not] at this
  simp [notFrom, this]
theorem erase_short {l : List Span} {k : Nat} (hk : k < l.length) : (l.eraseIdx k).length ≠ l.length := by rw [List.length_eraseIdx_of_lt hk]; omega
theorem call_cut1 : ∀ (args : Array Value) (W : World), (callFunc 174 args).run Tryz.prog W = .ok (.enter 174 args) W := by
  intro args W
  go_simp
set_option maxHeartbeats 2000000 in
theorem cut1_any {S : Nat → Prop} (x : Span) (f : Int) (cs : List Value) (B : Nat) (w : World) (h : ESpan.rel S w cs x) (d0 : w.cell? ⟨B, 0, none⟩ = some (.int .i64 f)) :
    Calls Tryz.prog 174 #[.agg cs.toArray, .pointer (some ⟨B, 0, none⟩)] w fun e w' => e = .returned (.bool (isFrom f x)) ∧ Ext w w' := by
  obtain ⟨rfl, _⟩ := h
  have d0' := fun ob : Obj => Ext.some ((Ext.refl w).alloc ob) d0
  simp only [cellsSpan]
  go_enter Tryz.func174, Tryz.ntmps174
  go_wp2_with fail
  go_ret
  exact ⟨ret_bool (by unfold isFrom; rw [Bool.eq_iff_iff]; simp), (Ext.refl _).alloc _⟩
set_option maxHeartbeats 8000000 in
set_option maxRecDepth 100000 in
theorem bookCut_any {S : Nat → Prop} (l : List Node) (n f : Int) (v : Value) (w : World) (h : Rd ENode S w v l) :
    Calls Tryz.prog 87 #[v, .int .i64 n, .int .i64 f] w (RetOS ONodesOut (bookCut l n f) w) := by
  have HR := Lib.hid h
  obtain ⟨A, c, rfl, h1, h2, hk⟩ := h.open_
  unfold maxLen at h2
  have HK := Lib.hid hk
  clear h hk
  go_enter Tryz.func87, Tryz.ntmps87
  go_upto_region 1 with (fail)
  obtain ⟨W, R, hW, hB, hRP, hx0, p0, b0⟩ : ∃ W R, W = (w.alloc (.cells #[.int .i64 f] 2)).alloc (.cells #[.slice none 0 0, .int .i64 0] 114) ∧ w.heap.size + 1 = R ∧ w.heap.size < R ∧ Ext w W ∧ Blk W w.heap.size 2 #[.int .i64 f] ∧ Blk W R 114 #[.slice none 0 0, .int .i64 0] := ⟨_, _, rfl, rfl, Nat.lt_succ_self _, (((Ext.refl w).alloc _).alloc _), (Blk.new w _ _).ext ((Ext.refl _).alloc _), by have h := Blk.new (w.alloc (.cells #[.int .i64 f] 2)) 114 #[.slice none 0 0, .int .i64 0]; simpa using h⟩
  rw [← hW]
  try rw [hB]
  have HRB : Hid (w.heap.size ≤ R) := Lib.hid (by omega)
  have R0 := Lib.hid b0
  have P0 := Lib.hid p0
  have X0 := Lib.hid hx0
  clear hW hB hRP hx0 b0 p0
  by_cases hl : 400 < l.length
  · have HE : Hid (bookCut l n f = ⟨[], 2⟩) := Lib.hid (by rw [bookCut, if_pos hl])
    go_wp2_with (first | (refine wpList_store_mid rfl 114 _ _ rfl R 0 #[.slice none 0 0, .int .i64 2] rfl rfl (Blk.there (t := 114) (cs := #[.slice none 0 0, .int .i64 0]) R0.out) (by kernel_rfl) (all_oneCell_toArray (cs := [.slice none 0 0, .int .i64 2]) (by simp [Value.oneCell'])) ?_))
    exact bodyPost_ret (v := .agg #[.slice none 0 0, .int .i64 2]) (results_blk Tryz.results87 rfl (Blk.setAll (t := 114) (cs := #[.slice none 0 0, .int .i64 0]) (vs := #[.slice none 0 0, .int .i64 2]) R0.out rfl) Tryz.underlying114 rfl (by kernel_rfl)) rfl ⟨_, [], rfl, ⟨.slice none 0 0, by rw [HE.out]; rfl, by rw [HE.out]; simp [FitNodesOut, I64], by rw [HE.out]; exact OwS.nil _⟩, fun b hb => absurd hb (by simp), setCells_ext HRB.out _ _ _ X0.out⟩
  have hl2 : l.length ≤ 400 := by omega
  cases ht : nodesRight l with
  | false =>
    have HE : Hid (bookCut l n f = ⟨[], 1⟩) := Lib.hid (by rw [bookCut, if_neg hl, if_pos ht])
    clear hl
    go_wp2_with (first | (go_at_call 145; (with_reducible refine (nodesRight_any (S := S) l _ _ (HR.out.ext X0.out)).mono ?_); rintro e w1 ⟨rfl, hx1⟩; have X1 := Lib.hid (X0.out.trans hx1); have R1 := Lib.hid (R0.out.ext hx1); have P1 := Lib.hid (P0.out.ext hx1); clear hx1) | (refine wpList_store_mid rfl 114 _ _ rfl R 0 #[.slice none 0 0, .int .i64 1] rfl rfl (Blk.there (t := 114) (cs := #[.slice none 0 0, .int .i64 0]) R1.out) (by kernel_rfl) (all_oneCell_toArray (cs := [.slice none 0 0, .int .i64 1]) (by simp [Value.oneCell'])) ?_))
    exact bodyPost_ret (v := .agg #[.slice none 0 0, .int .i64 1]) (results_blk Tryz.results87 rfl (Blk.setAll (t := 114) (cs := #[.slice none 0 0, .int .i64 0]) (vs := #[.slice none 0 0, .int .i64 1]) R1.out rfl) Tryz.underlying114 rfl (by kernel_rfl)) rfl ⟨_, [], rfl, ⟨.slice none 0 0, by rw [HE.out]; rfl, by rw [HE.out]; simp [FitNodesOut, I64], by rw [HE.out]; exact OwS.nil _⟩, fun b hb => absurd hb (by simp), setCells_ext HRB.out _ _ _ X1.out⟩
  | true =>
  cases hn : isNode l n with
  | false =>
    have HE : Hid (bookCut l n f = ⟨[], 6⟩) := Lib.hid (by rw [bookCut, if_neg hl, if_neg (by simp [ht]), if_pos hn])
    clear hl
    go_wp2_with (first | (go_at_call 145; (with_reducible refine (nodesRight_any (S := S) l _ _ (HR.out.ext X0.out)).mono ?_); rintro e w1 ⟨rfl, hx1⟩; have X1 := Lib.hid (X0.out.trans hx1); have R1 := Lib.hid (R0.out.ext hx1); have P1 := Lib.hid (P0.out.ext hx1); clear hx1) | (go_at_call 172; refine (isNodeOf_any l n _ _ _ hl2).mono ?_; rintro e w' ⟨rfl, rfl⟩) | (refine wpList_store_mid rfl 114 _ _ rfl R 0 #[.slice none 0 0, .int .i64 6] rfl rfl (Blk.there (t := 114) (cs := #[.slice none 0 0, .int .i64 0]) R1.out) (by kernel_rfl) (all_oneCell_toArray (cs := [.slice none 0 0, .int .i64 6]) (by simp [Value.oneCell'])) ?_))
    exact bodyPost_ret (v := .agg #[.slice none 0 0, .int .i64 6]) (results_blk Tryz.results87 rfl (Blk.setAll (t := 114) (cs := #[.slice none 0 0, .int .i64 0]) (vs := #[.slice none 0 0, .int .i64 6]) R1.out rfl) Tryz.underlying114 rfl (by kernel_rfl)) rfl ⟨_, [], rfl, ⟨.slice none 0 0, by rw [HE.out]; rfl, by rw [HE.out]; simp [FitNodesOut, I64], by rw [HE.out]; exact OwS.nil _⟩, fun b hb => absurd hb (by simp), setCells_ext HRB.out _ _ _ X1.out⟩
  | true =>
  obtain ⟨d, rfl, hd⟩ := isNode_nat hn
  obtain ⟨b, q, cs, rfl, _, ⟨v1, rfl, hfit, hrd⟩, hc⟩ := HK.out d hd
  obtain ⟨A1, d1, rfl, -⟩ := hrd.form
  have HRD := Lib.hid hrd
  have hd0 : (0 : Int) ≤ (d : Int) := Int.natCast_nonneg _
  have hdl : (d : Int) < (l.length : Int) := by omega
  have CE : Hid (∀ V, Ext w V → V.cell? ⟨b, q + d * 2 + 1, none⟩ = some (.slice A1 (nth l d).books.length d1)) := Lib.hid fun V hV => by have := Ext.some hV (hc 1 _ rfl); simpa [ENode] using this
  have HFit := Lib.hid hfit
  clear hc hrd hfit
  have HBk := Lib.hid (nodesRight_books ht hd)
  have HS : Hid (∀ k, k < l.length → (nth l k).books.length ≤ 1000000000) := Lib.hid fun k hk => by have := (nodesRight_books ht hk).1; omega
  go_upto_region 7 with (first | (go_at_call 145; (with_reducible refine (nodesRight_any (S := S) l _ _ (HR.out.ext X0.out)).mono ?_); rintro e w1 ⟨rfl, hx1⟩; have X1 := Lib.hid (X0.out.trans hx1); have R1 := Lib.hid (R0.out.ext hx1); have P1 := Lib.hid (P0.out.ext hx1); clear hx1) | (go_at_call 172; refine (isNodeOf_any l (d : Int) _ _ _ hl2).mono ?_; rintro e w' ⟨rfl, rfl⟩))
  have ce := CE.out _ X1.out
  go_wp2_with fail
  refine (indexFunc_Span_1 (S := S) (nth l d).books (isFrom f) _ 174 _ _ (HRD.out.ext X1.out) call_cut1 (fun cs x w3 hx hr => cut1_any x f cs _ w3 hr (Ext.some hx (P1.out.cell 0)))).mono ?_
  rintro e w2 ⟨rfl, hx2⟩
  have X2 := Lib.hid (X1.out.trans hx2)
  have R2 := Lib.hid (R1.out.ext hx2)
  clear hx2 ce
  rcases idxOf_cases (isFrom f) (nth l d).books with ⟨hi, hnone⟩ | ⟨k, hk, hi, hq, hlow⟩
  · have HI : Hid (idxOf (isFrom f) (nth l d).books = -1) := Lib.hid hi
    have HE : Hid (bookCut l (d : Int) f = ⟨[], 6⟩) := Lib.hid (by rw [bookCut, if_neg hl, if_neg (by simp [ht]), if_neg (by simp [hn]), Int.toNat_natCast, if_pos (by show idxOf (isFrom f) _ < 0; rw [hi]; decide)])
    clear hi hnone hl
    rw [HI.out]
    go_wp2_with (first | (refine wpList_store_mid rfl 114 _ _ rfl R 0 #[.slice none 0 0, .int .i64 6] rfl rfl (Blk.there (t := 114) (cs := #[.slice none 0 0, .int .i64 0]) R2.out) (by kernel_rfl) (all_oneCell_toArray (cs := [.slice none 0 0, .int .i64 6]) (by simp [Value.oneCell'])) ?_))
    exact bodyPost_ret (v := .agg #[.slice none 0 0, .int .i64 6]) (results_blk Tryz.results87 rfl (Blk.setAll (t := 114) (cs := #[.slice none 0 0, .int .i64 0]) (vs := #[.slice none 0 0, .int .i64 6]) R2.out rfl) Tryz.underlying114 rfl (by kernel_rfl)) rfl ⟨_, [], rfl, ⟨.slice none 0 0, by rw [HE.out]; rfl, by rw [HE.out]; simp [FitNodesOut, I64], by rw [HE.out]; exact OwS.nil _⟩, fun b hb => absurd hb (by simp), setCells_ext HRB.out _ _ _ X2.out⟩
  have HI : Hid (idxOf (isFrom f) (nth l d).books = (k : Int)) := Lib.hid hi
  have HEr : Hid ((nth l d).books.eraseIdx k = (nth l d).books.filter (notFrom f)) := Lib.hid (erase_filter HBk.out.2 hk hq)
  have HE : Hid (bookCut l (d : Int) f = ⟨l.set d { nth l d with books := (nth l d).books.filter (notFrom f) }, 0⟩) := Lib.hid (by rw [bookCut, if_neg hl, if_neg (by simp [ht]), if_neg (by simp [hn]), Int.toNat_natCast, if_neg (by show ¬ idxOf (isFrom f) _ < 0; rw [hi]; omega)]; rfl)
  have HT := Lib.hid ht
  have HKB := Lib.hid hk
  clear hi hq hlow hl
  rw [HI.out]
  go_wp2_with fail
  refine (copyNodes_any (S := S) l _ _ (HR.out.ext X2.out) (by omega) HS.out).mono ?_
  rintro e w3 ⟨v3, F3, rfl, o3, g3, hx3⟩
  have HX3 := Lib.hid hx3
  have R3 := Lib.hid (R2.out.ext hx3)
  have G3 := Lib.hid g3
  have HRl := Lib.hid R2.out.lt
  obtain ⟨B2, cc, G, cs2, hv2, hlc, hcm, hBF, hBG, hGF, ho, hc2, hfz, hth, hrow, hset⟩ := o3.at2 (k := d) hd
  subst hv2
  obtain ⟨u1, rfl, hfit2, q1⟩ := ho
  obtain ⟨p1, k1, rfl, -⟩ := q1.form
  have e1 := hc2 1 _ rfl
  simp only [ENode] at e1
  have Q1 := Lib.hid q1
  have HC := Lib.hid hc2
  have HSET := Lib.hid hset
  have HROW := Lib.hid hrow
  have HBF := Lib.hid hBF
  have HBG := Lib.hid hBG
  have HGF := Lib.hid hGF
  have HBW := Lib.hid (blk_lt_of hrow)
  have HRG : Hid (R ∉ G) := Lib.hid fun hb => by have a := G3.out _ (hGF _ hb); have b := HRl.out; omega
  have HRB2 : Hid (R ≠ B2) := Lib.hid fun hb => by have a := G3.out _ hBF; have b := HRl.out; omega
  clear o3 g3 hx3 hset hrow hth hc2 q1 hBF hBG hGF hlc hcm hfz hfit2 ht
  have hk4 := HBk.out.1
  have i9 : (k : Int) + 1 ≤ 9223372036854775807 := by have := HKB.out; omega
  go_wp2_with fail
  refine (delete_Span (nth l d).books k _ G _ Q1.out (by omega) HKB.out).mono ?_
  rintro e w4 ⟨v4, F4, rfl, o4, f4, k4⟩
  rw [HEr.out] at o4
  obtain ⟨A4, c4, rfl, -⟩ := o4.form
  obtain ⟨W5, hW5⟩ : ∃ W5, W5 = w4.setCell ⟨B2, d * 2 + 1, none⟩ (.slice A4 ((nth l d).books.filter (notFrom f)).length c4) := ⟨_, rfl⟩
  have hB3 := RowBut.kept HROW.out k4 HBG.out
  have HN : Hid (∃ F', OwS ONode 151 W5 (.slice (some ⟨B2, 0, none⟩) l.length cc) (l.set d { nth l d with books := (nth l d).books.filter (notFrom f) }) F' ∧ ∀ b ∈ F', b ∈ F3 ∨ w3.heap.size ≤ b) := Lib.hid (by
    rw [hW5]
    refine HSET.out _ _ [.int .i64 (nth l d).state, .slice A4 ((nth l d).books.filter (notFrom f)).length c4] F4 (Kept.setCell (k4.sub fun b _ hb => List.mem_cons_of_mem _ hb) (by simp) _) (RowBut.setCell hB3 (by simp [ENode]) (by simp [ENode]) _) ⟨_, rfl, HFit.out, o4.kept (G := [B2]) (Kept.setCell (Kept.refl _ _) (by simp) _) (fun b hb => by simp; intro e; exact HBG.out (e ▸ f4 b hb))⟩ (fun b hb => .inl (f4 b hb)) ?_
    have hc3 : w4.rangeAt B2 (d * 2) ([.int .i64 (nth l d).state] ++ [.slice p1 (nth l d).books.length k1]) := fun j u hj => k4.cell HBG.out (HC.out j u hj)
    exact range_back (a := [.int .i64 (nth l d).state]) hc3 (fun j hj => ⟨(by obtain rfl : j = 0 := (by simpa using hj); rw [show d * 2 + [Value.int IntKind.i64 (nth l d).state].length + 0 = d * 2 + 1 from rfl, hc3 1 _ rfl]; rfl), hB3.frozen _⟩))
  have e13 := k4.cell HBG.out e1
  have f13 := hB3.frozen (d * 2 + 1)
  have X5 : Hid (Ext w W5) := Lib.hid (by rw [hW5]; exact (k4.ext (X2.out.trans HX3.out) fun b hb => Nat.le_trans X2.out.size (G3.out b (HGF.out b hb))).setCell (Nat.le_trans X2.out.size (G3.out _ HBF.out)) _)
  have R5 : Hid (Blk W5 R 114 #[.slice none 0 0, .int .i64 0]) := Lib.hid (by rw [hW5]; exact Blk.far ((k4.block _ R3.out.lt HRG.out).trans R3.out) HRB2.out _)
  have HX2 := Lib.hid X2.out.size
  clear o4 f4 k4 hB3 e1
  go_upto_region 12 with (fail)
  rw [← hW5]
  clear hW5 e13 f13
  obtain ⟨F6, o6, f6⟩ := HN.out
  have O6 := Lib.hid o6
  have G6 : Hid (∀ b ∈ F6, w2.heap.size ≤ b) := Lib.hid fun b hb => by rcases f6 b hb with h | h; exact G3.out b h; exact Nat.le_trans HX3.out.size h
  clear o6 f6
  go_wp2_with (refine wpList_store_mid rfl 114 _ _ rfl R 0 #[.slice (some ⟨B2, 0, none⟩) l.length cc, .int .i64 0] rfl rfl (Blk.there (t := 114) (cs := #[.slice none 0 0, .int .i64 0]) R5.out) (by kernel_rfl) (all_oneCell_toArray (cs := [.slice (some ⟨B2, 0, none⟩) l.length cc, .int .i64 0]) (by simp [Value.oneCell'])) ?_)
  exact bodyPost_ret (v := .agg #[.slice (some ⟨B2, 0, none⟩) l.length cc, .int .i64 0]) (results_blk Tryz.results87 rfl (Blk.setAll (t := 114) (cs := #[.slice none 0 0, .int .i64 0]) (vs := #[.slice (some ⟨B2, 0, none⟩) l.length cc, .int .i64 0]) R5.out rfl) Tryz.underlying114 rfl (by kernel_rfl)) rfl ⟨_, F6, rfl, ⟨.slice (some ⟨B2, 0, none⟩) l.length cc, by rw [HE.out]; rfl, by rw [HE.out]; simp [FitNodesOut, I64], by rw [HE.out]; exact O6.out.kept (G := [R]) (Kept.setCells (by simp) _ _ _ (Kept.refl _ _)) (fun b hb => by have := G6.out b hb; have := HRl.out; simp; omega)⟩, fun b hb => Nat.le_trans HX2.out (G6.out b hb), setCells_ext HRB.out _ _ _ X5.out⟩
end Go.Proofs.YtngldifgcgblpaaGreat
namespace Go.Proofs.YtngldifgcgblpaaGreat
open Go.RowKit
attribute [local irreducible] wpQuiet
theorem bookCut_small (l : List Node) (n f : Int) : (bookCut l n f).nodes.length ≤ 1000 ∧ ∀ z ∈ (bookCut l n f).nodes, z.books.length ≤ 1000 := by
  unfold bookCut
  split
  · exact nil_small
  split
  · exact nil_small
  split
  · exact nil_small
  split
  · exact nil_small
  rename_i h1 h2 h3 h4
  simp only [Bool.not_eq_false] at h2 h3
  refine set_small h2 ?_
  have := (nodesRight_books h2 (isNode_lt h3)).1
  have := List.length_filter_le (fun x : Span => !decide (x.from_ = f)) (nth l n.toNat).books
  show (List.filter _ _).length ≤ _
  omega
end Go.Proofs.YtngldifgcgblpaaGreat
namespace Go.Proofs.YtngldifgcgblpaaGreat
open Go.RowKit
attribute [local irreducible] wpQuiet
set_option maxHeartbeats 8000000 in
set_option maxRecDepth 100000 in
theorem specBookCut_any {S : Nat → Prop} (l : List Node) (n f : Int) (v : Value) (w : World) (h : Rd ENode S w v l) :
    Calls Tryz.prog 83 #[v, .int .i64 n, .int .i64 f] w (RetOS ONodesOut (bookCut l n f) w) := by
  have HR := Lib.hid h
  obtain ⟨A, c, rfl, h1, h2, hk⟩ := h.open_
  unfold maxLen at h2
  have HK := Lib.hid hk
  clear h hk
  go_enter Tryz.func83, Tryz.ntmps83
  go_upto_region 1 with (fail)
  obtain ⟨W, R, hW, hB, hx0, b0⟩ : ∃ W B, W = w.alloc (.cells #[.slice none 0 0, .int .i64 0] 114) ∧ B = w.heap.size ∧ Ext w W ∧ Blk W B 114 #[.slice none 0 0, .int .i64 0] := ⟨_, _, rfl, rfl, (Ext.refl w).alloc _, Blk.new _ _ _⟩
  rw [← hW, ← hB]
  have HRB : Hid (w.heap.size ≤ R) := Lib.hid (by omega)
  have R0 := Lib.hid b0
  have X0 := Lib.hid hx0
  clear hW hB hx0 b0
  by_cases hl : 400 < l.length
  · have HE : Hid (bookCut l n f = ⟨[], 2⟩) := Lib.hid (by rw [bookCut, if_pos hl])
    go_wp2_with (first | (go_at_call 167; refine (l10Ill_any _ _).mono ?_; rintro e wi ⟨rfl, hxi⟩; have XI := Lib.hid (X0.out.trans hxi); have RI := Lib.hid (R0.out.ext hxi); clear hxi) | (refine wpList_store_mid rfl 114 _ _ rfl R 0 #[.slice none 0 0, .int .i64 2] rfl rfl (Blk.there (t := 114) (cs := #[.slice none 0 0, .int .i64 0]) RI.out) (by kernel_rfl) (all_oneCell_toArray (cs := [.slice none 0 0, .int .i64 2]) (by simp [Value.oneCell'])) ?_))
    exact bodyPost_ret (v := .agg #[.slice none 0 0, .int .i64 2]) (results_blk Tryz.results83 rfl (Blk.setAll (t := 114) (cs := #[.slice none 0 0, .int .i64 0]) (vs := #[.slice none 0 0, .int .i64 2]) RI.out rfl) Tryz.underlying114 rfl (by kernel_rfl)) rfl ⟨_, [], rfl, ⟨.slice none 0 0, by rw [HE.out]; rfl, by rw [HE.out]; simp [FitNodesOut, I64], by rw [HE.out]; exact OwS.nil _⟩, fun b hb => absurd hb (by simp), setCells_ext HRB.out _ _ _ XI.out⟩
  have hl2 : l.length ≤ 400 := by omega
  cases ht : nodesRight l with
  | false =>
    have HE : Hid (bookCut l n f = ⟨[], 1⟩) := Lib.hid (by rw [bookCut, if_neg hl, if_pos ht])
    clear hl
    go_wp2_with (first | (go_at_call 163; (with_reducible refine (specNodesRight_any (S := S) l _ _ (HR.out.ext X0.out)).mono ?_); rintro e w1 ⟨rfl, hx1⟩; have X1 := Lib.hid (X0.out.trans hx1); have R1 := Lib.hid (R0.out.ext hx1); clear hx1) | (go_at_call 167; refine (l10Ill_any _ _).mono ?_; rintro e wi ⟨rfl, hxi⟩; have XI := Lib.hid (X1.out.trans hxi); have RI := Lib.hid (R1.out.ext hxi); clear hxi) | (refine wpList_store_mid rfl 114 _ _ rfl R 0 #[.slice none 0 0, .int .i64 1] rfl rfl (Blk.there (t := 114) (cs := #[.slice none 0 0, .int .i64 0]) RI.out) (by kernel_rfl) (all_oneCell_toArray (cs := [.slice none 0 0, .int .i64 1]) (by simp [Value.oneCell'])) ?_))
    exact bodyPost_ret (v := .agg #[.slice none 0 0, .int .i64 1]) (results_blk Tryz.results83 rfl (Blk.setAll (t := 114) (cs := #[.slice none 0 0, .int .i64 0]) (vs := #[.slice none 0 0, .int .i64 1]) RI.out rfl) Tryz.underlying114 rfl (by kernel_rfl)) rfl ⟨_, [], rfl, ⟨.slice none 0 0, by rw [HE.out]; rfl, by rw [HE.out]; simp [FitNodesOut, I64], by rw [HE.out]; exact OwS.nil _⟩, fun b hb => absurd hb (by simp), setCells_ext HRB.out _ _ _ XI.out⟩
  | true =>
  cases hn : isNode l n with
  | false =>
    have HE : Hid (bookCut l n f = ⟨[], 6⟩) := Lib.hid (by rw [bookCut, if_neg hl, if_neg (by simp [ht]), if_pos hn])
    clear hl
    go_wp2_with (first | (go_at_call 163; (with_reducible refine (specNodesRight_any (S := S) l _ _ (HR.out.ext X0.out)).mono ?_); rintro e w1 ⟨rfl, hx1⟩; have X1 := Lib.hid (X0.out.trans hx1); have R1 := Lib.hid (R0.out.ext hx1); clear hx1) | (go_at_call 168; refine (l10Place_any l n _ _ _ hl2).mono ?_; rintro e w' ⟨rfl, rfl⟩) | (go_at_call 167; refine (l10Ill_any _ _).mono ?_; rintro e wi ⟨rfl, hxi⟩; have XI := Lib.hid (X1.out.trans hxi); have RI := Lib.hid (R1.out.ext hxi); clear hxi) | (refine wpList_store_mid rfl 114 _ _ rfl R 0 #[.slice none 0 0, .int .i64 6] rfl rfl (Blk.there (t := 114) (cs := #[.slice none 0 0, .int .i64 0]) RI.out) (by kernel_rfl) (all_oneCell_toArray (cs := [.slice none 0 0, .int .i64 6]) (by simp [Value.oneCell'])) ?_))
    exact bodyPost_ret (v := .agg #[.slice none 0 0, .int .i64 6]) (results_blk Tryz.results83 rfl (Blk.setAll (t := 114) (cs := #[.slice none 0 0, .int .i64 0]) (vs := #[.slice none 0 0, .int .i64 6]) RI.out rfl) Tryz.underlying114 rfl (by kernel_rfl)) rfl ⟨_, [], rfl, ⟨.slice none 0 0, by rw [HE.out]; rfl, by rw [HE.out]; simp [FitNodesOut, I64], by rw [HE.out]; exact OwS.nil _⟩, fun b hb => absurd hb (by simp), setCells_ext HRB.out _ _ _ XI.out⟩
  | true =>
  obtain ⟨d, rfl, hd⟩ := isNode_nat hn
  obtain ⟨b, q, cs, rfl, _, ⟨v1, rfl, hfit, hrd⟩, hc⟩ := HK.out d hd
  obtain ⟨A1, d1, rfl, n3, m3, hk3⟩ := hrd.open_
  unfold maxLen at m3
  have HK3 := Lib.hid hk3
  have hd0 : (0 : Int) ≤ (d : Int) := Int.natCast_nonneg _
  have hdl : (d : Int) < (l.length : Int) := by omega
  have CE : Hid (∀ V, Ext w V → V.cell? ⟨b, q + d * 2 + 1, none⟩ = some (.slice A1 (nth l d).books.length d1)) := Lib.hid fun V hV => by have := Ext.some hV (hc 1 _ rfl); simpa [ENode] using this
  have HFit := Lib.hid hfit
  clear hc hrd hfit hk3
  have HBk := Lib.hid (nodesRight_books ht hd)
  have hb4 := HBk.out.1
  have HS : Hid (∀ k, k < l.length → (nth l k).books.length ≤ 1000000000) := Lib.hid fun k hk => by have := (nodesRight_books ht hk).1; omega
  have HEbad : Hid (idxOf (isFrom f) (nth l d).books < 0 → bookCut l (d : Int) f = ⟨[], 6⟩) := Lib.hid fun hi => by rw [bookCut, if_neg hl, if_neg (by simp [ht]), if_neg (by simp [hn]), Int.toNat_natCast, if_pos (show bookAt (nth l d).books f < 0 from hi)]
  have HEok : Hid (¬ idxOf (isFrom f) (nth l d).books < 0 → bookCut l (d : Int) f = ⟨l.set d { nth l d with books := (nth l d).books.filter (notFrom f) }, 0⟩) := Lib.hid fun hi => by rw [bookCut, if_neg hl, if_neg (by simp [ht]), if_neg (by simp [hn]), Int.toNat_natCast, if_neg (show ¬ bookAt (nth l d).books f < 0 from hi)]; rfl
  clear hl
  go_upto_region 7 with (first | (go_at_call 163; (with_reducible refine (specNodesRight_any (S := S) l _ _ (HR.out.ext X0.out)).mono ?_); rintro e w1 ⟨rfl, hx1⟩; have X1 := Lib.hid (X0.out.trans hx1); have R1 := Lib.hid (R0.out.ext hx1); clear hx1) | (go_at_call 168; refine (l10Place_any l (d : Int) _ _ _ hl2).mono ?_; rintro e w' ⟨rfl, rfl⟩))
  go_wp2_with fail
  refine (l10Copy_any (S := S) l _ _ (HR.out.ext X1.out) (by omega) HS.out).mono ?_
  rintro e w3 ⟨v3, F3, rfl, o3, g3, hx3⟩
  have X3 := Lib.hid (X1.out.trans hx3)
  have R3 := Lib.hid (R1.out.ext hx3)
  have G3 := Lib.hid g3
  have HRl := Lib.hid R1.out.lt
  have LF3 := Lib.hid o3.lt
  have HX13 := Lib.hid hx3.size
  obtain ⟨B2, cc, G, cs2, hv2, hlc, hcm, hBF, hBG, hGF, ho, hc2, hfz, hth, hrow, hset⟩ := o3.at2 (k := d) hd
  subst hv2
  obtain ⟨u1, rfl, hfit2, q1⟩ := ho
  obtain ⟨p1, k1, rfl, -⟩ := q1.form
  have e1 := hc2 1 _ rfl
  simp only [ENode] at e1
  have HC := Lib.hid hc2
  have HSET := Lib.hid hset
  have HROW := Lib.hid hrow
  have HBF := Lib.hid hBF
  have HBG := Lib.hid hBG
  have HBW := Lib.hid (blk_lt_of hrow)
  have E1 := Lib.hid e1
  have HRB2 : Hid (R ≠ B2) := Lib.hid fun hb => by have a := G3.out _ hBF; have b := HRl.out; omega
  clear o3 g3 hx3 hset hrow hth hc2 q1 hBF hBG hGF hlc hcm hfz hfit2 e1 ht
  go_wp2_with fail
  obtain ⟨W4, B0, hW, hB, hx0, b0⟩ : ∃ W B, W = w3.alloc (.cells #[] 63) ∧ B = w3.heap.size ∧ Ext w3 W ∧ Blk W B 63 #[] := ⟨_, _, rfl, rfl, (Ext.refl _).alloc _, Blk.new _ _ _⟩
  rw [← hW, ← hB]
  have HB0 : Hid (w3.heap.size ≤ B0) := Lib.hid (by omega)
  have BB0 := Lib.hid b0
  have XW := Lib.hid hx0
  clear hW hB hx0 b0
  go_loopw [8, 9] (fun v j w' => ∃ (i : Nat) (F4 : List Nat), i ≤ (nth l d).books.length ∧ j = .int .i64 i ∧ OwS OSpan 63 w' v (((nth l d).books.take i).filter (notFrom f)) F4 ∧ (∀ b ∈ F4, w3.heap.size ≤ b) ∧ Ext w3 w') (fun _ j _ => (nth l d).books.length - (intOf j).toNat)
  case atStart => exact ⟨0, [B0], by omega, rfl, .inr ⟨B0, 0, #[], [], rfl, BB0.out, Nat.le_refl _, Nat.zero_le _, rfl, rfl, rfl, by simp, fun k hk => absurd hk (Nat.not_lt_zero _)⟩, fun b hb => by rw [List.mem_singleton.1 hb]; exact HB0.out, XW.out⟩
  case round =>
    obtain ⟨i, F4, hi1, rfl, how4, hF4, hx4⟩ := hrel
    have HO4 := Lib.hid how4
    have HF4 := Lib.hid hF4
    have HX4 := Lib.hid hx4
    have ce := CE.out _ (X3.out.trans hx4)
    clear how4 hF4
    by_cases hit : i < (nth l d).books.length
    · obtain ⟨b3, q3, cs3, rfl, _, ⟨rfl, hf3⟩, hc3⟩ := HK3.out i hit
      have e0 := Ext.some (X3.out.trans hx4) (hc3 0 _ rfl)
      have e1 := Ext.some (X3.out.trans hx4) (hc3 1 _ rfl)
      simp only [ESpan, Nat.add_zero] at e0 e1
      have HFs := Lib.hid hf3
      clear hc3 hf3 hx4
      by_cases hp : (nth (nth l d).books i).from_ = f
      · have HY := Lib.hid (filter_take_no (f := notFrom f) hit (by simp [notFrom, hp]))
        go_wp2_with fail
        refine ⟨⟨i + 1, F4, by omega, by go_num, by rw [HY.out]; exact HO4.out, HF4.out, HX4.out⟩, ?_⟩
        simp [intOf]
        omega
      · have HY := Lib.hid (filter_take_yes (f := notFrom f) hit (by simp [notFrom, hp]))
        go_wp2_with (at_builtin; refine wpList_append_one (O := OSpan) (T := 63) (l := ((nth l d).books.take i).filter (notFrom f)) (F := F4) (G := []) (y := nth (nth l d).books i) (cs := [.int .i64 (nth (nth l d).books i).from_, .int .i64 (nth (nth l d).books i).to_]) rfl _ _ 149 rfl (.agg #[.int .i64 0, .int .i64 0]) 2 16 Tryz.underlying149 (by kernel_rfl) rfl rfl rfl (HO4.out.ext ((Ext.refl _).alloc _)) _ 0 1 rfl ⟨rel_Span HFs.out, rfl⟩ (Blk.new _ _ _).range (by simpa using HO4.out.nodup) (by have a := List.length_filter_le (notFrom f) ((nth l d).books.take i); have b := List.length_take_le i (nth l d).books; omega) (by decide) ?_; intro v' w9 F' how hkp hF'; have HOW := Lib.hid how; have HKP := Lib.hid hkp; have HFF := Lib.hid hF'; clear how hkp hF')
        refine ⟨⟨i + 1, F', by omega, by go_num, by rw [HY.out]; exact HOW.out, fun b hb => match HFF.out b hb with | .inl h => HF4.out b h | .inr (.inl h) => absurd h (by simp) | .inr (.inr h) => Nat.le_trans (HX4.out.alloc _).size h, HKP.out.ext (HX4.out.alloc _) HF4.out⟩, ?_⟩
        simp [intOf]
        omega
    · obtain rfl : i = (nth l d).books.length := by omega
      have HO5 : Hid (OwS OSpan 63 wr _ ((nth l d).books.filter (notFrom f)) F4) := Lib.hid (by have := HO4.out; rwa [List.take_length] at this)
      obtain ⟨A4, c4, rfl, -⟩ := HO5.out.form
      have X4 := Lib.hid (X3.out.trans hx4)
      have R4 := Lib.hid (R3.out.ext hx4)
      clear hx4
      rcases idxOf_cases (isFrom f) (nth l d).books with ⟨hi, hnone⟩ | ⟨k, hk, hi, hq, hlow⟩
      · have HE := Lib.hid (HEbad.out (by rw [hi]; decide))
        have hfl : ((nth l d).books.filter (notFrom f)).length = (nth l d).books.length := by rw [filter_none hnone]
        clear hi hnone
        go_wp2_with (first | (go_at_call 167; refine (l10Ill_any _ _).mono ?_; rintro e wi ⟨rfl, hxi⟩; have XI := Lib.hid (X4.out.trans hxi); have RI := Lib.hid (R4.out.ext hxi); clear hxi) | (refine wpList_store_mid rfl 114 _ _ rfl R 0 #[.slice none 0 0, .int .i64 6] rfl rfl (Blk.there (t := 114) (cs := #[.slice none 0 0, .int .i64 0]) RI.out) (by kernel_rfl) (all_oneCell_toArray (cs := [.slice none 0 0, .int .i64 6]) (by simp [Value.oneCell'])) ?_))
        exact bodyPost_ret (v := .agg #[.slice none 0 0, .int .i64 6]) (results_blk Tryz.results83 rfl (Blk.setAll (t := 114) (cs := #[.slice none 0 0, .int .i64 0]) (vs := #[.slice none 0 0, .int .i64 6]) RI.out rfl) Tryz.underlying114 rfl (by kernel_rfl)) rfl ⟨_, [], rfl, ⟨.slice none 0 0, by rw [HE.out]; rfl, by rw [HE.out]; simp [FitNodesOut, I64], by rw [HE.out]; exact OwS.nil _⟩, fun b hb => absurd hb (by simp), setCells_ext HRB.out _ _ _ XI.out⟩
      have HE := Lib.hid (HEok.out (by rw [hi]; omega))
      have hfl : ¬ ((nth l d).books.filter (notFrom f)).length = (nth l d).books.length := by rw [← erase_filter HBk.out.2 hk hq]; exact erase_short hk
      have hfl2 : ¬ (((nth l d).books.filter (notFrom f)).length : Int) = ((nth l d).books.length : Int) := by omega
      clear hi hq hlow hk
      obtain ⟨W5, hW5⟩ : ∃ W5, W5 = wr.setCell ⟨B2, d * 2 + 1, none⟩ (.slice A4 ((nth l d).books.filter (notFrom f)).length c4) := ⟨_, rfl⟩
      have hB3 := RowBut.kept HROW.out (Kept.of_ext (F := []) HX4.out) (by simp)
      have HN : Hid (∃ F', OwS ONode 151 W5 (.slice (some ⟨B2, 0, none⟩) l.length cc) (l.set d { nth l d with books := (nth l d).books.filter (notFrom f) }) F' ∧ ∀ b ∈ F', b ∈ F3 ∨ w3.heap.size ≤ b) := Lib.hid (by
        rw [hW5]
        refine HSET.out _ _ [.int .i64 (nth l d).state, .slice A4 ((nth l d).books.filter (notFrom f)).length c4] F4 (Kept.setCell (Kept.of_ext HX4.out) (by simp) _) (RowBut.setCell hB3 (by simp [ENode]) (by simp [ENode]) _) ⟨_, rfl, HFit.out, HO5.out.kept (G := [B2]) (Kept.setCell (Kept.refl _ _) (by simp) _) (fun b hb => by have a := HF4.out b hb; have c := HBW.out; simp; omega)⟩ (fun b hb => .inr (HF4.out b hb)) ?_
        have hc3 : wr.rangeAt B2 (d * 2) ([.int .i64 (nth l d).state] ++ [.slice p1 (nth l d).books.length k1]) := HX4.out.range HC.out
        exact range_back (a := [.int .i64 (nth l d).state]) hc3 (fun j hj => ⟨(by obtain rfl : j = 0 := (by simpa using hj); rw [show d * 2 + [Value.int IntKind.i64 (nth l d).state].length + 0 = d * 2 + 1 from rfl, hc3 1 _ rfl]; rfl), hB3.frozen _⟩))
      have e13 := Ext.some HX4.out E1.out
      have f13 := hB3.frozen (d * 2 + 1)
      have X5 : Hid (Ext w W5) := Lib.hid (by rw [hW5]; exact X4.out.setCell (Nat.le_trans X1.out.size (G3.out _ HBF.out)) _)
      have R5 : Hid (Blk W5 R 114 #[.slice none 0 0, .int .i64 0]) := Lib.hid (by rw [hW5]; exact Blk.far R4.out HRB2.out _)
      have HX1 := Lib.hid X1.out.size
      clear hB3
      go_upto_region 17 with (fail)
      rw [← hW5]
      clear hW5 e13 f13 ce
      obtain ⟨F6, o6, f6⟩ := HN.out
      have O6 := Lib.hid o6
      have G6 : Hid (∀ b ∈ F6, w1.heap.size ≤ b) := Lib.hid fun b hb => by rcases f6 b hb with h | h; exact G3.out b h; exact Nat.le_trans HX13.out h
      clear o6 f6
      go_wp2_with (refine wpList_store_mid rfl 114 _ _ rfl R 0 #[.slice (some ⟨B2, 0, none⟩) l.length cc, .int .i64 0] rfl rfl (Blk.there (t := 114) (cs := #[.slice none 0 0, .int .i64 0]) R5.out) (by kernel_rfl) (all_oneCell_toArray (cs := [.slice (some ⟨B2, 0, none⟩) l.length cc, .int .i64 0]) (by simp [Value.oneCell'])) ?_)
      exact bodyPost_ret (v := .agg #[.slice (some ⟨B2, 0, none⟩) l.length cc, .int .i64 0]) (results_blk Tryz.results83 rfl (Blk.setAll (t := 114) (cs := #[.slice none 0 0, .int .i64 0]) (vs := #[.slice (some ⟨B2, 0, none⟩) l.length cc, .int .i64 0]) R5.out rfl) Tryz.underlying114 rfl (by kernel_rfl)) rfl ⟨_, F6, rfl, ⟨.slice (some ⟨B2, 0, none⟩) l.length cc, by rw [HE.out]; rfl, by rw [HE.out]; simp [FitNodesOut, I64], by rw [HE.out]; exact O6.out.kept (G := [R]) (Kept.setCells (by simp) _ _ _ (Kept.refl _ _)) (fun b hb => by have := G6.out b hb; have := HRl.out; simp; omega)⟩, fun b hb => Nat.le_trans HX1.out (G6.out b hb), setCells_ext HRB.out _ _ _ X5.out⟩
end Go.Proofs.YtngldifgcgblpaaGreat
namespace Go.Proofs.YtngldifgcgblpaaGreat
open Go.RowKit
attribute [local irreducible] wpQuiet
set_option maxHeartbeats 16000000 in
set_option maxRecDepth 100000 in
theorem specYardUnbook_any {S : Nat → Prop} (y : Yard) (n fr : Int) (cs : List Value) (w : World) (h : EYard.rel S w cs y) :
    Calls Tryz.prog 31 #[.agg cs.toArray, .int .i64 n, .int .i64 fr] w (RetOS OYardOut (nodeY y (bookCut y.nodes n fr)) w) := by
  obtain ⟨v1, v2, v3, v4, v5, v6, rfl, hf, h1, h2, h3, h4, h5, h6⟩ := h
  obtain ⟨A1, c1, rfl, -⟩ := h1.form
  obtain ⟨A2, c2, rfl, -⟩ := h2.form
  obtain ⟨A3, c3, rfl, -⟩ := h3.form
  obtain ⟨A4, c4, rfl, -⟩ := h4.form
  obtain ⟨A5, c5, rfl, -⟩ := h5.form
  obtain ⟨A6, c6, rfl, -⟩ := h6.form
  have HF := Lib.hid hf
  have HFC : Hid (FitConfig y.config) := Lib.hid hf.1
  have H1 := Lib.hid h1
  have H2 := Lib.hid h2
  have H3 := Lib.hid h3
  have H4 := Lib.hid h4
  have H5 := Lib.hid h5
  have H6 := Lib.hid h6
  clear hf h1 h2 h3 h4 h5 h6
  simp only [cellsYard]
  obtain ⟨x, hx⟩ : ∃ x, bookCut y.nodes n fr = x := ⟨_, rfl⟩
  rw [hx]
  have HX := Lib.hid hx
  clear hx
  obtain ⟨t, ht⟩ : ∃ t, yardRight y = t := ⟨_, rfl⟩
  have T := Lib.hid ht
  obtain ⟨c, hc⟩ : ∃ c, x.code = c := ⟨_, rfl⟩
  have HC := Lib.hid hc
  clear ht hc
  go_enter Tryz.func31, Tryz.ntmps31
  go_upto_region 1 with (fail)
  obtain ⟨W, B, hW, hB, hx0, a0, r0⟩ := boxes2 w #[.slice A1 y.config.nodes.length c1, .slice A2 y.config.pairs.length c2, .slice A3 y.config.quotas.length c3, .int .i64 y.config.half, .slice A4 y.nodes.length c4, .slice A5 y.tasks.length c5, .slice A6 y.uses.length c6, .int .i64 y.now] #[.slice none 0 0, .slice none 0 0, .slice none 0 0, .int .i64 0, .slice none 0 0, .slice none 0 0, .slice none 0 0, .int .i64 0, .int .i64 0, .int .i64 0] 44 46
  rw [← hW, ← hB]
  have HB : Hid (w.heap.size ≤ B + 1) := Lib.hid (by omega)
  have QA := Lib.hid a0
  have QR := Lib.hid r0
  have X := Lib.hid hx0
  clear hW hB hx0 a0 r0
  have qa := QA.out.cell
  have HLT : Hid (B + 1 < W.heap.size) := Lib.hid QR.out.lt
  have HXW := Lib.hid X.out
  have XV : Hid (Ext W W) := Lib.hid (Ext.refl W)
  cases t with
  | false =>
    have HE : Hid (nodeY y x = illY 1) := Lib.hid (nodeY_form T.out)
    go_upto_region 2 with (go_at_call 82; (with_reducible refine (specYardRight_is (S := S) y _ _ (rel_Yard HF.out (H1.out.ext X.out) (H2.out.ext X.out) (H3.out.ext X.out) (H4.out.ext X.out) (H5.out.ext X.out) (H6.out.ext X.out)) _ T.out).mono ?_); rintro e w7 ⟨rfl, hx7⟩; replace X := Lib.hid (X.out.trans hx7); replace XV := Lib.hid (XV.out.trans hx7); replace QA := Lib.hid (QA.out.ext hx7); replace QR := Lib.hid (QR.out.ext hx7); clear hx7 qa; have qa := QA.out.cell)
    clear qa
    go_wp2_with (first | (go_at_call 52; (with_reducible refine (l13IllT_any _ _).mono ?_); rintro e w8 ⟨rfl, hx8⟩; have H8 := Lib.hid hx8; clear hx8) | refine wpList_store_mid rfl 46 _ _ rfl (B + 1) 0 #[.slice none 0 0, .slice none 0 0, .slice none 0 0, .int .i64 0, .slice none 0 0, .slice none 0 0, .slice none 0 0, .int .i64 0, .int .i64 0, .int .i64 1] rfl rfl (Blk.there (t := 46) (cs := #[.slice none 0 0, .slice none 0 0, .slice none 0 0, .int .i64 0, .slice none 0 0, .slice none 0 0, .slice none 0 0, .int .i64 0, .int .i64 0, .int .i64 0]) (QR.out.ext H8.out)) (by kernel_rfl) (all_oneCell_toArray (cs := [.slice none 0 0, .slice none 0 0, .slice none 0 0, .int .i64 0, .slice none 0 0, .slice none 0 0, .slice none 0 0, .int .i64 0, .int .i64 0, .int .i64 1]) (by simp [Value.oneCell'])) ?_)
    exact bodyPost_ret (v := .agg #[.slice none 0 0, .slice none 0 0, .slice none 0 0, .int .i64 0, .slice none 0 0, .slice none 0 0, .slice none 0 0, .int .i64 0, .int .i64 0, .int .i64 1]) (results_blk Tryz.results31 rfl (Blk.setAll (t := 46) (cs := #[.slice none 0 0, .slice none 0 0, .slice none 0 0, .int .i64 0, .slice none 0 0, .slice none 0 0, .slice none 0 0, .int .i64 0, .int .i64 0, .int .i64 0]) (vs := #[.slice none 0 0, .slice none 0 0, .slice none 0 0, .int .i64 0, .slice none 0 0, .slice none 0 0, .slice none 0 0, .int .i64 0, .int .i64 0, .int .i64 1]) (QR.out.ext H8.out) rfl) Tryz.underlying46 rfl (by kernel_rfl)) rfl ⟨_, [], rfl, by rw [HE.out]; exact own_ill _ _ (by unfold I64; decide), fun b hb => absurd hb (by simp), setCells_ext HB.out _ _ _ (X.out.trans H8.out)⟩
  | true =>
    by_cases hz : c = 0
    case neg =>
      have HE : Hid (nodeY y x = illY c) := Lib.hid (nodeY_code T.out HC.out hz)
      go_upto_region 4 with (first | (go_at_call 82; (with_reducible refine (specYardRight_is (S := S) y _ _ (rel_Yard HF.out (H1.out.ext X.out) (H2.out.ext X.out) (H3.out.ext X.out) (H4.out.ext X.out) (H5.out.ext X.out) (H6.out.ext X.out)) _ T.out).mono ?_); rintro e w7 ⟨rfl, hx7⟩; replace X := Lib.hid (X.out.trans hx7); replace XV := Lib.hid (XV.out.trans hx7); replace QA := Lib.hid (QA.out.ext hx7); replace QR := Lib.hid (QR.out.ext hx7); clear hx7 qa; have qa := QA.out.cell) | (go_at_call 83; (with_reducible refine (specBookCut_any (S := S) y.nodes n fr _ _ (H4.out.ext X.out)).mono ?_); rw [HX.out]; rintro e wn ⟨csn, FN, rfl, ⟨un, rfl, hfn, qn⟩, gn, hxn⟩; obtain ⟨pn, kn, rfl, -⟩ := OwS.form qn; have QX := Lib.hid qn; have HFN : Hid (FitNodesOut x) := Lib.hid hfn; have GN : Hid (∀ b ∈ FN, W.heap.size ≤ b) := Lib.hid (fun b hb => Nat.le_trans XV.out.size (gn b hb)); have LN := Lib.hid qn.lt; replace X := Lib.hid (X.out.trans hxn); replace XV := Lib.hid (XV.out.trans hxn); replace QA := Lib.hid (QA.out.ext hxn); replace QR := Lib.hid (QR.out.ext hxn); clear hxn qa; clear qn hfn gn; simp only [cellsNodesOut]; rw [HC.out]))
      have HCI : Hid (I64 c) := Lib.hid (by rw [← HC.out]; exact HFN.out)
      obtain ⟨WN, BN, hWN, hBN, hxN, bN⟩ : ∃ V B, V = wn.alloc (.cells #[.slice pn x.nodes.length kn, .int .i64 c] 114) ∧ B = wn.heap.size ∧ Ext wn V ∧ Blk V B 114 #[.slice pn x.nodes.length kn, .int .i64 c] := ⟨_, _, rfl, rfl, (Ext.refl wn).alloc _, Blk.new _ _ _⟩
      rw [← hWN, ← hBN]
      have QN := Lib.hid bN
      have XN := Lib.hid hxN
      clear hWN hBN bN hxN
      replace X := Lib.hid (X.out.trans XN.out)
      replace XV := Lib.hid (XV.out.trans XN.out)
      replace QA := Lib.hid (QA.out.ext XN.out)
      replace QR := Lib.hid (QR.out.ext XN.out)
      have qn := QN.out.cell
      go_upto_region 5 with (fail)
      clear hz
      go_wp2_with (first | (go_at_call 52; (with_reducible refine (l13IllT_any _ _).mono ?_); rintro e w8 ⟨rfl, hx8⟩; have H8 := Lib.hid hx8; clear hx8) | refine wpList_store_mid rfl 46 _ _ rfl (B + 1) 0 #[.slice none 0 0, .slice none 0 0, .slice none 0 0, .int .i64 0, .slice none 0 0, .slice none 0 0, .slice none 0 0, .int .i64 0, .int .i64 0, .int .i64 c] rfl rfl (Blk.there (t := 46) (cs := #[.slice none 0 0, .slice none 0 0, .slice none 0 0, .int .i64 0, .slice none 0 0, .slice none 0 0, .slice none 0 0, .int .i64 0, .int .i64 0, .int .i64 0]) (QR.out.ext H8.out)) (by kernel_rfl) (all_oneCell_toArray (cs := [.slice none 0 0, .slice none 0 0, .slice none 0 0, .int .i64 0, .slice none 0 0, .slice none 0 0, .slice none 0 0, .int .i64 0, .int .i64 0, .int .i64 c]) (by simp [Value.oneCell'])) ?_)
      exact bodyPost_ret (v := .agg #[.slice none 0 0, .slice none 0 0, .slice none 0 0, .int .i64 0, .slice none 0 0, .slice none 0 0, .slice none 0 0, .int .i64 0, .int .i64 0, .int .i64 c]) (results_blk Tryz.results31 rfl (Blk.setAll (t := 46) (cs := #[.slice none 0 0, .slice none 0 0, .slice none 0 0, .int .i64 0, .slice none 0 0, .slice none 0 0, .slice none 0 0, .int .i64 0, .int .i64 0, .int .i64 0]) (vs := #[.slice none 0 0, .slice none 0 0, .slice none 0 0, .int .i64 0, .slice none 0 0, .slice none 0 0, .slice none 0 0, .int .i64 0, .int .i64 0, .int .i64 c]) (QR.out.ext H8.out) rfl) Tryz.underlying46 rfl (by kernel_rfl)) rfl ⟨_, [], rfl, by rw [HE.out]; exact own_ill _ _ (by exact HCI.out), fun b hb => absurd hb (by simp), setCells_ext HB.out _ _ _ (X.out.trans H8.out)⟩
    case pos =>
      subst hz
      have HE : Hid (nodeY y x = ⟨withN y x.nodes, 0, 0⟩) := Lib.hid (nodeY_done T.out HC.out)
      have HFW := Lib.hid (few_yard T.out)
      go_upto_region 4 with (first | (go_at_call 82; (with_reducible refine (specYardRight_is (S := S) y _ _ (rel_Yard HF.out (H1.out.ext X.out) (H2.out.ext X.out) (H3.out.ext X.out) (H4.out.ext X.out) (H5.out.ext X.out) (H6.out.ext X.out)) _ T.out).mono ?_); rintro e w7 ⟨rfl, hx7⟩; replace X := Lib.hid (X.out.trans hx7); replace XV := Lib.hid (XV.out.trans hx7); replace QA := Lib.hid (QA.out.ext hx7); replace QR := Lib.hid (QR.out.ext hx7); clear hx7 qa; have qa := QA.out.cell) | (go_at_call 83; (with_reducible refine (specBookCut_any (S := S) y.nodes n fr _ _ (H4.out.ext X.out)).mono ?_); rw [HX.out]; rintro e wn ⟨csn, FN, rfl, ⟨un, rfl, hfn, qn⟩, gn, hxn⟩; obtain ⟨pn, kn, rfl, -⟩ := OwS.form qn; have QX := Lib.hid qn; have HFN : Hid (FitNodesOut x) := Lib.hid hfn; have GN : Hid (∀ b ∈ FN, W.heap.size ≤ b) := Lib.hid (fun b hb => Nat.le_trans XV.out.size (gn b hb)); have LN := Lib.hid qn.lt; replace X := Lib.hid (X.out.trans hxn); replace XV := Lib.hid (XV.out.trans hxn); replace QA := Lib.hid (QA.out.ext hxn); replace QR := Lib.hid (QR.out.ext hxn); clear hxn qa; clear qn hfn gn; simp only [cellsNodesOut]; rw [HC.out]))
      obtain ⟨WN, BN, hWN, hBN, hxN, bN⟩ : ∃ V B, V = wn.alloc (.cells #[.slice pn x.nodes.length kn, .int .i64 0] 114) ∧ B = wn.heap.size ∧ Ext wn V ∧ Blk V B 114 #[.slice pn x.nodes.length kn, .int .i64 0] := ⟨_, _, rfl, rfl, (Ext.refl wn).alloc _, Blk.new _ _ _⟩
      rw [← hWN, ← hBN]
      have QN := Lib.hid bN
      have XN := Lib.hid hxN
      clear hWN hBN bN hxN
      replace X := Lib.hid (X.out.trans XN.out)
      replace XV := Lib.hid (XV.out.trans XN.out)
      replace QA := Lib.hid (QA.out.ext XN.out)
      replace QR := Lib.hid (QR.out.ext XN.out)
      have qa := QA.out.cell
      have qn := QN.out.cell
      go_upto_region 7 with ((go_at_call 84; (with_reducible refine (l13Copy_own (S := S) y _ _ (rel_Yard HF.out (H1.out.ext X.out) (H2.out.ext X.out) (H3.out.ext X.out) (H4.out.ext X.out) (H5.out.ext X.out) (H6.out.ext X.out)) HFW.out).mono ?_); rintro e w9 ⟨cs9, G9, rfl, ⟨u1, u2, u3, u4, u5, u6, G1, G2, G3, G4, G5, G6, rfl, -, o1, o2, o3, o4, o5, o6, hG, hn⟩, g9, hx9⟩; obtain ⟨p1, k1, rfl, -⟩ := OwS.form o1; obtain ⟨p2, k2, rfl, -⟩ := OwS.form o2; obtain ⟨p3, k3, rfl, -⟩ := OwS.form o3; obtain ⟨p4, k4, rfl, -⟩ := OwS.form o4; obtain ⟨p5, k5, rfl, -⟩ := OwS.form o5; obtain ⟨p6, k6, rfl, -⟩ := OwS.form o6; have O1 := Lib.hid o1; have O2 := Lib.hid o2; have O3 := Lib.hid o3; have O4 := Lib.hid o4; have O5 := Lib.hid o5; have O6 := Lib.hid o6; have HG := Lib.hid hG; have HN := Lib.hid hn; have Z9 := Lib.hid g9; have H9 := Lib.hid hx9; clear o1 o2 o3 o4 o5 o6 hG hn g9 hx9 qa; simp only [cellsYard]))
      clear qn
      have qn9 := fun ob : Obj => (QN.out.ext (H9.out.trans ((Ext.refl w9).alloc ob))).cell
      go_upto_region 8 with (fail)
      clear qn9
      obtain ⟨W9, B9, hW9, hB9, hx9, b9⟩ : ∃ W B, W = w9.alloc (.cells #[.slice p1 y.config.nodes.length k1, .slice p2 y.config.pairs.length k2, .slice p3 y.config.quotas.length k3, .int .i64 y.config.half, .slice pn x.nodes.length kn, .slice p5 y.tasks.length k5, .slice p6 y.uses.length k6, .int .i64 y.now] 44) ∧ B = w9.heap.size ∧ Ext w9 W ∧ Blk W B 44 #[.slice p1 y.config.nodes.length k1, .slice p2 y.config.pairs.length k2, .slice p3 y.config.quotas.length k3, .int .i64 y.config.half, .slice pn x.nodes.length kn, .slice p5 y.tasks.length k5, .slice p6 y.uses.length k6, .int .i64 y.now] := ⟨_, _, rfl, rfl, (Ext.refl w9).alloc _, Blk.new _ _ _⟩
      rw [← hW9, ← hB9]
      have Q9 := Lib.hid b9
      have XO := Lib.hid hx9
      clear hW9 hB9 hx9 b9
      have RO := Lib.hid (QR.out.ext (H9.out.trans XO.out))
      have GE : Hid (∀ b ∈ G1 ++ (G2 ++ (G3 ++ (G4 ++ (G5 ++ G6)))), WN.heap.size ≤ b) := Lib.hid (by rw [← HG.out]; exact Z9.out)
      have q9 := Q9.out.cell
      go_wp2_with (refine wpList_store_mid rfl 46 _ _ rfl (B + 1) 0 (List.toArray [.slice p1 y.config.nodes.length k1, .slice p2 y.config.pairs.length k2, .slice p3 y.config.quotas.length k3, .int .i64 y.config.half, .slice pn x.nodes.length kn, .slice p5 y.tasks.length k5, .slice p6 y.uses.length k6, .int .i64 y.now, .int .i64 0, .int .i64 0]) rfl rfl (Blk.there (t := 46) (cs := #[.slice none 0 0, .slice none 0 0, .slice none 0 0, .int .i64 0, .slice none 0 0, .slice none 0 0, .slice none 0 0, .int .i64 0, .int .i64 0, .int .i64 0]) RO.out) (by kernel_rfl) (all_oneCell_toArray (cs := [.slice p1 y.config.nodes.length k1, .slice p2 y.config.pairs.length k2, .slice p3 y.config.quotas.length k3, .int .i64 y.config.half, .slice pn x.nodes.length kn, .slice p5 y.tasks.length k5, .slice p6 y.uses.length k6, .int .i64 y.now, .int .i64 0, .int .i64 0]) (by simp [Value.oneCell'])) ?_)
      have OW := own_put4 (a := WN.heap.size) HF.out (O1.out.ext XO.out) (O2.out.ext XO.out) (O3.out.ext XO.out) (O5.out.ext XO.out) (O6.out.ext XO.out) (QX.out.ext (XN.out.trans (H9.out.trans XO.out))) (by rw [← HG.out]; exact HN.out) (fun b hb => Nat.lt_of_lt_of_le (LN.out b hb) XN.out.size) GE.out
      have szR := QR.out.lt
      have szX := XV.out.size
      have szN := XN.out.size
      have all : ∀ b ∈ G1 ++ (G2 ++ (G3 ++ (FN ++ (G5 ++ G6)))), W.heap.size ≤ b := fun b hb => by
        simp only [List.mem_append] at hb
        have ge := fun h => GE.out b h
        simp only [List.mem_append] at ge
        rcases hb with h | h | h | h | h | h
        · have := ge (by simp [h]); omega
        · have := ge (by simp [h]); omega
        · have := ge (by simp [h]); omega
        · exact GN.out b h
        · have := ge (by simp [h]); omega
        · have := ge (by simp [h]); omega
      exact bodyPost_ret (v := .agg (List.toArray [.slice p1 y.config.nodes.length k1, .slice p2 y.config.pairs.length k2, .slice p3 y.config.quotas.length k3, .int .i64 y.config.half, .slice pn x.nodes.length kn, .slice p5 y.tasks.length k5, .slice p6 y.uses.length k6, .int .i64 y.now, .int .i64 0, .int .i64 0])) (results_blk Tryz.results31 rfl (Blk.setAll (t := 46) (cs := #[.slice none 0 0, .slice none 0 0, .slice none 0 0, .int .i64 0, .slice none 0 0, .slice none 0 0, .slice none 0 0, .int .i64 0, .int .i64 0, .int .i64 0]) (vs := List.toArray [.slice p1 y.config.nodes.length k1, .slice p2 y.config.pairs.length k2, .slice p3 y.config.quotas.length k3, .int .i64 y.config.half, .slice pn x.nodes.length kn, .slice p5 y.tasks.length k5, .slice p6 y.uses.length k6, .int .i64 y.now, .int .i64 0, .int .i64 0]) RO.out rfl) Tryz.underlying46 rfl (by kernel_rfl)) rfl
        ⟨_, G1 ++ (G2 ++ (G3 ++ (FN ++ (G5 ++ G6)))), rfl, by rw [HE.out]; exact ownk (own_out (y := withN y x.nodes) OW) (Kept.setCells (F := [B + 1]) (by simp) _ _ _ (Kept.refl _ _)) (fun b hb hm => by have := all b hb; have := List.mem_singleton.1 hm; have := HLT.out; omega),
          fun b hb => Nat.le_trans HXW.out.size (all b hb),
          setCells_ext HB.out _ _ _ (X.out.trans (H9.out.trans XO.out))⟩
end Go.Proofs.YtngldifgcgblpaaGreat
namespace Go.Proofs.YtngldifgcgblpaaGreat
open Go.RowKit
attribute [local irreducible] wpQuiet
theorem call_Unbook1 : ∀ (args : Array Value) (W : World), (callFunc 86 args).run Tryz.prog W = .ok (.enter 86 args) W := by
  intro args W
  go_simp
set_option maxHeartbeats 8000000 in
set_option maxRecDepth 100000 in
theorem unbook1_any {S : Nat → Prop} (l : List Node) (n fr : Int) (v : Value) (B1 B2 : Nat) (w : World) (h : Rd ENode S w v l) (hp : w.cell? ⟨B1, 0, none⟩ = some (.int .i64 n)) (hq : w.cell? ⟨B2, 0, none⟩ = some (.int .i64 fr)) :
    Calls Tryz.prog 86 #[v, .pointer (some ⟨B1, 0, none⟩), .pointer (some ⟨B2, 0, none⟩)] w (RetOS ONodesOut (bookCut l n fr) w) := by
  obtain ⟨A, c, rfl, -⟩ := h.form
  have HR := Lib.hid h
  obtain ⟨m, hm⟩ : ∃ m, bookCut l n fr = m := ⟨_, rfl⟩
  rw [hm]
  have HM := Lib.hid hm
  clear hm h
  go_enter Tryz.func86, Tryz.ntmps86
  go_upto_region 1 with (fail)
  obtain ⟨W, B, hW, hB, hx0, r0⟩ : ∃ W B, W = w.alloc (.cells #[.slice none 0 0, .int .i64 0] 114) ∧ B = w.heap.size ∧ Ext w W ∧ Blk W B 114 #[.slice none 0 0, .int .i64 0] := ⟨_, _, rfl, rfl, (Ext.refl w).alloc _, Blk.new _ _ _⟩
  rw [← hW, ← hB]
  have HB : Hid (w.heap.size ≤ B) := Lib.hid (by omega)
  have R := Lib.hid r0
  have X := Lib.hid hx0
  have g_hp := Ext.some hx0 hp
  have g_hq := Ext.some hx0 hq
  clear hW hB hx0 r0 hp hq
  go_wp2_with (first
    | (go_at_call 87; (with_reducible refine (bookCut_any (S := S) l n fr _ _ (HR.out.ext X.out)).mono ?_); rw [HM.out]; rintro e w8 ⟨cs8, F8, rfl, ⟨u8, rfl, ft8, q8⟩, g8, hx8⟩; obtain ⟨p8, k8, rfl, -⟩ := OwS.form q8; have Q8 := Lib.hid q8; have FT := Lib.hid ft8; have G8 := Lib.hid g8; have H8 := Lib.hid hx8; clear q8 ft8 g8 hx8 g_hp g_hq; simp only [cellsNodesOut])
    | refine wpList_store_mid rfl 114 _ _ rfl B 0 (List.toArray [.slice p8 m.nodes.length k8, .int .i64 m.code]) rfl rfl (Blk.there (t := 114) (cs := #[.slice none 0 0, .int .i64 0]) (R.out.ext H8.out)) (by kernel_rfl) (all_oneCell_toArray (cs := [.slice p8 m.nodes.length k8, .int .i64 m.code]) (by simp [Value.oneCell'])) ?_)
  exact bodyPost_ret (v := .agg (List.toArray [.slice p8 m.nodes.length k8, .int .i64 m.code])) (results_blk Tryz.results86 rfl (Blk.setAll (t := 114) (cs := #[.slice none 0 0, .int .i64 0]) (vs := List.toArray [.slice p8 m.nodes.length k8, .int .i64 m.code]) (R.out.ext H8.out) rfl) Tryz.underlying114 rfl (by kernel_rfl)) rfl
    ⟨_, F8, rfl, ownk (O := ONodesOut) ⟨_, rfl, FT.out, Q8.out⟩ (Kept.setCells (F := [B]) (by simp) _ _ _ (Kept.refl _ _)) (fun b hb hm => by have := G8.out b hb; have := R.out.lt; have := List.mem_singleton.1 hm; omega), fun b hb => Nat.le_trans X.out.size (G8.out b hb), setCells_ext HB.out _ _ _ (X.out.trans H8.out)⟩
set_option maxHeartbeats 8000000 in
set_option maxRecDepth 100000 in
theorem yardUnbook_any {S : Nat → Prop} (y : Yard) (n fr : Int) (cs : List Value) (w : World) (h : EYard.rel S w cs y) :
    Calls Tryz.prog 32 #[.agg cs.toArray, .int .i64 n, .int .i64 fr] w (RetOS OYardOut (nodeY y (bookCut y.nodes n fr)) w) := by
  obtain ⟨v1, v2, v3, v4, v5, v6, rfl, hf, h1, h2, h3, h4, h5, h6⟩ := h
  obtain ⟨A1, c1, rfl, -⟩ := h1.form
  obtain ⟨A2, c2, rfl, -⟩ := h2.form
  obtain ⟨A3, c3, rfl, -⟩ := h3.form
  obtain ⟨A4, c4, rfl, -⟩ := h4.form
  obtain ⟨A5, c5, rfl, -⟩ := h5.form
  obtain ⟨A6, c6, rfl, -⟩ := h6.form
  have HF := Lib.hid hf
  have HFC : Hid (FitConfig y.config) := Lib.hid hf.1
  have H1 := Lib.hid h1
  have H2 := Lib.hid h2
  have H3 := Lib.hid h3
  have H4 := Lib.hid h4
  have H5 := Lib.hid h5
  have H6 := Lib.hid h6
  clear hf h1 h2 h3 h4 h5 h6
  simp only [cellsYard]
  have XID : ∀ V : World, Hid (Ext V V) := fun V => Lib.hid (Ext.refl V)
  obtain ⟨m, hm⟩ : ∃ m, nodeY y (bookCut y.nodes n fr) = m := ⟨_, rfl⟩
  rw [hm]
  have HME := Lib.hid hm
  clear hm
  go_enter Tryz.func32, Tryz.ntmps32
  go_upto_region 1 with (fail)
  obtain ⟨W, B, hW, hB, hx0, a0, b0, d0, r0⟩ := boxes4 w #[.slice A1 y.config.nodes.length c1, .slice A2 y.config.pairs.length c2, .slice A3 y.config.quotas.length c3, .int .i64 y.config.half, .slice A4 y.nodes.length c4, .slice A5 y.tasks.length c5, .slice A6 y.uses.length c6, .int .i64 y.now] #[.int .i64 n] #[.int .i64 fr] #[.slice none 0 0, .slice none 0 0, .slice none 0 0, .int .i64 0, .slice none 0 0, .slice none 0 0, .slice none 0 0, .int .i64 0, .int .i64 0, .int .i64 0] 44 2 2 46
  rw [← hW, ← hB]
  have HB : Hid (w.heap.size ≤ B + 1 + 1 + 1) := Lib.hid (by omega)
  have QA := Lib.hid a0
  have QB := Lib.hid b0
  have QD := Lib.hid d0
  have QR := Lib.hid r0
  have X := Lib.hid hx0
  clear hW hB hx0 a0 b0 d0 r0
  have qa := QA.out.cell
  have qb := QB.out.cell
  have HCL : Hid (∀ (v : Value) (V : World), Ext W V → Rd ENode S V v y.nodes → Calls Tryz.prog 86 (#[v] ++ #[.pointer (some ⟨B + 1, 0, none⟩), .pointer (some ⟨B + 1 + 1, 0, none⟩)]) V (RetOS ONodesOut (bookCut y.nodes n fr) V)) := Lib.hid (fun v V hV hr => by rw [caps_two]; exact unbook1_any (S := S) y.nodes n fr v _ _ V hr ((QB.out.ext hV).cell 0) ((QD.out.ext hV).cell 0))
  go_wp2_with (first
    | (go_at_call 85; (with_reducible refine (withNodes_any (S := S) y _ (bookCut y.nodes n fr) 86 #[.pointer (some ⟨B + 1, 0, none⟩), .pointer (some ⟨B + 1 + 1, 0, none⟩)] _ (rel_Yard HF.out (H1.out.ext X.out) (H2.out.ext X.out) (H3.out.ext X.out) (H4.out.ext X.out) (H5.out.ext X.out) (H6.out.ext X.out)) call_Unbook1 HCL.out).mono ?_); rw [HME.out]; rintro e w8 ⟨cs8, F8, rfl, o8, g8, hx8⟩; obtain ⟨u1, u2, u3, u4, u5, u6, F1, F2, F3, F4, F5, F6, rfl, f8, o1, o2, o3, o4, o5, o6, hF8, hn8⟩ := id o8; obtain ⟨P1, K1, rfl, -⟩ := OwS.form o1; obtain ⟨P2, K2, rfl, -⟩ := OwS.form o2; obtain ⟨P3, K3, rfl, -⟩ := OwS.form o3; obtain ⟨P4, K4, rfl, -⟩ := OwS.form o4; obtain ⟨P5, K5, rfl, -⟩ := OwS.form o5; obtain ⟨P6, K6, rfl, -⟩ := OwS.form o6; have O8 := Lib.hid o8; have G8 := Lib.hid g8; have H8 := Lib.hid hx8; have R8 := Lib.hid (QR.out.ext hx8); clear o8 g8 hx8 f8 o1 o2 o3 o4 o5 o6 hF8 hn8 qa qb; simp only [cellsYardOut])
    | refine wpList_store_mid rfl 46 _ _ rfl (B + 1 + 1 + 1) 0 (List.toArray [.slice P1 m.yard.config.nodes.length K1, .slice P2 m.yard.config.pairs.length K2, .slice P3 m.yard.config.quotas.length K3, .int .i64 m.yard.config.half, .slice P4 m.yard.nodes.length K4, .slice P5 m.yard.tasks.length K5, .slice P6 m.yard.uses.length K6, .int .i64 m.yard.now, .int .i64 m.id, .int .i64 m.code]) rfl rfl (Blk.there (t := 46) (cs := #[.slice none 0 0, .slice none 0 0, .slice none 0 0, .int .i64 0, .slice none 0 0, .slice none 0 0, .slice none 0 0, .int .i64 0, .int .i64 0, .int .i64 0]) R8.out) (by kernel_rfl) (all_oneCell_toArray (cs := [.slice P1 m.yard.config.nodes.length K1, .slice P2 m.yard.config.pairs.length K2, .slice P3 m.yard.config.quotas.length K3, .int .i64 m.yard.config.half, .slice P4 m.yard.nodes.length K4, .slice P5 m.yard.tasks.length K5, .slice P6 m.yard.uses.length K6, .int .i64 m.yard.now, .int .i64 m.id, .int .i64 m.code]) (by simp [Value.oneCell'])) ?_)
  exact bodyPost_ret (v := .agg (List.toArray [.slice P1 m.yard.config.nodes.length K1, .slice P2 m.yard.config.pairs.length K2, .slice P3 m.yard.config.quotas.length K3, .int .i64 m.yard.config.half, .slice P4 m.yard.nodes.length K4, .slice P5 m.yard.tasks.length K5, .slice P6 m.yard.uses.length K6, .int .i64 m.yard.now, .int .i64 m.id, .int .i64 m.code])) (results_blk Tryz.results32 rfl (Blk.setAll (t := 46) (cs := #[.slice none 0 0, .slice none 0 0, .slice none 0 0, .int .i64 0, .slice none 0 0, .slice none 0 0, .slice none 0 0, .int .i64 0, .int .i64 0, .int .i64 0]) (vs := List.toArray [.slice P1 m.yard.config.nodes.length K1, .slice P2 m.yard.config.pairs.length K2, .slice P3 m.yard.config.quotas.length K3, .int .i64 m.yard.config.half, .slice P4 m.yard.nodes.length K4, .slice P5 m.yard.tasks.length K5, .slice P6 m.yard.uses.length K6, .int .i64 m.yard.now, .int .i64 m.id, .int .i64 m.code]) R8.out rfl) Tryz.underlying46 rfl (by kernel_rfl)) rfl
    ⟨_, F8, rfl, ownk O8.out (Kept.setCells (F := [B + 1 + 1 + 1]) (by simp) _ _ _ (Kept.refl _ _)) (fun b hb hm => by have := G8.out b hb; have := QR.out.lt; have := (XID W).out.size; have := List.mem_singleton.1 hm; omega), fun b hb => Nat.le_trans (Nat.le_trans X.out.size (XID W).out.size) (G8.out b hb), setCells_ext HB.out _ _ _ (X.out.trans ((XID W).out.trans H8.out))⟩
end Go.Proofs.YtngldifgcgblpaaGreat
