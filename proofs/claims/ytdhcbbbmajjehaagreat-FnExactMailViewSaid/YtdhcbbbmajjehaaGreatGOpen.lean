/- What turns a walk of a law into the row that says it: the arguments' readings opened, and the row's last step. No program in sight. The laws' arguments, opened to plain data. Printed by wip/gen.py. -/
import Derived.Test.YtdhcbbbmajjehaaGreatLib
import Derived.Test.YtdhcbbbmajjehaaGreatGElems
import Derived.ProofKit
import Derived.Deep.Slices
import Derived.Test.YtdhcbbbmajjehaaGreatRows
namespace Go.Proofs.YtdhcbbbmajjehaaGreat
open Go.RowKit Go.ChangeShapes Go.WideShapes Go.Deep

/-- Whatever can be read as data of type t reads as an element. -/
def Opens {α : Type} (P : Program) (t : TypeId) (E : Elem α) : Prop :=
  ∀ {H : Type} {enc : TypeId × Value → H} {w : World} {base : Nat} {spare : Nat → Bool} {held : Bool} {fuel : Nat} {cs : List Value} {x : DataW H × List MemPlace},
    DataW.trod enc P w base spare held fuel t cs = .some x → ∃ y, E.rel (fun _ => True) w cs y

def EStr : Elem ByteArray where
  size := 1
  rel := fun _ _ cs x => cs = [.string x] ∧ Str x
  len := by rintro _ _ _ _ ⟨rfl, _⟩; rfl
  keep := fun _ h => h
  sub := fun _ h => h
  one := by rintro _ _ _ _ ⟨rfl, _⟩; simp [Value.oneCell']

theorem len_succ {cs : List Value} {n : Nat} (h : cs.length = n + 1) : ∃ c r, cs = c :: r ∧ r.length = n := by
  cases cs with
  | nil => cases h
  | cons c r => exact ⟨c, r, rfl, by simpa using h⟩
theorem i64_of_wf {n : Int} (h : (Lit.int .i64 n).wf = true) : I64 n := by
  simp [Lit.wf, IntKind.min, IntKind.max, IntKind.signed, IntKind.bits] at h
  exact ⟨by omega, by omega⟩
theorem opens_int64 {P : Program} {t : TypeId} (ht : P.underlying t = .some (.int .i64)) : Opens P t EInt := by
  intro H enc w base spare held fuel cs x h
  obtain ⟨n, rfl, _, hw⟩ := DataW.trod_int ht h
  exact ⟨n, rfl, i64_of_wf hw⟩
theorem opens_str {P : Program} {t : TypeId} (ht : P.underlying t = .some .string) : Opens P t EStr := by
  intro H enc w base spare held fuel cs x h
  obtain ⟨s, rfl, _, hw⟩ := DataW.trod_string ht h
  exact ⟨s, rfl, hw⟩
theorem cells_range {w : World} {base : Nat} {a : Addr} {n : Nat} {cs : List Value} (h : w.cells? base a n = .some cs) : cs.length = n ∧ ∀ j, j < n → w.cell? (a.add j) = cs[j]? := by
  obtain ⟨_, h1, h2⟩ := World.cells?_some h
  exact ⟨h1, h2⟩
theorem opens_row {α : Type} {P : Program} {t e : TypeId} {E : Elem α} (ht : P.underlying t = .some (.slice e)) (hC : P.cellsOf e = E.size) (hz : 0 < E.size) (ho : Opens P e E) : Opens P t (ERow E) := by
  intro H enc w base spare held fuel cs x h
  rcases open_slice ht h with ⟨rfl, _⟩ | ⟨a, len, cap, m, n, D, Pl, rfl, _, hl, hm, hmm, hxx, hi⟩
  · exact ⟨[], _, rfl, none, 0, rfl, Nat.le_refl _, Nat.zero_le _, fun k x hk => by simp at hk⟩
  · have hlm : len ≤ m := by subst hmm; split <;> omega
    have hel : ∀ i, i < len → ∃ y : α, ∃ cs', E.rel (fun _ => True) w cs' y ∧ cs'.length = E.size ∧ ∀ j, j < E.size → w.cell? ((a.add (i * E.size)).add j) = cs'[j]? := fun i hlt => by
      obtain ⟨cs', hc, hd⟩ := hi i (by omega)
      obtain ⟨y, hy⟩ := ho hd
      rw [hC] at hc
      obtain ⟨h1, h2⟩ := cells_range hc
      exact ⟨y, cs', hy, h1, h2⟩
    have hex : ∃ l : List α, l.length = len ∧ ∀ i y, l[i]? = .some y → ∃ cs', E.rel (fun _ => True) w cs' y ∧ cs'.length = E.size ∧ ∀ j, j < E.size → w.cell? ((a.add (i * E.size)).add j) = cs'[j]? := by
      clear hi hl hm hmm hlm h hxx
      induction len with
      | zero => exact ⟨[], rfl, fun i y hy => by simp at hy⟩
      | succ len ih =>
        obtain ⟨l, h1, h2⟩ := ih (fun i hlt => hel i (by omega))
        obtain ⟨y, hy⟩ := hel len (by omega)
        refine ⟨l ++ [y], by simp [h1], fun i z hz => ?_⟩
        by_cases hi : i < l.length
        · rw [List.getElem?_append_left hi] at hz
          exact h2 i z hz
        · rw [List.getElem?_append_right (by omega)] at hz
          obtain ⟨hlt, rfl⟩ : i - l.length = 0 ∧ y = z := by
            rcases Nat.eq_zero_or_pos (i - l.length) with h0 | h0
            · rw [h0] at hz; exact ⟨h0, by simpa using hz⟩
            · rw [List.getElem?_eq_none (by simp; omega)] at hz; cases hz
          obtain rfl : i = len := by omega
          exact hy
    obtain ⟨l, h1, h2⟩ := hex
    subst h1
    refine ⟨l, _, rfl, some a, cap, rfl, hl, hm, fun k y hk => ?_⟩
    obtain ⟨cs', hy, hcl, hc⟩ := h2 k y hk
    have hs : a.spot = none := by
      have hkl : k < l.length := (List.getElem?_eq_some_iff.1 hk).1
      obtain ⟨cs0, _, hcl0, hc0⟩ := h2 0 (l[0]'(by omega)) (List.getElem?_eq_getElem (by omega))
      have h0 := hc0 0 hz
      rw [List.getElem?_eq_getElem (by omega), Nat.zero_mul] at h0
      have := World.cell?_spot h0
      simpa [Addr.add] using this
    obtain ⟨b, o, s⟩ := a
    obtain rfl : s = none := hs
    refine ⟨b, o, cs', rfl, trivial, hy, fun j v hj => ?_⟩
    have hjl : j < cs'.length := (List.getElem?_eq_some_iff.1 hj).1
    have := hc j (by omega)
    rw [hj] at this
    rw [← this, Addr.add_mid, Addr.add_mid]

section
variable {H : Type} {enc : TypeId × Value → H} {P : Program}
/-- Each of some arguments, in memory that has grown. -/
theorem trodAll_stays (hl : laidOutB P = true) {W W' : World} (hb : Ext W W') {sp : Nat → Bool} : ∀ {ts : List TypeId} {vs : List Value} {ds : List (DataW H)} {ps : List MemPlace}, (∀ t ∈ ts, P.readableRec t = true ∧ t < P.types.size) →
    DataW.TrodAll enc P W 0 (fun _ => true) true ts vs ds ps → (∀ p ∈ ps, p.block < W.heap.size) → (∀ p ∈ ps, sp p.block = true) → DataW.TrodAll enc P W' 0 sp true ts vs ds ps
  | [], [], [], _, _, h, _, _ => h
  | _ :: _, _ :: _, _ :: _, _, hT, ⟨p, q, h1, h2, e⟩, hlt, hs => by
    subst e
    refine ⟨p, q, ?_, trodAll_stays hl hb (fun t ht => hT t (List.mem_cons_of_mem _ ht)) h2 (fun x hx => hlt x (List.mem_append_right _ hx)) (fun x hx => hs x (List.mem_append_right _ hx)), rfl⟩
    exact WideElems.Trod_stays hl (hT _ (List.mem_cons_self ..)).1 (hT _ (List.mem_cons_self ..)).2 h1 (fun x hx => Below.same hb (hlt x (List.mem_append_left _ hx))) (fun x hx => hs x (List.mem_append_left _ hx))

/-- The last step of a law's row: it has answered true, and memory has only grown. -/
theorem law_post {f : Func} {s : ChangeSpec} {apart fresh handsOn again : Bool} {W W' : World} {args : Array Value} {ds : List (DataW H)} {before : List MemPlace} {tb : TypeId}
    (hl : laidOutB P = true) (hr : f.resultTypes = #[tb]) (hb : P.underlying tb = .some .bool) (hT : ∀ t ∈ f.params.toList, P.readableRec t = true ∧ t < P.types.size)
    (hsv : s.vars = []) (hfn : s.fn H (ds ++ []) = { results := [.lit (.bool true)], args := ds })
    (hW : DataW.Whole enc P f.params.toList s.vars apart W args.toList ds [] before) (hx : Ext W W') :
    s.post enc P f apart fresh handsOn again W args (.bool true) W' := by
  have hlt : ∀ p ∈ before, p.block < W.heap.size := fun p hp => hW.lt p hp
  have hold : ∀ p ∈ before, (fun b => decide (b < W.heap.size)) p.block = true := fun p hp => by simpa using hlt p hp
  have hW' := hW
  obtain ⟨pa, pv, hA, hV, rfl, hz, hn⟩ := hW
  rw [hsv] at hV
  obtain rfl : pv = [] := hV
  rw [List.append_nil] at hlt hold hz hn hW'
  have hargs : ∀ sp : Nat → Bool, (∀ p ∈ pa, sp p.block = true) → DataW.TrodAll enc P W' 0 sp true f.params.toList args.toList (s.fn H (ds ++ [])).args pa := fun sp hs => by
    rw [hfn]
    exact trodAll_stays hl hx hT hA hlt hs
  have hres : ∀ (b : Nat) (sp : Nat → Bool) (hd : Bool), DataW.TrodAll enc P W' b sp hd f.resultTypes.toList ((Value.bool true).resultList f.resultTypes.size) (s.fn H (ds ++ [])).results [] := fun b sp hd => by
    rw [hfn, hr]
    exact trodAll_mk1 (shut_bool hb true)
  have hvars : ∀ sp : Nat → Bool, DataW.TrodVars enc P W' sp s.vars (s.fn H (ds ++ [])).vars [] := fun sp => by
    rw [hfn, hsv]
    exact rfl
  refine ⟨ds, [], pa, [], pa, [], hW', hres _ _ _, hargs _ hold, hvars _, World.keptBut_mono (fun p hp => ⟨hp, Or.inr (Or.inl hp)⟩) (Below.frame hx (· ∈ pa)), fun _ => ?_⟩
  refine ⟨ok_one hr rfl (okWide_bool_mk hb true), _, _, ([] ++ pa) ++ [], ⟨[] ++ pa, [], trodAll_append (hargs _ (fun _ _ => rfl)) (hres _ _ _), hvars _, rfl, ?_, ?_⟩, ?_⟩
  · intro b off hp
    have hin : MemPlace.cell b off ∈ pa := by simpa using hp
    rw [Below.frozen hx (hlt _ hin)]
    exact hz b off hin
  · intro ha
    simpa using hn ha
  · intro p hp _
    simpa using hp
end
end Go.Proofs.YtdhcbbbmajjehaaGreat

namespace Go.Proofs.YtdhcbbbmajjehaaGreat
open Go.RowKit Go.ChangeShapes Go.WideShapes Go.Deep

theorem opens_int : Opens Tryz.prog 2 EInt := opens_int64 Tryz.underlying2
theorem opens_Label : Opens Tryz.prog 31 ELabel := by
  intro H enc w base spare held fuel cs x h
  obtain ⟨xs, n, _, _, hlen, hxl, hf⟩ := DataW.trod_struct Tryz.underlying31 h
  have hlen2 : cs.length = 2 := hlen.trans (by kernel_rfl)
  clear hlen
  obtain ⟨c0, r0, rfl, k0⟩ := len_succ hlen2
  obtain ⟨c1, r1, rfl, k1⟩ := len_succ k0
  obtain rfl := List.eq_nil_of_length_eq_zero k1
  clear hlen2 k0 k1
  have f0 : DataW.trod enc Tryz.prog w base spare held n 2 (([c0, c1].drop 0).take (Tryz.prog.cellsOf 2)) = xs[0]? := hf 0 _ rfl
  have z0 : Tryz.prog.cellsOf 2 = 1 := by kernel_rfl
  rw [z0, List.getElem?_eq_getElem (show 0 < xs.length from by rw [hxl]; decide)] at f0
  have f1 : DataW.trod enc Tryz.prog w base spare held n 2 (([c0, c1].drop 1).take (Tryz.prog.cellsOf 2)) = xs[1]? := hf 1 _ rfl
  have z1 : Tryz.prog.cellsOf 2 = 1 := by kernel_rfl
  rw [z1, List.getElem?_eq_getElem (show 1 < xs.length from by rw [hxl]; decide)] at f1
  obtain ⟨y0, g0⟩ := opens_int f0
  clear f0
  obtain ⟨e0, i0⟩ := g0
  obtain rfl : c0 = .int .i64 y0 := by simpa using e0
  obtain ⟨y1, g1⟩ := opens_int f1
  clear f1
  obtain ⟨e1, i1⟩ := g1
  obtain rfl : c1 = .int .i64 y1 := by simpa using e1
  refine ⟨⟨y0, y1⟩, rfl, ?_⟩
  simp only [FitLabel] at *
  simp only [i0, i1, and_self]

theorem opens_string : Opens Tryz.prog 9 EStr := opens_str Tryz.underlying9
theorem opens_Int64S : Opens Tryz.prog 60 (ERow EInt) := opens_row Tryz.underlying60 (by kernel_rfl) (by decide) opens_int
theorem opens_Pair : Opens Tryz.prog 91 EPair := by
  intro H enc w base spare held fuel cs x h
  obtain ⟨xs, n, _, _, hlen, hxl, hf⟩ := DataW.trod_struct Tryz.underlying91 h
  have hlen2 : cs.length = 5 := hlen.trans (by kernel_rfl)
  clear hlen
  obtain ⟨c0, r0, rfl, k0⟩ := len_succ hlen2
  obtain ⟨c1, r1, rfl, k1⟩ := len_succ k0
  obtain ⟨c2, r2, rfl, k2⟩ := len_succ k1
  obtain ⟨c3, r3, rfl, k3⟩ := len_succ k2
  obtain ⟨c4, r4, rfl, k4⟩ := len_succ k3
  obtain rfl := List.eq_nil_of_length_eq_zero k4
  clear hlen2 k0 k1 k2 k3 k4
  have f0 : DataW.trod enc Tryz.prog w base spare held n 31 (([c0, c1, c2, c3, c4].drop 0).take (Tryz.prog.cellsOf 31)) = xs[0]? := hf 0 _ rfl
  have z0 : Tryz.prog.cellsOf 31 = 2 := by kernel_rfl
  rw [z0, List.getElem?_eq_getElem (show 0 < xs.length from by rw [hxl]; decide)] at f0
  have f1 : DataW.trod enc Tryz.prog w base spare held n 31 (([c0, c1, c2, c3, c4].drop 2).take (Tryz.prog.cellsOf 31)) = xs[1]? := hf 1 _ rfl
  have z1 : Tryz.prog.cellsOf 31 = 2 := by kernel_rfl
  rw [z1, List.getElem?_eq_getElem (show 1 < xs.length from by rw [hxl]; decide)] at f1
  have f2 : DataW.trod enc Tryz.prog w base spare held n 2 (([c0, c1, c2, c3, c4].drop 4).take (Tryz.prog.cellsOf 2)) = xs[2]? := hf 2 _ rfl
  have z2 : Tryz.prog.cellsOf 2 = 1 := by kernel_rfl
  rw [z2, List.getElem?_eq_getElem (show 2 < xs.length from by rw [hxl]; decide)] at f2
  obtain ⟨y0, g0⟩ := opens_Label f0
  clear f0
  obtain ⟨e0, i0⟩ := g0
  simp only [cellsLabel, List.drop_zero, List.take_succ_cons, List.take_zero, List.cons.injEq, and_true] at e0
  obtain ⟨rfl, rfl⟩ := e0
  obtain ⟨y1, g1⟩ := opens_Label f1
  clear f1
  obtain ⟨e1, i1⟩ := g1
  simp only [cellsLabel, List.drop_zero, List.drop_succ_cons, List.take_succ_cons, List.take_zero, List.cons.injEq, and_true] at e1
  obtain ⟨rfl, rfl⟩ := e1
  obtain ⟨y2, g2⟩ := opens_int f2
  clear f2
  obtain ⟨e2, i2⟩ := g2
  obtain rfl : c4 = .int .i64 y2 := by simpa using e2
  refine ⟨⟨y0, y1, y2⟩, rfl, ?_⟩
  simp only [FitPair, FitLabel, FitLabel] at *
  simp only [i0, i1, i2, and_self]

theorem opens_Quota : Opens Tryz.prog 96 EQuota := by
  intro H enc w base spare held fuel cs x h
  obtain ⟨xs, n, _, _, hlen, hxl, hf⟩ := DataW.trod_struct Tryz.underlying96 h
  have hlen2 : cs.length = 3 := hlen.trans (by kernel_rfl)
  clear hlen
  obtain ⟨c0, r0, rfl, k0⟩ := len_succ hlen2
  obtain ⟨c1, r1, rfl, k1⟩ := len_succ k0
  obtain ⟨c2, r2, rfl, k2⟩ := len_succ k1
  obtain rfl := List.eq_nil_of_length_eq_zero k2
  clear hlen2 k0 k1 k2
  have f0 : DataW.trod enc Tryz.prog w base spare held n 31 (([c0, c1, c2].drop 0).take (Tryz.prog.cellsOf 31)) = xs[0]? := hf 0 _ rfl
  have z0 : Tryz.prog.cellsOf 31 = 2 := by kernel_rfl
  rw [z0, List.getElem?_eq_getElem (show 0 < xs.length from by rw [hxl]; decide)] at f0
  have f1 : DataW.trod enc Tryz.prog w base spare held n 2 (([c0, c1, c2].drop 2).take (Tryz.prog.cellsOf 2)) = xs[1]? := hf 1 _ rfl
  have z1 : Tryz.prog.cellsOf 2 = 1 := by kernel_rfl
  rw [z1, List.getElem?_eq_getElem (show 1 < xs.length from by rw [hxl]; decide)] at f1
  obtain ⟨y0, g0⟩ := opens_Label f0
  clear f0
  obtain ⟨e0, i0⟩ := g0
  simp only [cellsLabel, List.drop_zero, List.take_succ_cons, List.take_zero, List.cons.injEq, and_true] at e0
  obtain ⟨rfl, rfl⟩ := e0
  obtain ⟨y1, g1⟩ := opens_int f1
  clear f1
  obtain ⟨e1, i1⟩ := g1
  obtain rfl : c2 = .int .i64 y1 := by simpa using e1
  refine ⟨⟨y0, y1⟩, rfl, ?_⟩
  simp only [FitQuota, FitLabel] at *
  simp only [i0, i1, and_self]

theorem opens_LabelS : Opens Tryz.prog 74 (ERow ELabel) := opens_row Tryz.underlying74 (by kernel_rfl) (by decide) opens_Label
theorem opens_LabelSS : Opens Tryz.prog 22 (ERow (ERow ELabel)) := opens_row Tryz.underlying22 (by kernel_rfl) (by decide) opens_LabelS
theorem opens_PairS : Opens Tryz.prog 23 (ERow EPair) := opens_row Tryz.underlying23 (by kernel_rfl) (by decide) opens_Pair
theorem opens_QuotaS : Opens Tryz.prog 24 (ERow EQuota) := opens_row Tryz.underlying24 (by kernel_rfl) (by decide) opens_Quota
theorem opens_Config : Opens Tryz.prog 26 EConfig := by
  intro H enc w base spare held fuel cs x h
  obtain ⟨xs, n, _, _, hlen, hxl, hf⟩ := DataW.trod_struct Tryz.underlying26 h
  have hlen2 : cs.length = 4 := hlen.trans (by kernel_rfl)
  clear hlen
  obtain ⟨c0, r0, rfl, k0⟩ := len_succ hlen2
  obtain ⟨c1, r1, rfl, k1⟩ := len_succ k0
  obtain ⟨c2, r2, rfl, k2⟩ := len_succ k1
  obtain ⟨c3, r3, rfl, k3⟩ := len_succ k2
  obtain rfl := List.eq_nil_of_length_eq_zero k3
  clear hlen2 k0 k1 k2 k3
  have f0 : DataW.trod enc Tryz.prog w base spare held n 22 (([c0, c1, c2, c3].drop 0).take (Tryz.prog.cellsOf 22)) = xs[0]? := hf 0 _ rfl
  have z0 : Tryz.prog.cellsOf 22 = 1 := by kernel_rfl
  rw [z0, List.getElem?_eq_getElem (show 0 < xs.length from by rw [hxl]; decide)] at f0
  have f1 : DataW.trod enc Tryz.prog w base spare held n 23 (([c0, c1, c2, c3].drop 1).take (Tryz.prog.cellsOf 23)) = xs[1]? := hf 1 _ rfl
  have z1 : Tryz.prog.cellsOf 23 = 1 := by kernel_rfl
  rw [z1, List.getElem?_eq_getElem (show 1 < xs.length from by rw [hxl]; decide)] at f1
  have f2 : DataW.trod enc Tryz.prog w base spare held n 24 (([c0, c1, c2, c3].drop 2).take (Tryz.prog.cellsOf 24)) = xs[2]? := hf 2 _ rfl
  have z2 : Tryz.prog.cellsOf 24 = 1 := by kernel_rfl
  rw [z2, List.getElem?_eq_getElem (show 2 < xs.length from by rw [hxl]; decide)] at f2
  have f3 : DataW.trod enc Tryz.prog w base spare held n 2 (([c0, c1, c2, c3].drop 3).take (Tryz.prog.cellsOf 2)) = xs[3]? := hf 3 _ rfl
  have z3 : Tryz.prog.cellsOf 2 = 1 := by kernel_rfl
  rw [z3, List.getElem?_eq_getElem (show 3 < xs.length from by rw [hxl]; decide)] at f3
  obtain ⟨y0, g0⟩ := opens_LabelSS f0
  clear f0
  obtain ⟨v0, e0, i0⟩ := g0
  obtain rfl : c0 = v0 := by simpa using e0
  obtain ⟨y1, g1⟩ := opens_PairS f1
  clear f1
  obtain ⟨v1, e1, i1⟩ := g1
  obtain rfl : c1 = v1 := by simpa using e1
  obtain ⟨y2, g2⟩ := opens_QuotaS f2
  clear f2
  obtain ⟨v2, e2, i2⟩ := g2
  obtain rfl : c2 = v2 := by simpa using e2
  obtain ⟨y3, g3⟩ := opens_int f3
  clear f3
  obtain ⟨e3, i3⟩ := g3
  obtain rfl : c3 = .int .i64 y3 := by simpa using e3
  refine ⟨⟨y0, y1, y2, y3⟩, _, _, _, rfl, ?_, i0, i1, i2⟩
  simp only [FitConfig] at *
  simp only [i3]

theorem opens_Note : Opens Tryz.prog 119 ENote := by
  intro H enc w base spare held fuel cs x h
  obtain ⟨xs, n, _, _, hlen, hxl, hf⟩ := DataW.trod_struct Tryz.underlying119 h
  have hlen2 : cs.length = 2 := hlen.trans (by kernel_rfl)
  clear hlen
  obtain ⟨c0, r0, rfl, k0⟩ := len_succ hlen2
  obtain ⟨c1, r1, rfl, k1⟩ := len_succ k0
  obtain rfl := List.eq_nil_of_length_eq_zero k1
  clear hlen2 k0 k1
  have f0 : DataW.trod enc Tryz.prog w base spare held n 2 (([c0, c1].drop 0).take (Tryz.prog.cellsOf 2)) = xs[0]? := hf 0 _ rfl
  have z0 : Tryz.prog.cellsOf 2 = 1 := by kernel_rfl
  rw [z0, List.getElem?_eq_getElem (show 0 < xs.length from by rw [hxl]; decide)] at f0
  have f1 : DataW.trod enc Tryz.prog w base spare held n 2 (([c0, c1].drop 1).take (Tryz.prog.cellsOf 2)) = xs[1]? := hf 1 _ rfl
  have z1 : Tryz.prog.cellsOf 2 = 1 := by kernel_rfl
  rw [z1, List.getElem?_eq_getElem (show 1 < xs.length from by rw [hxl]; decide)] at f1
  obtain ⟨y0, g0⟩ := opens_int f0
  clear f0
  obtain ⟨e0, i0⟩ := g0
  obtain rfl : c0 = .int .i64 y0 := by simpa using e0
  obtain ⟨y1, g1⟩ := opens_int f1
  clear f1
  obtain ⟨e1, i1⟩ := g1
  obtain rfl : c1 = .int .i64 y1 := by simpa using e1
  refine ⟨⟨y0, y1⟩, rfl, ?_⟩
  simp only [FitNote] at *
  simp only [i0, i1, and_self]

theorem opens_NoteS : Opens Tryz.prog 76 (ERow ENote) := opens_row Tryz.underlying76 (by kernel_rfl) (by decide) opens_Note
theorem opens_Box : Opens Tryz.prog 78 EBox := by
  intro H enc w base spare held fuel cs x h
  obtain ⟨xs, n, _, _, hlen, hxl, hf⟩ := DataW.trod_struct Tryz.underlying78 h
  have hlen2 : cs.length = 3 := hlen.trans (by kernel_rfl)
  clear hlen
  obtain ⟨c0, r0, rfl, k0⟩ := len_succ hlen2
  obtain ⟨c1, r1, rfl, k1⟩ := len_succ k0
  obtain ⟨c2, r2, rfl, k2⟩ := len_succ k1
  obtain rfl := List.eq_nil_of_length_eq_zero k2
  clear hlen2 k0 k1 k2
  have f0 : DataW.trod enc Tryz.prog w base spare held n 60 (([c0, c1, c2].drop 0).take (Tryz.prog.cellsOf 60)) = xs[0]? := hf 0 _ rfl
  have z0 : Tryz.prog.cellsOf 60 = 1 := by kernel_rfl
  rw [z0, List.getElem?_eq_getElem (show 0 < xs.length from by rw [hxl]; decide)] at f0
  have f1 : DataW.trod enc Tryz.prog w base spare held n 60 (([c0, c1, c2].drop 1).take (Tryz.prog.cellsOf 60)) = xs[1]? := hf 1 _ rfl
  have z1 : Tryz.prog.cellsOf 60 = 1 := by kernel_rfl
  rw [z1, List.getElem?_eq_getElem (show 1 < xs.length from by rw [hxl]; decide)] at f1
  have f2 : DataW.trod enc Tryz.prog w base spare held n 76 (([c0, c1, c2].drop 2).take (Tryz.prog.cellsOf 76)) = xs[2]? := hf 2 _ rfl
  have z2 : Tryz.prog.cellsOf 76 = 1 := by kernel_rfl
  rw [z2, List.getElem?_eq_getElem (show 2 < xs.length from by rw [hxl]; decide)] at f2
  obtain ⟨y0, g0⟩ := opens_Int64S f0
  clear f0
  obtain ⟨v0, e0, i0⟩ := g0
  obtain rfl : c0 = v0 := by simpa using e0
  obtain ⟨y1, g1⟩ := opens_Int64S f1
  clear f1
  obtain ⟨v1, e1, i1⟩ := g1
  obtain rfl : c1 = v1 := by simpa using e1
  obtain ⟨y2, g2⟩ := opens_NoteS f2
  clear f2
  obtain ⟨v2, e2, i2⟩ := g2
  obtain rfl : c2 = v2 := by simpa using e2
  refine ⟨⟨y0, y1, y2⟩, _, _, _, rfl, ?_, i0, i1, i2⟩
  simp only [FitBox] at *
  all_goals trivial

theorem opens_BoxS : Opens Tryz.prog 27 (ERow EBox) := opens_row Tryz.underlying27 (by kernel_rfl) (by decide) opens_Box
theorem opens_Mail : Opens Tryz.prog 29 EMail := by
  intro H enc w base spare held fuel cs x h
  obtain ⟨xs, n, _, _, hlen, hxl, hf⟩ := DataW.trod_struct Tryz.underlying29 h
  have hlen2 : cs.length = 1 := hlen.trans (by kernel_rfl)
  clear hlen
  obtain ⟨c0, r0, rfl, k0⟩ := len_succ hlen2
  obtain rfl := List.eq_nil_of_length_eq_zero k0
  clear hlen2 k0
  have f0 : DataW.trod enc Tryz.prog w base spare held n 27 (([c0].drop 0).take (Tryz.prog.cellsOf 27)) = xs[0]? := hf 0 _ rfl
  have z0 : Tryz.prog.cellsOf 27 = 1 := by kernel_rfl
  rw [z0, List.getElem?_eq_getElem (show 0 < xs.length from by rw [hxl]; decide)] at f0
  obtain ⟨y0, g0⟩ := opens_BoxS f0
  clear f0
  obtain ⟨v0, e0, i0⟩ := g0
  obtain rfl : c0 = v0 := by simpa using e0
  refine ⟨⟨y0⟩, _, rfl, ?_, i0⟩
  simp only [FitMail] at *
  all_goals trivial

end Go.Proofs.YtdhcbbbmajjehaaGreat
