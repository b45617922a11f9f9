/- What a yard must be, in plain Lean. The walks of the program's QuotaOf, and of what YardRight calls besides. The walks of the program's taskFits and YardRight. Printed by wip/yard.py. The walks of what the reference's YardRight calls. The walks of the reference's l13Task and YardRight. Printed by wip/yards.py. -/
import Derived.Test.YtngldifgcgblpaaGreatConf1
import Derived.Test.YtngldifgcgblpaaGreatLive
import Derived.Test.YtngldifgcgblpaaGreatNodes
import Derived.Test.YtngldifgcgblpaaGreatUsesC
import Derived.Test.YtngldifgcgblpaaGreatTaskR
import Derived.Test.YtngldifgcgblpaaGreatNums
import Derived.Test.YtngldifgcgblpaaGreatConf4
import Derived.Test.YtngldifgcgblpaaGreatOrdU
import Derived.Test.YtngldifgcgblpaaGreatUsesD
import Derived.Test.YtngldifgcgblpaaGreatTaskRI
import Derived.Test.YtngldifgcgblpaaGreatConfW
import Derived.Test.YtngldifgcgblpaaGreatUsesE
import Derived.Deep.RegionHeld3
namespace Go.Proofs.YtngldifgcgblpaaGreat
open Go.RowKit
def endOf (t : Task) : Int := t.start + 1 + t.long
def nodeIn (ns : List (List Label)) (a : Label) (n : Int) : Bool := decide (0 ≤ n) && decide (n.toNat < ns.length) && cleared (nth ns n.toNat) a
def manyOf (ns : List (List Label)) (a : Label) : Nat := (clearOf ns a ns.length).length
def runsB (t : Task) : Bool := decide (t.state = 2)
def placeY (now : Int) (t : Task) : Bool :=
  if runsB t = true then decide (t.start ≤ now) && decide (now < endOf t) else decide (t.nodes.length = 0) || isB t.start (now + 1) (now + 40)
def fitsY (ns : List (List Label)) (now : Int) (t : Task) : Bool :=
  decide (t.need ≤ (manyOf ns t.label : Int)) && decide (t.born ≤ now) && t.nodes.all (nodeIn ns t.label) && placeY now t
def isNum (n m : Int) : Bool := decide (m = n)
def usedBy (l : List Task) (n : Int) : Bool := l.any fun t => runsB t && t.nodes.any (isNum n)
def takenAt (l : List Task) (i k : Nat) (n : Int) : Bool := usedBy (l.take i) n || (runsB (nth l i) && ((nth l i).nodes.take k).any (isNum n))
def clashAt (l : List Task) (i k : Nat) : Bool := runsB (nth l i) && takenAt l i k (nth (nth l i).nodes k)
def taskOkY (y : Yard) (i : Nat) : Bool := fitsY y.config.nodes y.now (nth y.tasks i) && !(List.range (nth y.tasks i).nodes.length).any (clashAt y.tasks i)
def quotaIn : List Quota → Label → Int
  | [], _ => 6
  | q :: qs, a => if q.label = a then q.most else quotaIn qs a
def quotaOf (c : Config) (a : Label) : Int := if configRight c = true ∧ cleared (labelsIn c.nodes) a = true then quotaIn c.quotas a else 0
def overY (y : Yard) (a : Label) : Bool := decide (quotaOf y.config a < (liveN y.tasks a : Int))
def useBad (ls : List Label) (x : Use) : Bool := !cleared ls x.label
def yardHead (y : Yard) : Bool := configRight y.config && decide (y.nodes.length = y.config.nodes.length) && nodesRight y.nodes && tasksRight y.tasks && usesRight y.uses && nowOk y.now
def yardRight (y : Yard) : Bool :=
  yardHead y && (List.range y.tasks.length).all (taskOkY y) && !(labelsIn y.config.nodes).any (overY y) && !y.uses.any (useBad (labelsIn y.config.nodes))
theorem yard_head {y : Yard} (h : yardHead y = false) : yardRight y = false := by
  unfold yardRight
  rw [h]; rfl
theorem yard_task {y : Yard} {i : Nat} (hi : i < y.tasks.length) (h : taskOkY y i = false) : yardRight y = false := by
  unfold yardRight
  rw [List.all_eq_false.mpr ⟨i, List.mem_range.mpr hi, by simp [h]⟩]
  simp
theorem yard_over {y : Yard} (h : (labelsIn y.config.nodes).any (overY y) = true) : yardRight y = false := by
  unfold yardRight
  rw [h]
  simp
theorem yard_use {y : Yard} (h : y.uses.any (useBad (labelsIn y.config.nodes)) = true) : yardRight y = false := by
  unfold yardRight
  rw [h]
  simp
theorem yard_of {y : Yard} (h1 : yardHead y = true) (h2 : ∀ i, i < y.tasks.length → taskOkY y i = true) (h3 : (labelsIn y.config.nodes).any (overY y) = false) (h4 : y.uses.any (useBad (labelsIn y.config.nodes)) = false) : yardRight y = true := by
  unfold yardRight
  rw [h1, h3, h4, List.all_eq_true.mpr (fun k hk => h2 k (List.mem_range.mp hk))]; rfl
theorem yard_all {y : Yard} {r : Bool} (h1 : yardHead y = true) (h2 : ∀ i, i < y.tasks.length → taskOkY y i = true) (h3 : (labelsIn y.config.nodes).any (overY y) = false) (h4 : y.uses.any (useBad (labelsIn y.config.nodes)) = r) : yardRight y = !r := by
  unfold yardRight
  rw [h1, h3, h4, List.all_eq_true.mpr (fun k hk => h2 k (List.mem_range.mp hk))]; rfl
theorem task_unfit {y : Yard} {i : Nat} (h : fitsY y.config.nodes y.now (nth y.tasks i) = false) : taskOkY y i = false := by
  unfold taskOkY
  rw [h]; rfl
theorem task_clash {y : Yard} {i k : Nat} (hk : k < (nth y.tasks i).nodes.length) (h : clashAt y.tasks i k = true) : taskOkY y i = false := by
  unfold taskOkY
  rw [List.any_eq_true.mpr ⟨k, List.mem_range.mpr hk, h⟩]
  simp
theorem task_ok {y : Yard} {i : Nat} (h : fitsY y.config.nodes y.now (nth y.tasks i) = true) (g : ∀ k, k < (nth y.tasks i).nodes.length → clashAt y.tasks i k = false) : taskOkY y i = true := by
  unfold taskOkY
  rw [h, List.any_eq_false.mpr (fun k hk => by rw [g k (List.mem_range.mp hk)]; decide)]
  rfl
theorem taken_zero (l : List Task) (i : Nat) (n : Int) : takenAt l i 0 n = usedBy (l.take i) n := by simp [takenAt]
theorem take_snoc {α : Type} [Inhabited α] {l : List α} {k : Nat} (h : k < l.length) : l.take (k + 1) = l.take k ++ [nth l k] := by
  rw [List.take_succ_eq_append_getElem h, nth_eq h]
theorem taken_succ {l : List Task} {i k : Nat} (n : Int) (h : k < (nth l i).nodes.length) : takenAt l i (k + 1) n = (takenAt l i k n || (runsB (nth l i) && isNum n (nth (nth l i).nodes k))) := by
  unfold takenAt
  rw [take_snoc h, List.any_append]
  simp only [List.any_cons, List.any_nil, Bool.or_false]
  cases usedBy (l.take i) n <;> cases runsB (nth l i) <;> rfl
theorem taken_idle {l : List Task} {i k : Nat} (n : Int) (h : runsB (nth l i) = false) : takenAt l i k n = usedBy (l.take i) n := by
  unfold takenAt
  rw [h, Bool.false_and, Bool.or_false]
theorem used_zero (n : Int) (l : List Task) : usedBy (l.take 0) n = false := by simp [usedBy]
theorem used_succ {l : List Task} {i : Nat} (n : Int) (h : i < l.length) : usedBy (l.take (i + 1)) n = takenAt l i (nth l i).nodes.length n := by
  unfold takenAt usedBy
  rw [take_snoc h, List.any_append, List.take_length]
  simp only [List.any_cons, List.any_nil, Bool.or_false]
theorem used_idle {l : List Task} {i : Nat} (n : Int) (h : i < l.length) (hr : runsB (nth l i) = false) : usedBy (l.take (i + 1)) n = usedBy (l.take i) n := by
  rw [used_succ n h, taken_idle n hr]
theorem contains_clear (ns : List (List Label)) (a : Label) (n : Int) : (clearOf ns a ns.length).any (isNum n) = nodeIn ns a n := by
  rw [Bool.eq_iff_iff]
  unfold clearOf nodeIn isNum
  simp only [List.any_eq_true, List.mem_map, List.mem_filter, List.mem_range, Bool.and_eq_true, decide_eq_true_eq]
  constructor
  · rintro ⟨m, ⟨i, ⟨hi, hc⟩, rfl⟩, rfl⟩
    exact ⟨⟨by omega, by simpa using hi⟩, by simpa using hc⟩
  · rintro ⟨⟨h0, h1⟩, h2⟩
    exact ⟨n, ⟨n.toNat, ⟨h1, h2⟩, by omega⟩, rfl⟩
theorem many_succ (ns : List (List Label)) (a : Label) (k : Nat) : (clearOf ns a (k + 1)).length = (clearOf ns a k).length + if cleared (nth ns k) a = true then 1 else 0 := by
  rw [clearOf_succ, List.length_append]
  split <;> rfl
theorem quotaIn_at {qs : List Quota} {a : Label} {k : Nat} (hk : k < qs.length) (h : (nth qs k).label = a) (g : ∀ j, j < k → (nth qs j).label ≠ a) : quotaIn qs a = (nth qs k).most := by
  induction qs generalizing k with
  | nil => exact absurd hk (by simp)
  | cons q qs ih =>
    cases k with
    | zero =>
      have h' : q.label = a := h
      show (if q.label = a then q.most else quotaIn qs a) = q.most
      rw [if_pos h']
    | succ k =>
      have h0 : q.label ≠ a := g 0 (by omega)
      show (if q.label = a then q.most else quotaIn qs a) = _
      rw [if_neg h0]
      exact ih (k := k) (by simpa using hk) h (fun j hj => g (j + 1) (by omega))
theorem quotaIn_none {qs : List Quota} {a : Label} (g : ∀ j, j < qs.length → (nth qs j).label ≠ a) : quotaIn qs a = 6 := by
  induction qs with
  | nil => rfl
  | cons q qs ih =>
    have h0 : q.label ≠ a := g 0 (by simp)
    show (if q.label = a then q.most else quotaIn qs a) = _
    rw [if_neg h0]
    exact ih (fun j hj => g (j + 1) (by simpa using hj))
theorem many_zero {ns : List (List Label)} {a : Label} (hc : clearOk ns = true) : manyOf ns a = 0 ↔ cleared (labelsIn ns) a = false := by
  unfold manyOf
  rw [List.length_eq_zero_iff]
  constructor
  · intro h
    cases hb : cleared (labelsIn ns) a with
    | false => rfl
    | true =>
      have hm := cleared_mem.1 hb
      obtain ⟨l, hl, ha⟩ := List.mem_flatten.1 ((mem_labels (labels_right hm)).1 hm)
      obtain ⟨i, hi, rfl⟩ := List.getElem_of_mem hl
      have : ((i : Nat) : Int) ∈ clearOf ns a ns.length := by
        unfold clearOf
        exact List.mem_map.2 ⟨i, List.mem_filter.2 ⟨List.mem_range.2 hi, by rw [nth_eq hi]; exact cleared_mem.2 ha⟩, rfl⟩
      rw [h] at this
      cases this
  · intro h
    cases hq : clearOf ns a ns.length with
    | nil => rfl
    | cons n r =>
      have hn : n ∈ clearOf ns a ns.length := by rw [hq]; exact List.mem_cons_self
      unfold clearOf at hn
      obtain ⟨i, hi, rfl⟩ := List.mem_map.1 hn
      obtain ⟨h1, h2⟩ := List.mem_filter.1 hi
      have h1 := List.mem_range.1 h1
      rw [nth_eq h1] at h2
      have ha : a ∈ ns.flatten := List.mem_flatten.2 ⟨_, List.getElem_mem h1, cleared_mem.1 h2⟩
      have := (mem_labels (ns := ns) (clear_right hc a ha)).2 ha
      rw [cleared_mem.2 this] at h
      cases h
/-- The six marks of nodes that are taken, as cells. -/
def boolsN (f : Int → Bool) : Array Value := #[.bool (f 0), .bool (f 1), .bool (f 2), .bool (f 3), .bool (f 4), .bool (f 5)]
theorem six {n : Int} (h0 : 0 ≤ n) (h5 : n ≤ 5) : n = 0 ∨ n = 1 ∨ n = 2 ∨ n = 3 ∨ n = 4 ∨ n = 5 := by omega
theorem bools_get {f : Int → Bool} {n : Int} (h0 : 0 ≤ n) (h5 : n ≤ 5) : (boolsN f)[n.toNat]? = some (.bool (f n)) := by
  rcases six h0 h5 with rfl | rfl | rfl | rfl | rfl | rfl <;> rfl
theorem bools_set {f g : Int → Bool} {n : Int} {b : Bool} (h0 : 0 ≤ n) (h5 : n ≤ 5) (hb : g n = b) (hg : ∀ m, m ≠ n → g m = f m) : (boolsN f).setIfInBounds n.toNat (.bool b) = boolsN g := by
  subst hb
  rcases six h0 h5 with rfl | rfl | rfl | rfl | rfl | rfl
  · show #[Value.bool (g 0), .bool (f 1), .bool (f 2), .bool (f 3), .bool (f 4), .bool (f 5)] = _
    rw [boolsN, hg 1 (by decide), hg 2 (by decide), hg 3 (by decide), hg 4 (by decide), hg 5 (by decide)]
  · show #[Value.bool (f 0), .bool (g 1), .bool (f 2), .bool (f 3), .bool (f 4), .bool (f 5)] = _
    rw [boolsN, hg 0 (by decide), hg 2 (by decide), hg 3 (by decide), hg 4 (by decide), hg 5 (by decide)]
  · show #[Value.bool (f 0), .bool (f 1), .bool (g 2), .bool (f 3), .bool (f 4), .bool (f 5)] = _
    rw [boolsN, hg 0 (by decide), hg 1 (by decide), hg 3 (by decide), hg 4 (by decide), hg 5 (by decide)]
  · show #[Value.bool (f 0), .bool (f 1), .bool (f 2), .bool (g 3), .bool (f 4), .bool (f 5)] = _
    rw [boolsN, hg 0 (by decide), hg 1 (by decide), hg 2 (by decide), hg 4 (by decide), hg 5 (by decide)]
  · show #[Value.bool (f 0), .bool (f 1), .bool (f 2), .bool (f 3), .bool (g 4), .bool (f 5)] = _
    rw [boolsN, hg 0 (by decide), hg 1 (by decide), hg 2 (by decide), hg 3 (by decide), hg 5 (by decide)]
  · show #[Value.bool (f 0), .bool (f 1), .bool (f 2), .bool (f 3), .bool (f 4), .bool (g 5)] = _
    rw [boolsN, hg 0 (by decide), hg 1 (by decide), hg 2 (by decide), hg 3 (by decide), hg 4 (by decide)]
theorem taken_start (l : List Task) (i : Nat) : takenAt l i 0 = usedBy (l.take i) := funext fun n => taken_zero l i n
theorem taken_end {l : List Task} {i : Nat} (h : i < l.length) : takenAt l i (nth l i).nodes.length = usedBy (l.take (i + 1)) := funext fun n => (used_succ n h).symm
theorem used_start (l : List Task) : usedBy (l.take 0) = fun _ => false := funext fun n => used_zero n l
/-- A node of a task that runs is taken from now on. -/
theorem taken_runs {l : List Task} {i k : Nat} (h : k < (nth l i).nodes.length) (hr : runsB (nth l i) = true) (h0 : 0 ≤ nth (nth l i).nodes k) (h5 : nth (nth l i).nodes k ≤ 5) :
    (boolsN (takenAt l i k)).setIfInBounds (nth (nth l i).nodes k).toNat (.bool true) = boolsN (takenAt l i (k + 1)) :=
  bools_set h0 h5 (by rw [taken_succ _ h, hr]; simp [isNum]) (fun m hm => by rw [taken_succ _ h, hr]; simp [isNum, Ne.symm hm])
theorem taken_rests {l : List Task} {i k : Nat} (h : k < (nth l i).nodes.length) (hr : runsB (nth l i) = false) : takenAt l i (k + 1) = takenAt l i k := funext fun n => by rw [taken_succ n h, hr, Bool.false_and, Bool.or_false]
theorem bools_same {f : Int → Bool} {n : Int} {b : Bool} (h0 : 0 ≤ n) (h5 : n ≤ 5) (hb : f n = b) : (boolsN f).setIfInBounds n.toNat (.bool b) = boolsN f := bools_set h0 h5 hb (fun _ _ => rfl)
theorem node_bounds {x : Task} {k : Nat} (h : taskRight x = true) (hk : k < x.nodes.length) : 0 ≤ nth x.nodes k ∧ nth x.nodes k ≤ 5 := by
  simp only [taskRight, Bool.and_eq_true] at h
  have hp := h.2
  unfold placeOk at hp
  split at hp
  · simp only [Bool.and_eq_true] at hp
    have := List.all_eq_true.1 hp.2 k (List.mem_range.2 hk)
    simp only [numAt, isB, Bool.and_eq_true, decide_eq_true_eq] at this
    exact this.1
  · simp only [Bool.and_eq_true, decide_eq_true_eq] at hp
    omega
theorem runs_bounds {x : Task} (h : taskRight x = true) (hs : x.state = 2) : 0 ≤ x.start ∧ x.start ≤ 1000000 ∧ 1 ≤ x.long ∧ x.long ≤ 20 := by
  simp only [taskRight, Bool.and_eq_true] at h
  have hp := h.2
  unfold placeOk at hp
  rw [if_pos (Or.inl hs)] at hp
  simp only [Bool.and_eq_true, timeOk, isB, decide_eq_true_eq] at hp
  have hw := h.1.1.1.1.2
  simp only [isWorkB, isB, Bool.and_eq_true, decide_eq_true_eq] at hw
  omega
theorem now_bounds {n : Int} (h : nowOk n = true) : 0 ≤ n ∧ n ≤ 999900 := by
  simpa [nowOk, isB] using h
theorem all_right {l : List Task} (h : tasksRight l = true) {k : Nat} (hk : k < l.length) : taskRight (nth l k) = true := by
  simp only [tasksRight, Bool.and_eq_true] at h
  have := List.all_eq_true.1 h.2 k (List.mem_range.2 hk)
  simp only [tI, Bool.and_eq_true] at this
  exact this.1.1
theorem few_tasks {l : List Task} (h : tasksRight l = true) : l.length ≤ 96 := by
  simp only [tasksRight, Bool.and_eq_true, decide_eq_true_eq] at h
  exact h.1
theorem fits_few {ns : List (List Label)} {now : Int} {x : Task} (h : (manyOf ns x.label : Int) < x.need) : fitsY ns now x = false := by
  unfold fitsY
  rw [decide_eq_false (by omega)]; rfl
theorem fits_late {ns : List (List Label)} {now : Int} {x : Task} (h : now < x.born) : fitsY ns now x = false := by
  unfold fitsY
  rw [decide_eq_false (p := x.born ≤ now) (by omega), Bool.and_false, Bool.false_and, Bool.false_and]
theorem fits_out {ns : List (List Label)} {now : Int} {x : Task} (h : x.nodes.all (nodeIn ns x.label) = false) : fitsY ns now x = false := by
  unfold fitsY
  rw [h, Bool.and_false, Bool.false_and]
theorem fits_place {ns : List (List Label)} {now : Int} {x : Task} (h1 : ¬ (manyOf ns x.label : Int) < x.need) (h2 : ¬ now < x.born) (h3 : x.nodes.all (nodeIn ns x.label) = true) : fitsY ns now x = placeY now x := by
  unfold fitsY
  rw [decide_eq_true (p := x.need ≤ _) (by omega), decide_eq_true (p := x.born ≤ now) (by omega), h3]; rfl
theorem place_runs {now : Int} {x : Task} (h : x.state = 2) : placeY now x = (decide (x.start ≤ now) && decide (now < endOf x)) := by
  unfold placeY runsB
  rw [if_pos (decide_eq_true h)]
theorem place_none {now : Int} {x : Task} (h : ¬ x.state = 2) (hn : ¬ 0 < x.nodes.length) : placeY now x = true := by
  unfold placeY runsB
  rw [if_neg (by simpa using h), decide_eq_true (p := x.nodes.length = 0) (by omega)]; rfl
theorem place_rests {now : Int} {x : Task} (h : ¬ x.state = 2) (hn : 0 < x.nodes.length) : placeY now x = isB x.start (now + 1) (now + 40) := by
  unfold placeY runsB
  rw [if_neg (by simpa using h), decide_eq_false (p := x.nodes.length = 0) (by omega)]; rfl
end Go.Proofs.YtngldifgcgblpaaGreat
namespace Go.Proofs.YtngldifgcgblpaaGreat
open Go.RowKit
attribute [local irreducible] wpQuiet
set_option maxHeartbeats 1000000 in
set_option maxRecDepth 50000 in
theorem indexFunc_Int {S : Nat → Prop} (l : List Int) (p : Int → Bool) (v : Value) (f : Nat) (caps : Array Value) (w : World) (h : Rd EInt S w v l) (hcall : ∀ (args : Array Value) (W : World), (callFunc f args).run Tryz.prog W = .ok (.enter f args) W)
    (hf : ∀ (cs : List Value) (x : Int) (w1 : World), Ext w w1 → EInt.rel S w1 cs x → Calls Tryz.prog f (#[cs.headD undef] ++ caps) w1 fun e w' => e = .returned (.bool (p x)) ∧ Ext w1 w') :
    Calls Tryz.prog 282 #[v, .func (.func f) #[] caps] w fun e w' => e = .returned (.int .i64 (idxOf p l)) ∧ Ext w w' := by
  obtain ⟨A, c, rfl, h1, h2, hk⟩ := h.open_
  unfold maxLen at h2
  have HK := Lib.hid hk
  have HF := Lib.hid hf
  clear hk h hf
  go_enter Tryz.func282, Tryz.ntmps282
  go_wp2_with fail
  go_loopw [8] (fun i w' => ∃ k : Nat, k ≤ l.length ∧ i = .int .i64 k ∧ (∀ j, j < k → p (nth l j) = false) ∧ Ext w w') (fun i _ => l.length - (intOf i).toNat)
  case atStart => exact ⟨0, by omega, rfl, fun j hj => by omega, Ext.refl _⟩
  case round =>
    obtain ⟨k, hk1, rfl, hall, hx⟩ := hrel
    have HA := Lib.hid hall
    have HX := Lib.hid hx
    clear hall
    by_cases hlt : k < l.length
    · obtain ⟨b, o, cs, rfl, hb, hr, hc⟩ := HK.out k hlt
      have HR := Lib.hid (EInt.keep (hx.same S) hr)
      have hc0 := hx.range hc 0 _ (by rw [List.getElem?_eq_getElem (by rw [EInt.len hr]; decide)])
      have hcs : cs[0]'(by rw [EInt.len hr]; decide) = cs.headD undef := by cases cs with | nil => exact absurd (EInt.len hr) (by decide) | cons a r => rfl
      rw [hcs] at hc0
      generalize hu : cs.headD undef = u at *
      have HU := Lib.hid hu
      simp only [EInt, Nat.mul_one, Nat.add_zero] at hc0
      clear hr hc hx hcs hu
      by_cases hp : p (nth l k) = true
      · have HE : Hid (idxOf p l = k) := Lib.hid (idxOf_some hlt HA.out hp)
        go_wp2_with (first | ((with_reducible refine ((show Calls _ _ (#[u] ++ caps) _ _ from HU.out ▸ HF.out cs (nth l k) _ HX.out HR.out)).mono ?_); rintro e w1 ⟨rfl, hx1⟩; have HX1 := Lib.hid hx1; clear hx1))
        go_ret
        exact ⟨ret_int HE.out.symm, HX.out.trans HX1.out⟩
      · simp only [Bool.not_eq_true] at hp
        have HE := Lib.hid (all_succ HA.out hp)
        go_wp2_with (first | ((with_reducible refine ((show Calls _ _ (#[u] ++ caps) _ _ from HU.out ▸ HF.out cs (nth l k) _ HX.out HR.out)).mono ?_); rintro e w1 ⟨rfl, hx1⟩; have HX1 := Lib.hid hx1; clear hx1))
        go_roundw
        case rel => exact ⟨k + 1, by omega, by go_num, HE.out, HX.out.trans HX1.out⟩
        case measure => simp [intOf]; omega
    · have HE : Hid (idxOf p l = -1) := Lib.hid (idxOf_none fun j hj => HA.out j (by omega))
      go_wp2_with fail
      go_ret
      exact ⟨ret_int HE.out.symm, HX.out⟩
theorem containsFunc_Int {S : Nat → Prop} (l : List Int) (p : Int → Bool) (v : Value) (f : Nat) (caps : Array Value) (w : World) (h : Rd EInt S w v l) (hcall : ∀ (args : Array Value) (W : World), (callFunc f args).run Tryz.prog W = .ok (.enter f args) W)
    (hf : ∀ (cs : List Value) (x : Int) (w1 : World), Ext w w1 → EInt.rel S w1 cs x → Calls Tryz.prog f (#[cs.headD undef] ++ caps) w1 fun e w' => e = .returned (.bool (p x)) ∧ Ext w1 w') :
    Calls Tryz.prog 235 #[v, .func (.func f) #[] caps] w fun e w' => e = .returned (.bool (l.any p)) ∧ Ext w w' := by
  have HE := Lib.hid (idxOf_any (p := p) (l := l))
  have H := Lib.hid (indexFunc_Int l p v f caps w h hcall hf)
  clear h hcall hf
  go_enter Tryz.func235, Tryz.ntmps235
  go_wp2_with (refine H.out.mono ?_; rintro e w1 ⟨rfl, hx1⟩; have HX1 := Lib.hid hx1; clear hx1)
  go_ret
  exact ⟨ret_bool HE.out, HX1.out⟩
theorem containsFunc_Int_1 {S : Nat → Prop} (l : List Int) (p : Int → Bool) (v : Value) (f : Nat) (c1 : Value) (w : World) (h : Rd EInt S w v l) (hcall : ∀ (args : Array Value) (W : World), (callFunc f args).run Tryz.prog W = .ok (.enter f args) W)
    (hf : ∀ (cs : List Value) (x : Int) (w1 : World), Ext w w1 → EInt.rel S w1 cs x → Calls Tryz.prog f #[cs.headD undef, c1] w1 fun e w' => e = .returned (.bool (p x)) ∧ Ext w1 w') :
    Calls Tryz.prog 235 #[v, .func (.func f) #[] #[c1]] w fun e w' => e = .returned (.bool (l.any p)) ∧ Ext w w' :=
  containsFunc_Int l p v f #[c1] w h hcall fun cs x w1 hx hr => by rw [show (#[cs.headD undef] ++ #[c1] : Array Value) = #[cs.headD undef, c1] from rfl]; exact hf cs x w1 hx hr
theorem nodesRight_is {S : Nat → Prop} (l : List Node) (v : Value) (w : World) (h : Rd ENode S w v l) (r : Bool) (hr : nodesRight l = r) :
    Calls Tryz.prog 145 #[v] w fun e w' => e = .returned (.bool r) ∧ Ext w w' := by
  subst hr
  exact nodesRight_any l v w h
theorem tasksRight_is {S : Nat → Prop} (l : List Task) (v : Value) (w : World) (h : Rd ETask S w v l) (r : Bool) (hr : tasksRight l = r) :
    Calls Tryz.prog 146 #[v] w fun e w' => e = .returned (.bool r) ∧ Ext w w' := by
  subst hr
  exact tasksRight_any l v w h
theorem usesRight_is {S : Nat → Prop} (l : List Use) (v : Value) (w : World) (h : Rd EUse S w v l) (r : Bool) (hr : usesRight l = r) :
    Calls Tryz.prog 147 #[v] w fun e w' => e = .returned (.bool r) ∧ Ext w w' := by
  subst hr
  exact usesRight_any l v w h
theorem isNowY_is (n : Int) (w : World) (r : Bool) (hr : nowOk n = r) : Calls Tryz.prog 148 #[.int .i64 n] w fun e w' => e = .returned (.bool r) ∧ w = w' := by
  subst hr
  exact isNow_any n w
theorem taskEnd_any {S : Nat → Prop} (x : Task) (cs : List Value) (w : World) (h : ETask.rel S w cs x) (s0 : 0 ≤ x.start) (s1 : x.start ≤ 1000000) (l0 : 1 ≤ x.long) (l1 : x.long ≤ 20) :
    Calls Tryz.prog 237 #[.agg cs.toArray] w fun e w' => e = .returned (.int .i64 (endOf x)) ∧ Ext w w' := by
  obtain ⟨v1, rfl, hf, h1⟩ := h
  obtain ⟨A1, c1, rfl, -⟩ := h1.form
  clear hf h1
  simp only [cellsTask]
  have i1 : IntKind.i64.wrap (x.start + 1) = x.start + 1 := IntWalk.i64_in _ (by omega)
  have i2 : IntKind.i64.wrap (x.start + 1 + x.long) = x.start + 1 + x.long := IntWalk.i64_in _ (by omega)
  go_enter Tryz.func237, Tryz.ntmps237
  go_wp2_with fail
  go_ret
  exact ⟨ret_int (by unfold endOf; first | rfl | (rw [i1, i2]) | omega), (Ext.refl _).alloc _⟩
set_option maxHeartbeats 4000000 in
theorem indexInt_any {S : Nat → Prop} (l : List Int) (n : Int) (v : Value) (w : World) (h : Rd EInt S w v l) :
    Calls Tryz.prog 178 #[v, .int .i64 n] w fun e w' => e = .returned (.int .i64 (idxOf (isNum n) l)) ∧ Ext w w' := by
  obtain ⟨A, c, rfl, h1, h2, hk⟩ := h.open_
  unfold maxLen at h2
  have HK := Lib.hid hk
  clear hk h
  go_enter Tryz.func178, Tryz.ntmps178
  go_wp2_with fail
  go_loopw [8] (fun i w' => ∃ k : Nat, k ≤ l.length ∧ i = .int .i64 k ∧ (∀ j, j < k → isNum n (nth l j) = false) ∧ Ext w w') (fun i _ => l.length - (intOf i).toNat)
  case atStart => exact ⟨0, by omega, rfl, fun j hj => by omega, Ext.refl _⟩
  case round =>
    obtain ⟨k, hk1, rfl, hall, hx⟩ := hrel
    have HA := Lib.hid hall
    have HX := Lib.hid hx
    clear hall
    by_cases hlt : k < l.length
    · obtain ⟨b, q, cs, rfl, _, ⟨rfl, hfit⟩, hc⟩ := HK.out k hlt
      have c0 := Ext.some hx (hc 0 _ rfl)
      simp only [EInt, Nat.mul_one, Nat.add_zero] at c0
      clear hc hfit hx
      by_cases he : nth l k = n
      · have HE := Lib.hid (idxOf_some (p := isNum n) hlt HA.out (by simp [isNum, he]))
        go_wp2_with fail
        go_ret
        exact ⟨ret_int HE.out.symm, HX.out⟩
      · have HE := Lib.hid (all_succ (p := fun j => isNum n (nth l j) = false) HA.out (by simp [isNum, he]))
        go_wp2_with fail
        go_roundw
        case rel => exact ⟨k + 1, by omega, by go_num, HE.out, HX.out⟩
        case measure => simp [intOf]; omega
    · have HE := Lib.hid (idxOf_none (p := isNum n) (l := l) fun j hj => HA.out j (by omega))
      go_wp2_with fail
      go_ret
      exact ⟨ret_int HE.out.symm, HX.out⟩
theorem containsInt_any {S : Nat → Prop} (l : List Int) (n : Int) (v : Value) (w : World) (h : Rd EInt S w v l) :
    Calls Tryz.prog 92 #[v, .int .i64 n] w fun e w' => e = .returned (.bool (l.any (isNum n))) ∧ Ext w w' := by
  have HE := Lib.hid (idxOf_any (p := isNum n) (l := l))
  have HR := Lib.hid h
  obtain ⟨A, c, rfl, -⟩ := h.form
  clear h
  go_enter Tryz.func92, Tryz.ntmps92
  go_wp2_with (go_at_call 178; (with_reducible refine (indexInt_any (S := S) l n _ _ HR.out).mono ?_); rintro e w1 ⟨rfl, hx1⟩; have HX1 := Lib.hid hx1; clear hx1)
  go_ret
  exact ⟨ret_bool (by rw [← HE.out]), HX1.out⟩
def nodeOut (ns : List (List Label)) (a : Label) (n : Int) : Bool := !nodeIn ns a n
theorem any_out (ns : List (List Label)) (a : Label) (l : List Int) : l.any (nodeOut ns a) = !l.all (nodeIn ns a) := by
  induction l with
  | nil => rfl
  | cons n l ih => rw [List.any_cons, List.all_cons, ih, nodeOut]; cases nodeIn ns a n <;> cases l.all (nodeIn ns a) <;> rfl
theorem call_fits1 : ∀ (args : Array Value) (W : World), (callFunc 236 args).run Tryz.prog W = .ok (.enter 236 args) W := by
  intro args W
  go_simp
theorem fits1_any {S : Nat → Prop} (ns : List (List Label)) (a : Label) (n : Int) (v : Value) (B : Nat) (w : World) (h : Rd EInt S w v (clearOf ns a ns.length)) (hb : Blk w B 85 #[v]) :
    Calls Tryz.prog 236 #[.int .i64 n, .pointer (some ⟨B, 0, none⟩)] w fun e w' => e = .returned (.bool (nodeOut ns a n)) ∧ Ext w w' := by
  have HR := Lib.hid h
  have HE := Lib.hid (contains_clear ns a n)
  obtain ⟨A, c, rfl, -⟩ := h.form
  have b0 := hb.cell 0
  clear h hb
  simp only [List.getElem?_toArray, List.getElem?_cons_zero] at b0
  go_enter Tryz.func236, Tryz.ntmps236
  go_wp2_with (go_at_call 92; (with_reducible refine (containsInt_any (S := S) (clearOf ns a ns.length) n _ _ HR.out).mono ?_); rintro e w1 ⟨rfl, hx1⟩; have HX1 := Lib.hid hx1; clear hx1)
  go_ret
  exact ⟨ret_bool (by rw [nodeOut, ← HE.out]), HX1.out⟩
set_option maxHeartbeats 8000000 in
set_option maxRecDepth 100000 in
theorem quotaOf_any {S : Nat → Prop} (x : Config) (cs : List Value) (a : Label) (w : World) (h : EConfig.rel S w cs x) :
    Calls Tryz.prog 113 #[.agg cs.toArray, .agg #[.int .i64 a.level, .int .i64 a.set]] w fun e w' => e = .returned (.int .i64 (quotaOf x a)) ∧ Ext w w' := by
  obtain ⟨v1, v2, v3, rfl, hf, h1, h2, h3⟩ := h
  obtain ⟨A1, c1, rfl, -⟩ := h1.form
  obtain ⟨A2, c2, rfl, -⟩ := h2.form
  have H3 := Lib.hid h3
  obtain ⟨A3, c3, rfl, l1, l2, hk⟩ := h3.open_
  unfold maxLen at l2
  have HF := Lib.hid hf
  have H1 := Lib.hid h1
  have H2 := Lib.hid h2
  have HK := Lib.hid hk
  clear hf h1 h2 h3 hk
  simp only [cellsConfig]
  obtain ⟨t, ht⟩ : ∃ t, configRight x = t := ⟨_, rfl⟩
  have T := Lib.hid ht
  clear ht
  go_enter Tryz.func113, Tryz.ntmps113
  go_upto_region 1 with (fail)
  obtain ⟨W, B, hW, hB, hx0, a0, b0⟩ := boxes2 w #[.slice A1 x.nodes.length c1, .slice A2 x.pairs.length c2, .slice A3 x.quotas.length c3, .int .i64 x.half] #[.int .i64 a.level, .int .i64 a.set] 39 49
  rw [← hW, ← hB]
  have QA := Lib.hid a0
  have QB := Lib.hid b0
  have X := Lib.hid hx0
  clear hW hB hx0 a0 b0
  have q0 := QA.out.cell
  cases t with
  | false =>
    have HE : Hid (quotaOf x a = 0) := Lib.hid (by rw [quotaOf, T.out]; rfl)
    go_wp2_with (go_at_call 144; (with_reducible refine (configRight_is (S := S) x [.slice A1 x.nodes.length c1, .slice A2 x.pairs.length c2, .slice A3 x.quotas.length c3, .int .i64 x.half] _ (rel_Config HF.out (H1.out.ext X.out) (H2.out.ext X.out) (H3.out.ext X.out)) _ T.out).mono ?_); rintro e w7 ⟨rfl, hx7⟩; have X7 := Lib.hid (X.out.trans hx7); clear hx7 q0)
    go_ret
    exact ⟨ret_int HE.out.symm, X7.out⟩
  | true =>
    have hcl := config_clear T.out
    have HNL : Hid (x.nodes.length ≤ 6) := Lib.hid (clear_length hcl).2
    have hmz := many_zero (a := a) hcl
    obtain ⟨n, hn⟩ : ∃ n, (clearOf x.nodes a x.nodes.length).length = n := ⟨_, rfl⟩
    have HN := Lib.hid hn
    have hmz' : n = 0 ↔ cleared (labelsIn x.nodes) a = false := by rw [← hn]; exact hmz
    clear hcl hmz hn
    by_cases hz : n = 0
    · subst hz
      have HE : Hid (quotaOf x a = 0) := Lib.hid (by rw [quotaOf, if_neg (by rw [hmz'.1 rfl]; simp)])
      clear hmz'
      go_wp2_with (first
        | (go_at_call 144; (with_reducible refine (configRight_is (S := S) x [.slice A1 x.nodes.length c1, .slice A2 x.pairs.length c2, .slice A3 x.quotas.length c3, .int .i64 x.half] _ (rel_Config HF.out (H1.out.ext X.out) (H2.out.ext X.out) (H3.out.ext X.out)) _ T.out).mono ?_); rintro e w7 ⟨rfl, hx7⟩; have X7 := Lib.hid (X.out.trans hx7); have QA7 := Lib.hid (QA.out.ext hx7); have QB7 := Lib.hid (QB.out.ext hx7); clear hx7 q0; have q0 := QA7.out.cell; have p0 := QB7.out.cell)
        | (go_at_call 79; (with_reducible refine (clearForC_any (S := S) x [.slice A1 x.nodes.length c1, .slice A2 x.pairs.length c2, .slice A3 x.quotas.length c3, .int .i64 x.half] a _ (rel_Config HF.out (H1.out.ext X7.out) (H2.out.ext X7.out) (H3.out.ext X7.out)) HNL.out).mono ?_); rintro e w8 ⟨v8, F8, rfl, o8, -, hx8⟩; obtain ⟨A8, c8, rfl, -⟩ := o8.form; rw [HN.out]; have X8 := Lib.hid (X7.out.trans hx8); clear hx8 o8 q0 p0))
      go_ret
      exact ⟨ret_int HE.out.symm, X8.out⟩
    · have hn0 : ¬ ((n : Int) = 0) := by omega
      have HE : Hid (quotaOf x a = quotaIn x.quotas a) := Lib.hid (by rw [quotaOf, if_pos ⟨T.out, by cases hb : cleared (labelsIn x.nodes) a with | true => rfl | false => exact absurd (hmz'.2 hb) hz⟩])
      clear hmz' hz
      go_upto_region 3 with (first
        | (go_at_call 144; (with_reducible refine (configRight_is (S := S) x [.slice A1 x.nodes.length c1, .slice A2 x.pairs.length c2, .slice A3 x.quotas.length c3, .int .i64 x.half] _ (rel_Config HF.out (H1.out.ext X.out) (H2.out.ext X.out) (H3.out.ext X.out)) _ T.out).mono ?_); rintro e w7 ⟨rfl, hx7⟩; have X7 := Lib.hid (X.out.trans hx7); have QA7 := Lib.hid (QA.out.ext hx7); have QB7 := Lib.hid (QB.out.ext hx7); clear hx7 q0; have q0 := QA7.out.cell; have p0 := QB7.out.cell)
        | (go_at_call 79; (with_reducible refine (clearForC_any (S := S) x [.slice A1 x.nodes.length c1, .slice A2 x.pairs.length c2, .slice A3 x.quotas.length c3, .int .i64 x.half] a _ (rel_Config HF.out (H1.out.ext X7.out) (H2.out.ext X7.out) (H3.out.ext X7.out)) HNL.out).mono ?_); rintro e w8 ⟨v8, F8, rfl, o8, -, hx8⟩; obtain ⟨A8, c8, rfl, -⟩ := o8.form; rw [HN.out]; have X8 := Lib.hid (X7.out.trans hx8); have QA8 := Lib.hid (QA7.out.ext hx8); have QB8 := Lib.hid (QB7.out.ext hx8); clear hx8 o8 q0 p0; have q0 := QA8.out.cell 2))
      clear hn0
      go_wp2_with fail
      clear q0
      go_loopw [20] (fun i w' => ∃ k : Nat, k ≤ x.quotas.length ∧ i = .int .i64 k ∧ (∀ j, j < k → (nth x.quotas j).label ≠ a) ∧ Ext w8 w') (fun i _ => x.quotas.length - (intOf i).toNat)
      case atStart => exact ⟨0, by omega, rfl, fun j hj => by omega, Ext.refl _⟩
      case round =>
        obtain ⟨k, hk1, rfl, hall, hx⟩ := hrel
        have HA := Lib.hid hall
        have HX := Lib.hid hx
        clear hall
        by_cases hlt : k < x.quotas.length
        · obtain ⟨b, o, cs, rfl, _, ⟨rfl, hfit⟩, hc⟩ := HK.out k hlt
          have hxw := X8.out.trans hx
          have c0 := Ext.some hxw (hc 0 _ rfl)
          have c1 := Ext.some hxw (hc 1 _ rfl)
          have c2 := Ext.some hxw (hc 2 _ rfl)
          simp only [EQuota, Nat.add_zero] at c0 c1 c2
          have d0 := fun ob : Obj => Ext.some (hx.alloc ob) (QB8.out.cell 0)
          have d1 := fun ob : Obj => Ext.some (hx.alloc ob) (QB8.out.cell 1)
          have XR := Lib.hid hxw
          clear hc hfit hx hxw
          by_cases he : (nth x.quotas k).label = a
          · have HQ := Lib.hid (quotaIn_at hlt he HA.out)
            have g0 : (nth x.quotas k).label.level = a.level := by rw [he]
            have g1 : (nth x.quotas k).label.set = a.set := by rw [he]
            clear he
            go_wp2_with fail
            go_ret
            exact ⟨ret_int (by rw [HE.out, HQ.out]), XR.out.alloc _⟩
          · have HG := Lib.hid (all_succ (p := fun j => (nth x.quotas j).label ≠ a) HA.out he)
            have ite__ := @ite_ok
            rcases label_ne he with g | g
            all_goals
              clear he
              go_wp2_with fail
              go_roundw
              case rel => exact ⟨k + 1, by omega, by go_num, HG.out, HX.out.alloc _⟩
              case measure => simp [intOf]; omega
        · have HQ := Lib.hid (quotaIn_none (qs := x.quotas) (a := a) fun j hj => HA.out j (by omega))
          clear hx
          go_wp2_with fail
          go_ret
          exact ⟨ret_int (by rw [HE.out, HQ.out]), X8.out.trans HX.out⟩
theorem call_yard1 : ∀ (args : Array Value) (W : World), (callFunc 152 args).run Tryz.prog W = .ok (.enter 152 args) W := by
  intro args W
  go_simp
theorem call_yard2 : ∀ (args : Array Value) (W : World), (callFunc 154 args).run Tryz.prog W = .ok (.enter 154 args) W := by
  intro args W
  go_simp
set_option maxHeartbeats 8000000 in
set_option maxRecDepth 100000 in
theorem yard1_any {S S' : Nat → Prop} (y : Yard) (a : Label) (cs ds : List Value) (B : Nat) (w : World) (h : ELabel.rel S w cs a) (g : EYard.rel S' w ds y) (hb : Blk w B 44 ds.toArray) (hl : y.tasks.length ≤ 96) :
    Calls Tryz.prog 152 #[.agg cs.toArray, .pointer (some ⟨B, 0, none⟩)] w fun e w' => e = .returned (.bool (overY y a)) ∧ Ext w w' := by
  obtain ⟨rfl, -⟩ := h
  obtain ⟨v1, v2, v3, v4, v5, v6, rfl, hf, h1, h2, h3, h4, h5, h6⟩ := g
  obtain ⟨A1, c1, rfl, -⟩ := h1.form
  obtain ⟨A2, c2, rfl, -⟩ := h2.form
  obtain ⟨A3, c3, rfl, -⟩ := h3.form
  obtain ⟨A4, c4, rfl, -⟩ := h4.form
  obtain ⟨A5, c5, rfl, -⟩ := h5.form
  obtain ⟨A6, c6, rfl, -⟩ := h6.form
  have HF : Hid (FitConfig y.config) := Lib.hid hf.1
  have H1 := Lib.hid h1
  have H2 := Lib.hid h2
  have H3 := Lib.hid h3
  have H5 := Lib.hid h5
  have HL := Lib.hid hl
  have QY := Lib.hid hb
  clear hf h1 h2 h3 h4 h5 h6 hb hl
  simp only [cellsLabel, cellsYard] at QY ⊢
  go_enter Tryz.func152, Tryz.ntmps152
  go_upto_region 1 with (fail)
  obtain ⟨W, C, hW, hC, hx0, b0⟩ : ∃ W C, W = w.alloc (.cells #[.int .i64 a.level, .int .i64 a.set] 49) ∧ C = w.heap.size ∧ Ext w W ∧ Blk W C 49 #[.int .i64 a.level, .int .i64 a.set] := ⟨_, _, rfl, rfl, (Ext.refl w).alloc _, Blk.new _ _ _⟩
  rw [← hW, ← hC]
  have X := Lib.hid hx0
  have y0 := (QY.out.ext hx0).cell 0
  have y1 := (QY.out.ext hx0).cell 1
  have y2 := (QY.out.ext hx0).cell 2
  have y3 := (QY.out.ext hx0).cell 3
  have y5 := (QY.out.ext hx0).cell 5
  have b1 := b0.cell 1
  replace b0 := b0.cell 0
  simp only [List.getElem?_toArray, List.getElem?_cons_succ, List.getElem?_cons_zero] at y0 y1 y2 y3 y5 b0 b1
  clear hW hC hx0
  refine wp_region_ext (by kernel_rfl) (by kernel_rfl) ?_
  repeat (
    (refine wpQuiet_step (fun K hK => ?_)
     go_simp
     first
      | (refine hK _ ?_; clear hK K)
      | (apply Exists.intro
         refine ⟨fun w__ hx__ => ?_, hK _ ?_⟩
         · have b0__ := Ext.some hx__ b0; have b1__ := Ext.some hx__ b1; have y0__ := Ext.some hx__ y0; have y1__ := Ext.some hx__ y1; have y2__ := Ext.some hx__ y2; have y3__ := Ext.some hx__ y3; have y5__ := Ext.some hx__ y5; first | exact rfl | (go_simp; done) | (go_simp; exact rfl) | (go_at_call 112; exact ext_of hx__ (liveOfN_any (S := S') y.tasks a _ _ (H5.out.ext (X.out.trans hx__)) HL.out)) | (go_at_call 113; exact ext_of hx__ (quotaOf_any (S := S') y.config _ a _ (rel_Config HF.out (H1.out.ext (X.out.trans hx__)) (H2.out.ext (X.out.trans hx__)) (H3.out.ext (X.out.trans hx__)))))
         clear hK K)))
  refine wpQuiet_nil ?_
  intro w1 hx1
  have X1 := Lib.hid (X.out.trans hx1)
  clear hx1 b0 b1 y0 y1 y2 y3 y5
  go_wp2_with fail
  go_ret
  exact ⟨ret_bool (by unfold overY; first | rfl | (go_light; simp)), X1.out⟩
theorem yard2_any {S S' : Nat → Prop} (ls : List Label) (x : Use) (cs : List Value) (v : Value) (B : Nat) (w : World) (h : EUse.rel S w cs x) (g : Rd ELabel S' w v ls) (hb : Blk w B 167 #[v]) :
    Calls Tryz.prog 154 #[.agg cs.toArray, .pointer (some ⟨B, 0, none⟩)] w fun e w' => e = .returned (.bool (useBad ls x)) ∧ Ext w w' := by
  obtain ⟨rfl, -⟩ := h
  have HR := Lib.hid g
  obtain ⟨A, c, rfl, -⟩ := g.form
  have b0 := fun ob : Obj => Ext.some ((Ext.refl w).alloc ob) (hb.cell 0)
  clear g hb
  simp only [cellsUse]
  go_enter Tryz.func154, Tryz.ntmps154
  go_wp2_with (go_at_call 155; (with_reducible refine (containsLabel_any (S := S') ls x.label _ _ (HR.out.ext ((Ext.refl _).alloc _))).mono ?_); rintro e w1 ⟨rfl, hx1⟩; have HX1 := Lib.hid hx1; clear hx1)
  go_ret
  exact ⟨ret_bool (by rw [useBad]), ((Ext.refl _).alloc _).trans HX1.out⟩
end Go.Proofs.YtngldifgcgblpaaGreat
namespace Go.Proofs.YtngldifgcgblpaaGreat
open Go.RowKit
attribute [local irreducible] wpQuiet
set_option maxHeartbeats 8000000 in
set_option maxRecDepth 100000 in
theorem taskFits_any {S S' : Nat → Prop} (y : Yard) (x : Task) (cs ds : List Value) (w : World) (h : EYard.rel S w cs y) (g : ETask.rel S' w ds x) (hn : y.config.nodes.length ≤ 6) (hw : nowOk y.now = true) (ht : taskRight x = true) :
    Calls Tryz.prog 149 #[.agg cs.toArray, .agg ds.toArray] w fun e w' => e = .returned (.bool (fitsY y.config.nodes y.now x)) ∧ Ext w w' := by
  obtain ⟨v1, v2, v3, v4, v5, v6, rfl, hf, h1, h2, h3, h4, h5, h6⟩ := h
  obtain ⟨A1, c1, rfl, -⟩ := h1.form
  obtain ⟨A2, c2, rfl, -⟩ := h2.form
  obtain ⟨A3, c3, rfl, -⟩ := h3.form
  obtain ⟨A4, c4, rfl, -⟩ := h4.form
  obtain ⟨A5, c5, rfl, -⟩ := h5.form
  obtain ⟨A6, c6, rfl, -⟩ := h6.form
  obtain ⟨u1, rfl, gf, g1⟩ := g
  obtain ⟨AT, cT, rfl, -⟩ := g1.form
  have HFC : Hid (FitConfig y.config) := Lib.hid hf.1
  have GF := Lib.hid gf
  have H1 := Lib.hid h1
  have H2 := Lib.hid h2
  have H3 := Lib.hid h3
  have G1 := Lib.hid g1
  have HNL := Lib.hid hn
  have HT := Lib.hid ht
  obtain ⟨n0, n1⟩ := now_bounds hw
  have N0 := Lib.hid n0
  have N1 := Lib.hid n1
  clear hf gf h1 h2 h3 h4 h5 h6 g1 hn ht hw n0 n1
  obtain ⟨n, hn⟩ : ∃ n, (clearOf y.config.nodes x.label y.config.nodes.length).length = n := ⟨_, rfl⟩
  have HN := Lib.hid hn
  have HM : Hid ((manyOf y.config.nodes x.label : Int) = (n : Int)) := Lib.hid (by rw [manyOf, hn])
  clear hn
  simp only [cellsYard, cellsTask]
  go_enter Tryz.func149, Tryz.ntmps149
  go_upto_region 1 with (fail)
  obtain ⟨W, B, hW, hB, hx0, a0, b0⟩ := boxes2 w #[.slice A1 y.config.nodes.length c1, .slice A2 y.config.pairs.length c2, .slice A3 y.config.quotas.length c3, .int .i64 y.config.half, .slice A4 y.nodes.length c4, .slice A5 y.tasks.length c5, .slice A6 y.uses.length c6, .int .i64 y.now] #[.int .i64 x.label.level, .int .i64 x.label.set, .int .i64 x.id, .string x.owner, .int .i64 x.need, .int .i64 x.long, .int .i64 x.prio, .int .i64 x.under.level, .int .i64 x.under.set, .int .i64 x.after, .int .i64 x.born, .int .i64 x.state, .int .i64 x.start, .slice AT x.nodes.length cT] 44 87
  rw [← hW, ← hB]
  have QA := Lib.hid a0
  have QB := Lib.hid b0
  have X := Lib.hid hx0
  clear hW hB hx0 a0 b0
  have qa := QA.out.cell
  have qb := QB.out.cell
  go_upto_region 2 with (go_at_call 79; (with_reducible refine (clearForC_any (S := S) y.config [.slice A1 y.config.nodes.length c1, .slice A2 y.config.pairs.length c2, .slice A3 y.config.quotas.length c3, .int .i64 y.config.half] x.label _ (rel_Config HFC.out (H1.out.ext X.out) (H2.out.ext X.out) (H3.out.ext X.out)) HNL.out).mono ?_); rintro e w7 ⟨v7, F7, rfl, o7, -, hx7⟩; obtain ⟨A7, c7, rfl, -⟩ := o7.form; have O7 := Lib.hid o7.rd; rw [HN.out] at O7 ⊢; have H7 := Lib.hid hx7; clear hx7 o7 qa qb)
  obtain ⟨W8, B8, hW8, hB8, hx8, b8⟩ : ∃ W B, W = w7.alloc (.cells #[.slice A7 n c7] 85) ∧ B = w7.heap.size ∧ Ext w7 W ∧ Blk W B 85 #[.slice A7 n c7] := ⟨_, _, rfl, rfl, (Ext.refl w7).alloc _, Blk.new _ _ _⟩
  rw [← hW8, ← hB8]
  have X8 := Lib.hid ((X.out.trans H7.out).trans hx8)
  replace QA := Lib.hid (QA.out.ext (H7.out.trans hx8))
  replace QB := Lib.hid (QB.out.ext (H7.out.trans hx8))
  have Q8 := Lib.hid b8
  have R7 := Lib.hid (O7.out.ext hx8)
  clear hW8 hB8 hx8 b8
  have qa := QA.out.cell
  have qb := QB.out.cell
  have q8 := Q8.out.cell 0
  by_cases k1 : (n : Int) < x.need
  · have HE := Lib.hid (fits_few (ns := y.config.nodes) (now := y.now) (x := x) (by rw [HM.out]; exact k1))
    go_wp2_with fail
    go_ret
    exact ⟨ret_bool HE.out.symm, X8.out⟩
  by_cases k2 : y.now < x.born
  · have HE := Lib.hid (fits_late (ns := y.config.nodes) (x := x) k2)
    go_wp2_with fail
    go_ret
    exact ⟨ret_bool HE.out.symm, X8.out⟩
  have hcl : ∀ (cs : List Value) (m : Int) (V : World), Ext W8 V → EInt.rel S' V cs m → Calls Tryz.prog 236 #[cs.headD undef, .pointer (some ⟨B8, 0, none⟩)] V fun e w' => e = .returned (.bool (nodeOut y.config.nodes x.label m)) ∧ Ext V w' := fun cs m V hx hr => by
    obtain ⟨rfl, _⟩ := hr
    exact fits1_any (S := fun b => b ∈ F7) y.config.nodes x.label m _ B8 V (R7.out.ext hx) (Q8.out.ext hx)
  have CLO := Lib.hid hcl
  clear hcl
  obtain ⟨t, ht⟩ : ∃ t, x.nodes.all (nodeIn y.config.nodes x.label) = t := ⟨_, rfl⟩
  have T : Hid (x.nodes.any (nodeOut y.config.nodes x.label) = !t) := Lib.hid (by rw [any_out, ht])
  cases t with
  | false =>
    have HE := Lib.hid (fits_out (now := y.now) ht)
    clear ht
    go_wp2_with (go_at_call 235; (with_reducible refine (containsFunc_Int_1 (S := S') x.nodes (nodeOut y.config.nodes x.label) _ _ _ _ (G1.out.ext X8.out) call_fits1 CLO.out).mono ?_); rintro e w9 ⟨rfl, hx9⟩; rw [T.out]; have X9 := Lib.hid (X8.out.trans hx9); have E9 := Lib.hid hx9; clear hx9 qa qb q8)
    go_ret
    exact ⟨ret_bool HE.out.symm, X9.out⟩
  | true =>
    have HE := Lib.hid (fits_place (by rw [HM.out]; exact k1) k2 ht)
    clear ht
    go_upto_region 6 with (go_at_call 235; (with_reducible refine (containsFunc_Int_1 (S := S') x.nodes (nodeOut y.config.nodes x.label) _ _ _ _ (G1.out.ext X8.out) call_fits1 CLO.out).mono ?_); rintro e w9 ⟨rfl, hx9⟩; rw [T.out]; have X9 := Lib.hid (X8.out.trans hx9); have E9 := Lib.hid hx9; clear hx9 qa qb q8)
    replace QA := Lib.hid (QA.out.ext E9.out)
    replace QB := Lib.hid (QB.out.ext E9.out)
    have s9 : w9.cell? ⟨B + 1, 11, none⟩ = some (.int .i64 x.state) := QB.out.cell 11
    have e12 : w9.cell? ⟨B + 1, 12, none⟩ = some (.int .i64 x.start) := QB.out.cell 12
    have y7 : w9.cell? ⟨B, 7, none⟩ = some (.int .i64 y.now) := QA.out.cell 7
    clear k1 k2
    by_cases hs : x.state = 2
    · have HP := Lib.hid (place_runs (now := y.now) hs)
      obtain ⟨s0, s1, l0, l1⟩ := runs_bounds HT.out hs
      have SB := Lib.hid (And.intro s0 (And.intro s1 (And.intro l0 l1)))
      clear s0 s1 l0 l1
      have e0 : w9.cell? ⟨B + 1, 0, none⟩ = some (.int .i64 x.label.level) := QB.out.cell 0
      have e1 : w9.cell? ⟨B + 1, 1, none⟩ = some (.int .i64 x.label.set) := QB.out.cell 1
      have e2 : w9.cell? ⟨B + 1, 2, none⟩ = some (.int .i64 x.id) := QB.out.cell 2
      have e3 : w9.cell? ⟨B + 1, 3, none⟩ = some (.string x.owner) := QB.out.cell 3
      have e4 : w9.cell? ⟨B + 1, 4, none⟩ = some (.int .i64 x.need) := QB.out.cell 4
      have e5 : w9.cell? ⟨B + 1, 5, none⟩ = some (.int .i64 x.long) := QB.out.cell 5
      have e6 : w9.cell? ⟨B + 1, 6, none⟩ = some (.int .i64 x.prio) := QB.out.cell 6
      have e7 : w9.cell? ⟨B + 1, 7, none⟩ = some (.int .i64 x.under.level) := QB.out.cell 7
      have e8 : w9.cell? ⟨B + 1, 8, none⟩ = some (.int .i64 x.under.set) := QB.out.cell 8
      have e9 : w9.cell? ⟨B + 1, 9, none⟩ = some (.int .i64 x.after) := QB.out.cell 9
      have e10 : w9.cell? ⟨B + 1, 10, none⟩ = some (.int .i64 x.born) := QB.out.cell 10
      have e13 : w9.cell? ⟨B + 1, 13, none⟩ = some (.slice AT x.nodes.length cT) := QB.out.cell 13
      by_cases hst : x.start ≤ y.now
      · have hd := decide_eq_true hst
        have HQ : Hid (fitsY y.config.nodes y.now x = decide (y.now < endOf x)) := Lib.hid (by rw [HE.out, HP.out, decide_eq_true hst, Bool.true_and])
        go_wp2_with fail
        clear hs
        refine wp_region_ext (by kernel_rfl) (by kernel_rfl) ?_
        repeat (
          (refine wpQuiet_step (fun K hK => ?_)
           go_simp
           first
            | (refine hK _ ?_; clear hK K)
            | (apply Exists.intro
               refine ⟨fun w__ hx__ => ?_, hK _ ?_⟩
               · have e0__ := Ext.some hx__ e0; have e1__ := Ext.some hx__ e1; have e2__ := Ext.some hx__ e2; have e3__ := Ext.some hx__ e3; have e4__ := Ext.some hx__ e4; have e5__ := Ext.some hx__ e5; have e6__ := Ext.some hx__ e6; have e7__ := Ext.some hx__ e7; have e8__ := Ext.some hx__ e8; have e9__ := Ext.some hx__ e9; have e10__ := Ext.some hx__ e10; have s9__ := Ext.some hx__ s9; have e12__ := Ext.some hx__ e12; have e13__ := Ext.some hx__ e13; have y7__ := Ext.some hx__ y7; first | exact rfl | (go_simp; done) | (go_simp; exact rfl) | (go_at_call 237; exact ext_of hx__ (taskEnd_any (S := S') x _ _ (rel_Task GF.out (G1.out.ext (X9.out.trans hx__))) SB.out.1 SB.out.2.1 SB.out.2.2.1 SB.out.2.2.2))
               clear hK K)))
        refine wpQuiet_nil ?_
        intro w1 hx1
        have HZ := Lib.hid (X9.out.trans hx1)
        clear e0 e1 e2 e3 e4 e5 e6 e7 e8 e9 e10 s9 e12 e13 y7 hx1
        go_wp2_with fail
        go_ret
        exact ⟨ret_bool HQ.out.symm, HZ.out⟩
      · have hd := decide_eq_false hst
        have HQ : Hid (fitsY y.config.nodes y.now x = false) := Lib.hid (by rw [HE.out, HP.out, decide_eq_false hst, Bool.false_and])
        go_wp2_with fail
        clear hs
        refine wp_region_ext (by kernel_rfl) (by kernel_rfl) ?_
        repeat (
          (refine wpQuiet_step (fun K hK => ?_)
           go_simp
           first
            | (refine hK _ ?_; clear hK K)
            | (apply Exists.intro
               refine ⟨fun w__ hx__ => ?_, hK _ ?_⟩
               · have e0__ := Ext.some hx__ e0; have e1__ := Ext.some hx__ e1; have e2__ := Ext.some hx__ e2; have e3__ := Ext.some hx__ e3; have e4__ := Ext.some hx__ e4; have e5__ := Ext.some hx__ e5; have e6__ := Ext.some hx__ e6; have e7__ := Ext.some hx__ e7; have e8__ := Ext.some hx__ e8; have e9__ := Ext.some hx__ e9; have e10__ := Ext.some hx__ e10; have s9__ := Ext.some hx__ s9; have e12__ := Ext.some hx__ e12; have e13__ := Ext.some hx__ e13; have y7__ := Ext.some hx__ y7; first | exact rfl | (go_simp; done) | (go_simp; exact rfl) | fail
               clear hK K)))
        refine wpQuiet_nil ?_
        intro w1 hx1
        have HZ := Lib.hid (X9.out.trans hx1)
        clear e0 e1 e2 e3 e4 e5 e6 e7 e8 e9 e10 s9 e12 e13 y7 hx1
        go_wp2_with fail
        go_ret
        exact ⟨ret_bool HQ.out.symm, HZ.out⟩
    · by_cases hz : 0 < x.nodes.length
      · have HP := Lib.hid (place_rests (now := y.now) hs hz)
        have hz' : (0 : Int) < (x.nodes.length : Int) := by omega
        have i1 : IntKind.i64.wrap (y.now + 1) = y.now + 1 := IntWalk.i64_in _ (by have := N0.out; have := N1.out; omega)
        have i2 : IntKind.i64.wrap (y.now + 40) = y.now + 40 := IntWalk.i64_in _ (by have := N0.out; have := N1.out; omega)
        have e0 : w9.cell? ⟨B + 1, 0, none⟩ = some (.int .i64 x.label.level) := QB.out.cell 0
        have e1 : w9.cell? ⟨B + 1, 1, none⟩ = some (.int .i64 x.label.set) := QB.out.cell 1
        have e2 : w9.cell? ⟨B + 1, 2, none⟩ = some (.int .i64 x.id) := QB.out.cell 2
        have e3 : w9.cell? ⟨B + 1, 3, none⟩ = some (.string x.owner) := QB.out.cell 3
        have e4 : w9.cell? ⟨B + 1, 4, none⟩ = some (.int .i64 x.need) := QB.out.cell 4
        have e5 : w9.cell? ⟨B + 1, 5, none⟩ = some (.int .i64 x.long) := QB.out.cell 5
        have e6 : w9.cell? ⟨B + 1, 6, none⟩ = some (.int .i64 x.prio) := QB.out.cell 6
        have e7 : w9.cell? ⟨B + 1, 7, none⟩ = some (.int .i64 x.under.level) := QB.out.cell 7
        have e8 : w9.cell? ⟨B + 1, 8, none⟩ = some (.int .i64 x.under.set) := QB.out.cell 8
        have e9 : w9.cell? ⟨B + 1, 9, none⟩ = some (.int .i64 x.after) := QB.out.cell 9
        have e10 : w9.cell? ⟨B + 1, 10, none⟩ = some (.int .i64 x.born) := QB.out.cell 10
        have e13 : w9.cell? ⟨B + 1, 13, none⟩ = some (.slice AT x.nodes.length cT) := QB.out.cell 13
        go_wp2_with (first | (go_at_call 238; (with_reducible refine (hasPlace_any _ _ _ _ _ _ _ _ _ _ _ _ _ _ _ _ _).mono ?_); rintro e w10 ⟨rfl, hx10⟩; have XE := Lib.hid (X9.out.trans hx10); replace e12 := Ext.some hx10 e12; replace y7 := Ext.some hx10 y7; clear hx10 e0 e1 e2 e3 e4 e5 e6 e7 e8 e9 e10 s9 e13) | (go_at_call 130; (with_reducible refine (within_any _ _ _ _).mono ?_); rintro e w11 ⟨rfl, rfl⟩))
        go_ret
        exact ⟨ret_bool (by rw [HE.out, HP.out]), XE.out⟩
      · have HP := Lib.hid (place_none (now := y.now) hs hz)
        have e0 : w9.cell? ⟨B + 1, 0, none⟩ = some (.int .i64 x.label.level) := QB.out.cell 0
        have e1 : w9.cell? ⟨B + 1, 1, none⟩ = some (.int .i64 x.label.set) := QB.out.cell 1
        have e2 : w9.cell? ⟨B + 1, 2, none⟩ = some (.int .i64 x.id) := QB.out.cell 2
        have e3 : w9.cell? ⟨B + 1, 3, none⟩ = some (.string x.owner) := QB.out.cell 3
        have e4 : w9.cell? ⟨B + 1, 4, none⟩ = some (.int .i64 x.need) := QB.out.cell 4
        have e5 : w9.cell? ⟨B + 1, 5, none⟩ = some (.int .i64 x.long) := QB.out.cell 5
        have e6 : w9.cell? ⟨B + 1, 6, none⟩ = some (.int .i64 x.prio) := QB.out.cell 6
        have e7 : w9.cell? ⟨B + 1, 7, none⟩ = some (.int .i64 x.under.level) := QB.out.cell 7
        have e8 : w9.cell? ⟨B + 1, 8, none⟩ = some (.int .i64 x.under.set) := QB.out.cell 8
        have e9 : w9.cell? ⟨B + 1, 9, none⟩ = some (.int .i64 x.after) := QB.out.cell 9
        have e10 : w9.cell? ⟨B + 1, 10, none⟩ = some (.int .i64 x.born) := QB.out.cell 10
        have e13 : w9.cell? ⟨B + 1, 13, none⟩ = some (.slice AT x.nodes.length cT) := QB.out.cell 13
        go_wp2_with (go_at_call 238; (with_reducible refine (hasPlace_any _ _ _ _ _ _ _ _ _ _ _ _ _ _ _ _ _).mono ?_); rintro e w10 ⟨rfl, hx10⟩; have XE := Lib.hid (X9.out.trans hx10); replace e12 := Ext.some hx10 e12; replace y7 := Ext.some hx10 y7; clear hx10 e0 e1 e2 e3 e4 e5 e6 e7 e8 e9 e10 s9 e13)
        go_ret
        exact ⟨ret_bool (by rw [HE.out, HP.out]), XE.out⟩
theorem taskFits_is {S S' : Nat → Prop} (y : Yard) (x : Task) (cs ds : List Value) (w : World) (h : EYard.rel S w cs y) (g : ETask.rel S' w ds x) (hn : y.config.nodes.length ≤ 6) (hw : nowOk y.now = true) (ht : taskRight x = true) (r : Bool) (hr : fitsY y.config.nodes y.now x = r) :
    Calls Tryz.prog 149 #[.agg cs.toArray, .agg ds.toArray] w fun e w' => e = .returned (.bool r) ∧ Ext w w' := by
  subst hr
  exact taskFits_any y x cs ds w h g hn hw ht
set_option maxHeartbeats 16000000 in
set_option maxRecDepth 100000 in
theorem yardRight_any {S : Nat → Prop} (y : Yard) (cs : List Value) (w : World) (h : EYard.rel S w cs y) :
    Calls Tryz.prog 76 #[.agg cs.toArray] w fun e w' => e = .returned (.bool (yardRight y)) ∧ Ext w w' := by
  obtain ⟨v1, v2, v3, v4, v5, v6, rfl, hf, h1, h2, h3, h4, h5, h6⟩ := h
  obtain ⟨A1, c1, rfl, -⟩ := h1.form
  obtain ⟨A2, c2, rfl, -⟩ := h2.form
  obtain ⟨A3, c3, rfl, -⟩ := h3.form
  obtain ⟨A4, c4, rfl, -⟩ := h4.form
  have H5 := Lib.hid h5
  obtain ⟨A5, c5, rfl, l5, m5, hk5⟩ := h5.open_
  unfold maxLen at m5
  obtain ⟨A6, c6, rfl, -⟩ := h6.form
  have HF := Lib.hid hf
  have HFC : Hid (FitConfig y.config) := Lib.hid hf.1
  have H1 := Lib.hid h1
  have H2 := Lib.hid h2
  have H3 := Lib.hid h3
  have H4 := Lib.hid h4
  have H6 := Lib.hid h6
  have HK := Lib.hid hk5
  clear hf h1 h2 h3 h4 h5 h6 hk5
  simp only [cellsYard]
  obtain ⟨t1, ht1⟩ : ∃ t, configRight y.config = t := ⟨_, rfl⟩
  obtain ⟨t3, ht3⟩ : ∃ t, nodesRight y.nodes = t := ⟨_, rfl⟩
  obtain ⟨t4, ht4⟩ : ∃ t, tasksRight y.tasks = t := ⟨_, rfl⟩
  obtain ⟨t5, ht5⟩ : ∃ t, usesRight y.uses = t := ⟨_, rfl⟩
  obtain ⟨t6, ht6⟩ : ∃ t, nowOk y.now = t := ⟨_, rfl⟩
  have T1 := Lib.hid ht1
  have T3 := Lib.hid ht3
  have T4 := Lib.hid ht4
  have T5 := Lib.hid ht5
  have T6 := Lib.hid ht6
  clear ht1 ht3 ht4 ht5 ht6
  go_enter Tryz.func76, Tryz.ntmps76
  go_upto_region 1 with (fail)
  obtain ⟨W, B, hW, hB, hx0, b0⟩ : ∃ W B, W = w.alloc (.cells #[.slice A1 y.config.nodes.length c1, .slice A2 y.config.pairs.length c2, .slice A3 y.config.quotas.length c3, .int .i64 y.config.half, .slice A4 y.nodes.length c4, .slice A5 y.tasks.length c5, .slice A6 y.uses.length c6, .int .i64 y.now] 44) ∧ B = w.heap.size ∧ Ext w W ∧ Blk W B 44 #[.slice A1 y.config.nodes.length c1, .slice A2 y.config.pairs.length c2, .slice A3 y.config.quotas.length c3, .int .i64 y.config.half, .slice A4 y.nodes.length c4, .slice A5 y.tasks.length c5, .slice A6 y.uses.length c6, .int .i64 y.now] := ⟨_, _, rfl, rfl, (Ext.refl w).alloc _, Blk.new _ _ _⟩
  rw [← hW, ← hB]
  have QA := Lib.hid b0
  have X := Lib.hid hx0
  clear hW hB hx0 b0
  have qa := QA.out.cell
  cases t1 with
  | false =>
    have HN := Lib.hid (yard_head (y := y) (by simp [yardHead, T1.out]))
    go_wp2_with (first | (go_at_call 144; (with_reducible refine (configRight_is (S := S) y.config [.slice A1 y.config.nodes.length c1, .slice A2 y.config.pairs.length c2, .slice A3 y.config.quotas.length c3, .int .i64 y.config.half] _ (rel_Config HFC.out (H1.out.ext X.out) (H2.out.ext X.out) (H3.out.ext X.out)) _ T1.out).mono ?_); rintro e w7 ⟨rfl, hx7⟩; replace X := Lib.hid (X.out.trans hx7); replace QA := Lib.hid (QA.out.ext hx7); clear hx7 qa; have qa := QA.out.cell) | (go_at_call 145; (with_reducible refine (nodesRight_is (S := S) y.nodes _ _ (H4.out.ext X.out) _ T3.out).mono ?_); rintro e w7 ⟨rfl, hx7⟩; replace X := Lib.hid (X.out.trans hx7); replace QA := Lib.hid (QA.out.ext hx7); clear hx7 qa; have qa := QA.out.cell) | (go_at_call 146; (with_reducible refine (tasksRight_is (S := S) y.tasks _ _ (H5.out.ext X.out) _ T4.out).mono ?_); rintro e w7 ⟨rfl, hx7⟩; replace X := Lib.hid (X.out.trans hx7); replace QA := Lib.hid (QA.out.ext hx7); clear hx7 qa; have qa := QA.out.cell) | (go_at_call 147; (with_reducible refine (usesRight_is (S := S) y.uses _ _ (H6.out.ext X.out) _ T5.out).mono ?_); rintro e w7 ⟨rfl, hx7⟩; replace X := Lib.hid (X.out.trans hx7); replace QA := Lib.hid (QA.out.ext hx7); clear hx7 qa; have qa := QA.out.cell) | (go_at_call 148; (with_reducible refine (isNowY_is _ _ _ T6.out).mono ?_); rintro e w8 ⟨rfl, rfl⟩))
    go_ret
    exact ⟨ret_bool HN.out.symm, X.out⟩
  | true =>
    by_cases hl : y.nodes.length = y.config.nodes.length
    case neg =>
      have hl' : ¬ ((y.nodes.length : Int) = (y.config.nodes.length : Int)) := by omega
      have HN := Lib.hid (yard_head (y := y) (by simp [yardHead, hl]))
      go_wp2_with (first | (go_at_call 144; (with_reducible refine (configRight_is (S := S) y.config [.slice A1 y.config.nodes.length c1, .slice A2 y.config.pairs.length c2, .slice A3 y.config.quotas.length c3, .int .i64 y.config.half] _ (rel_Config HFC.out (H1.out.ext X.out) (H2.out.ext X.out) (H3.out.ext X.out)) _ T1.out).mono ?_); rintro e w7 ⟨rfl, hx7⟩; replace X := Lib.hid (X.out.trans hx7); replace QA := Lib.hid (QA.out.ext hx7); clear hx7 qa; have qa := QA.out.cell) | (go_at_call 145; (with_reducible refine (nodesRight_is (S := S) y.nodes _ _ (H4.out.ext X.out) _ T3.out).mono ?_); rintro e w7 ⟨rfl, hx7⟩; replace X := Lib.hid (X.out.trans hx7); replace QA := Lib.hid (QA.out.ext hx7); clear hx7 qa; have qa := QA.out.cell) | (go_at_call 146; (with_reducible refine (tasksRight_is (S := S) y.tasks _ _ (H5.out.ext X.out) _ T4.out).mono ?_); rintro e w7 ⟨rfl, hx7⟩; replace X := Lib.hid (X.out.trans hx7); replace QA := Lib.hid (QA.out.ext hx7); clear hx7 qa; have qa := QA.out.cell) | (go_at_call 147; (with_reducible refine (usesRight_is (S := S) y.uses _ _ (H6.out.ext X.out) _ T5.out).mono ?_); rintro e w7 ⟨rfl, hx7⟩; replace X := Lib.hid (X.out.trans hx7); replace QA := Lib.hid (QA.out.ext hx7); clear hx7 qa; have qa := QA.out.cell) | (go_at_call 148; (with_reducible refine (isNowY_is _ _ _ T6.out).mono ?_); rintro e w8 ⟨rfl, rfl⟩))
      go_ret
      exact ⟨ret_bool HN.out.symm, X.out⟩
    case pos =>
      have HL := Lib.hid hl
      have hl2 : ((y.nodes.length : Int) != (y.config.nodes.length : Int)) = false := by simp [hl]
      clear hl
      cases t3 with
      | false =>
        have HN := Lib.hid (yard_head (y := y) (by simp [yardHead, T3.out]))
        go_wp2_with (first | (go_at_call 144; (with_reducible refine (configRight_is (S := S) y.config [.slice A1 y.config.nodes.length c1, .slice A2 y.config.pairs.length c2, .slice A3 y.config.quotas.length c3, .int .i64 y.config.half] _ (rel_Config HFC.out (H1.out.ext X.out) (H2.out.ext X.out) (H3.out.ext X.out)) _ T1.out).mono ?_); rintro e w7 ⟨rfl, hx7⟩; replace X := Lib.hid (X.out.trans hx7); replace QA := Lib.hid (QA.out.ext hx7); clear hx7 qa; have qa := QA.out.cell) | (go_at_call 145; (with_reducible refine (nodesRight_is (S := S) y.nodes _ _ (H4.out.ext X.out) _ T3.out).mono ?_); rintro e w7 ⟨rfl, hx7⟩; replace X := Lib.hid (X.out.trans hx7); replace QA := Lib.hid (QA.out.ext hx7); clear hx7 qa; have qa := QA.out.cell) | (go_at_call 146; (with_reducible refine (tasksRight_is (S := S) y.tasks _ _ (H5.out.ext X.out) _ T4.out).mono ?_); rintro e w7 ⟨rfl, hx7⟩; replace X := Lib.hid (X.out.trans hx7); replace QA := Lib.hid (QA.out.ext hx7); clear hx7 qa; have qa := QA.out.cell) | (go_at_call 147; (with_reducible refine (usesRight_is (S := S) y.uses _ _ (H6.out.ext X.out) _ T5.out).mono ?_); rintro e w7 ⟨rfl, hx7⟩; replace X := Lib.hid (X.out.trans hx7); replace QA := Lib.hid (QA.out.ext hx7); clear hx7 qa; have qa := QA.out.cell) | (go_at_call 148; (with_reducible refine (isNowY_is _ _ _ T6.out).mono ?_); rintro e w8 ⟨rfl, rfl⟩))
        go_ret
        exact ⟨ret_bool HN.out.symm, X.out⟩
      | true =>
        cases t4 with
        | false =>
          have HN := Lib.hid (yard_head (y := y) (by simp [yardHead, T4.out]))
          go_wp2_with (first | (go_at_call 144; (with_reducible refine (configRight_is (S := S) y.config [.slice A1 y.config.nodes.length c1, .slice A2 y.config.pairs.length c2, .slice A3 y.config.quotas.length c3, .int .i64 y.config.half] _ (rel_Config HFC.out (H1.out.ext X.out) (H2.out.ext X.out) (H3.out.ext X.out)) _ T1.out).mono ?_); rintro e w7 ⟨rfl, hx7⟩; replace X := Lib.hid (X.out.trans hx7); replace QA := Lib.hid (QA.out.ext hx7); clear hx7 qa; have qa := QA.out.cell) | (go_at_call 145; (with_reducible refine (nodesRight_is (S := S) y.nodes _ _ (H4.out.ext X.out) _ T3.out).mono ?_); rintro e w7 ⟨rfl, hx7⟩; replace X := Lib.hid (X.out.trans hx7); replace QA := Lib.hid (QA.out.ext hx7); clear hx7 qa; have qa := QA.out.cell) | (go_at_call 146; (with_reducible refine (tasksRight_is (S := S) y.tasks _ _ (H5.out.ext X.out) _ T4.out).mono ?_); rintro e w7 ⟨rfl, hx7⟩; replace X := Lib.hid (X.out.trans hx7); replace QA := Lib.hid (QA.out.ext hx7); clear hx7 qa; have qa := QA.out.cell) | (go_at_call 147; (with_reducible refine (usesRight_is (S := S) y.uses _ _ (H6.out.ext X.out) _ T5.out).mono ?_); rintro e w7 ⟨rfl, hx7⟩; replace X := Lib.hid (X.out.trans hx7); replace QA := Lib.hid (QA.out.ext hx7); clear hx7 qa; have qa := QA.out.cell) | (go_at_call 148; (with_reducible refine (isNowY_is _ _ _ T6.out).mono ?_); rintro e w8 ⟨rfl, rfl⟩))
          go_ret
          exact ⟨ret_bool HN.out.symm, X.out⟩
        | true =>
          cases t5 with
          | false =>
            have HN := Lib.hid (yard_head (y := y) (by simp [yardHead, T5.out]))
            go_wp2_with (first | (go_at_call 144; (with_reducible refine (configRight_is (S := S) y.config [.slice A1 y.config.nodes.length c1, .slice A2 y.config.pairs.length c2, .slice A3 y.config.quotas.length c3, .int .i64 y.config.half] _ (rel_Config HFC.out (H1.out.ext X.out) (H2.out.ext X.out) (H3.out.ext X.out)) _ T1.out).mono ?_); rintro e w7 ⟨rfl, hx7⟩; replace X := Lib.hid (X.out.trans hx7); replace QA := Lib.hid (QA.out.ext hx7); clear hx7 qa; have qa := QA.out.cell) | (go_at_call 145; (with_reducible refine (nodesRight_is (S := S) y.nodes _ _ (H4.out.ext X.out) _ T3.out).mono ?_); rintro e w7 ⟨rfl, hx7⟩; replace X := Lib.hid (X.out.trans hx7); replace QA := Lib.hid (QA.out.ext hx7); clear hx7 qa; have qa := QA.out.cell) | (go_at_call 146; (with_reducible refine (tasksRight_is (S := S) y.tasks _ _ (H5.out.ext X.out) _ T4.out).mono ?_); rintro e w7 ⟨rfl, hx7⟩; replace X := Lib.hid (X.out.trans hx7); replace QA := Lib.hid (QA.out.ext hx7); clear hx7 qa; have qa := QA.out.cell) | (go_at_call 147; (with_reducible refine (usesRight_is (S := S) y.uses _ _ (H6.out.ext X.out) _ T5.out).mono ?_); rintro e w7 ⟨rfl, hx7⟩; replace X := Lib.hid (X.out.trans hx7); replace QA := Lib.hid (QA.out.ext hx7); clear hx7 qa; have qa := QA.out.cell) | (go_at_call 148; (with_reducible refine (isNowY_is _ _ _ T6.out).mono ?_); rintro e w8 ⟨rfl, rfl⟩))
            go_ret
            exact ⟨ret_bool HN.out.symm, X.out⟩
          | true =>
            cases t6 with
            | false =>
              have HN := Lib.hid (yard_head (y := y) (by simp [yardHead, T6.out]))
              go_wp2_with (first | (go_at_call 144; (with_reducible refine (configRight_is (S := S) y.config [.slice A1 y.config.nodes.length c1, .slice A2 y.config.pairs.length c2, .slice A3 y.config.quotas.length c3, .int .i64 y.config.half] _ (rel_Config HFC.out (H1.out.ext X.out) (H2.out.ext X.out) (H3.out.ext X.out)) _ T1.out).mono ?_); rintro e w7 ⟨rfl, hx7⟩; replace X := Lib.hid (X.out.trans hx7); replace QA := Lib.hid (QA.out.ext hx7); clear hx7 qa; have qa := QA.out.cell) | (go_at_call 145; (with_reducible refine (nodesRight_is (S := S) y.nodes _ _ (H4.out.ext X.out) _ T3.out).mono ?_); rintro e w7 ⟨rfl, hx7⟩; replace X := Lib.hid (X.out.trans hx7); replace QA := Lib.hid (QA.out.ext hx7); clear hx7 qa; have qa := QA.out.cell) | (go_at_call 146; (with_reducible refine (tasksRight_is (S := S) y.tasks _ _ (H5.out.ext X.out) _ T4.out).mono ?_); rintro e w7 ⟨rfl, hx7⟩; replace X := Lib.hid (X.out.trans hx7); replace QA := Lib.hid (QA.out.ext hx7); clear hx7 qa; have qa := QA.out.cell) | (go_at_call 147; (with_reducible refine (usesRight_is (S := S) y.uses _ _ (H6.out.ext X.out) _ T5.out).mono ?_); rintro e w7 ⟨rfl, hx7⟩; replace X := Lib.hid (X.out.trans hx7); replace QA := Lib.hid (QA.out.ext hx7); clear hx7 qa; have qa := QA.out.cell) | (go_at_call 148; (with_reducible refine (isNowY_is _ _ _ T6.out).mono ?_); rintro e w8 ⟨rfl, rfl⟩))
              go_ret
              exact ⟨ret_bool HN.out.symm, X.out⟩
            | true =>
              have HH : Hid (yardHead y = true) := Lib.hid (by simp [yardHead, T1.out, HL.out, T3.out, T4.out, T5.out, T6.out])
              have hcl := config_clear T1.out
              have HNL : Hid (y.config.nodes.length ≤ 6) := Lib.hid (clear_length hcl).2
              have HCL := Lib.hid hcl
              have HLT := Lib.hid (few_tasks T4.out)
              clear hcl
              go_upto_region 3 with (first | (go_at_call 144; (with_reducible refine (configRight_is (S := S) y.config [.slice A1 y.config.nodes.length c1, .slice A2 y.config.pairs.length c2, .slice A3 y.config.quotas.length c3, .int .i64 y.config.half] _ (rel_Config HFC.out (H1.out.ext X.out) (H2.out.ext X.out) (H3.out.ext X.out)) _ T1.out).mono ?_); rintro e w7 ⟨rfl, hx7⟩; replace X := Lib.hid (X.out.trans hx7); replace QA := Lib.hid (QA.out.ext hx7); clear hx7 qa; have qa := QA.out.cell) | (go_at_call 145; (with_reducible refine (nodesRight_is (S := S) y.nodes _ _ (H4.out.ext X.out) _ T3.out).mono ?_); rintro e w7 ⟨rfl, hx7⟩; replace X := Lib.hid (X.out.trans hx7); replace QA := Lib.hid (QA.out.ext hx7); clear hx7 qa; have qa := QA.out.cell) | (go_at_call 146; (with_reducible refine (tasksRight_is (S := S) y.tasks _ _ (H5.out.ext X.out) _ T4.out).mono ?_); rintro e w7 ⟨rfl, hx7⟩; replace X := Lib.hid (X.out.trans hx7); replace QA := Lib.hid (QA.out.ext hx7); clear hx7 qa; have qa := QA.out.cell) | (go_at_call 147; (with_reducible refine (usesRight_is (S := S) y.uses _ _ (H6.out.ext X.out) _ T5.out).mono ?_); rintro e w7 ⟨rfl, hx7⟩; replace X := Lib.hid (X.out.trans hx7); replace QA := Lib.hid (QA.out.ext hx7); clear hx7 qa; have qa := QA.out.cell) | (go_at_call 148; (with_reducible refine (isNowY_is _ _ _ T6.out).mono ?_); rintro e w8 ⟨rfl, rfl⟩))
              clear hl2
              go_upto_region 4 with (fail)
              clear qa
              obtain ⟨W3, B3, hW3, hB3, hx3, b3⟩ : ∃ W B, W = w7.alloc (.cells #[.bool false, .bool false, .bool false, .bool false, .bool false, .bool false] 171) ∧ B = w7.heap.size ∧ Ext w7 W ∧ Blk W B 171 (boolsN fun _ => false) := ⟨_, _, rfl, rfl, (Ext.refl w7).alloc _, Blk.new _ _ _⟩
              rw [← hW3, ← hB3]
              have X3 := Lib.hid hx3
              have Q3 := Lib.hid b3
              have HB3 : Hid (w7.heap.size ≤ B3) := Lib.hid (by omega)
              have HNE : Hid (B ∉ [B3]) := Lib.hid (by have := QA.out.lt; simp; omega)
              clear hW3 hB3 hx3 b3
              have qa : W3.cell? ⟨B, 5, none⟩ = some (.slice A5 y.tasks.length c5) := (QA.out.ext X3.out).cell 5
              go_wp2_with fail
              clear qa
              go_loopw [51] (fun i w' => ∃ k : Nat, k ≤ y.tasks.length ∧ i = .int .i64 k ∧ (∀ j, j < k → taskOkY y j = true) ∧ Blk w' B3 171 (boolsN (usedBy (y.tasks.take k))) ∧ Kept [B3] W3 w' ∧ Ext w7 w') (fun i _ => y.tasks.length - (intOf i).toNat)
              case atStart => exact ⟨0, by omega, rfl, fun j hj => by omega, by rw [used_start]; exact Q3.out, Kept.refl _ _, X3.out⟩
              case round =>
                obtain ⟨k, hk1, rfl, hall, hb3, hkp, hx⟩ := hrel
                have HA := Lib.hid hall
                have HB := Lib.hid hb3
                have HKp := Lib.hid hkp
                have HX := Lib.hid hx
                clear hall hb3 hkp
                by_cases hlt : k < y.tasks.length
                · obtain ⟨b, o, cs, rfl, _, ⟨vt, rfl, hft, hrt⟩, hc⟩ := HK.out k hlt
                  obtain ⟨AT, cT, rfl, lt1, lt2, htk⟩ := hrt.open_
                  unfold maxLen at lt2
                  have hxw := X.out.trans hx
                  have z0 := Ext.some hxw (hc 0 _ rfl)
                  have z1 := Ext.some hxw (hc 1 _ rfl)
                  have z2 := Ext.some hxw (hc 2 _ rfl)
                  have z3 := Ext.some hxw (hc 3 _ rfl)
                  have z4 := Ext.some hxw (hc 4 _ rfl)
                  have z5 := Ext.some hxw (hc 5 _ rfl)
                  have z6 := Ext.some hxw (hc 6 _ rfl)
                  have z7 := Ext.some hxw (hc 7 _ rfl)
                  have z8 := Ext.some hxw (hc 8 _ rfl)
                  have z9 := Ext.some hxw (hc 9 _ rfl)
                  have z10 := Ext.some hxw (hc 10 _ rfl)
                  have z11 := Ext.some hxw (hc 11 _ rfl)
                  have z12 := Ext.some hxw (hc 12 _ rfl)
                  have z13 := Ext.some hxw (hc 13 _ rfl)
                  simp only [ETask, Nat.add_zero] at z0 z1 z2 z3 z4 z5 z6 z7 z8 z9 z10 z11 z12 z13
                  have HFT := Lib.hid hft
                  have HRT := Lib.hid hrt
                  have HTK := Lib.hid htk
                  have HTR := Lib.hid (all_right T4.out hlt)
                  clear hc hft hrt htk hx hxw
                  go_upto_region 7 with (fail)
                  obtain ⟨W5, B5, hW5, hB5, hx5, b5⟩ : ∃ W B, W = wr.alloc (.cells #[.int .i64 (nth y.tasks k).label.level, .int .i64 (nth y.tasks k).label.set, .int .i64 (nth y.tasks k).id, .string (nth y.tasks k).owner, .int .i64 (nth y.tasks k).need, .int .i64 (nth y.tasks k).long, .int .i64 (nth y.tasks k).prio, .int .i64 (nth y.tasks k).under.level, .int .i64 (nth y.tasks k).under.set, .int .i64 (nth y.tasks k).after, .int .i64 (nth y.tasks k).born, .int .i64 (nth y.tasks k).state, .int .i64 (nth y.tasks k).start, .slice AT (nth y.tasks k).nodes.length cT] 87) ∧ B = wr.heap.size ∧ Ext wr W ∧ Blk W B 87 #[.int .i64 (nth y.tasks k).label.level, .int .i64 (nth y.tasks k).label.set, .int .i64 (nth y.tasks k).id, .string (nth y.tasks k).owner, .int .i64 (nth y.tasks k).need, .int .i64 (nth y.tasks k).long, .int .i64 (nth y.tasks k).prio, .int .i64 (nth y.tasks k).under.level, .int .i64 (nth y.tasks k).under.set, .int .i64 (nth y.tasks k).after, .int .i64 (nth y.tasks k).born, .int .i64 (nth y.tasks k).state, .int .i64 (nth y.tasks k).start, .slice AT (nth y.tasks k).nodes.length cT] := ⟨_, _, rfl, rfl, (Ext.refl wr).alloc _, Blk.new _ _ _⟩
                  rw [← hW5, ← hB5]
                  have HB5 : Hid (B5 ∉ [B3]) := Lib.hid (by have := HB.out.lt; simp; omega)
                  have X5 := Lib.hid (HX.out.trans hx5)
                  have Q5 := Lib.hid b5
                  have QB := Lib.hid (HB.out.ext hx5)
                  have K5 := Lib.hid (HKp.out.trans (Kept.of_ext (F := [B3]) hx5))
                  clear hW5 hB5 hx5 b5 z0 z1 z2 z3 z4 z5 z6 z7 z8 z9 z10 z11 z12 z13
                  have qa := (QA.out.ext X5.out).cell
                  have qt := Q5.out.cell
                  obtain ⟨t, ht⟩ : ∃ t, fitsY y.config.nodes y.now (nth y.tasks k) = t := ⟨_, rfl⟩
                  have T := Lib.hid ht
                  clear ht
                  cases t with
                  | false =>
                    have HN := Lib.hid (yard_task hlt (task_unfit T.out))
                    go_wp2_with (go_at_call 149; (with_reducible refine (taskFits_is (S := S) (S' := S) y (nth y.tasks k) _ _ _ (rel_Yard HF.out (H1.out.ext (X.out.trans X5.out)) (H2.out.ext (X.out.trans X5.out)) (H3.out.ext (X.out.trans X5.out)) (H4.out.ext (X.out.trans X5.out)) (H5.out.ext (X.out.trans X5.out)) (H6.out.ext (X.out.trans X5.out))) (rel_Task HFT.out (HRT.out.ext (X.out.trans X5.out))) HNL.out T6.out HTR.out _ T.out).mono ?_); rintro e w8 ⟨rfl, hx8⟩; have X8 := Lib.hid hx8; clear hx8 qa qt)
                    go_ret
                    exact ⟨ret_bool HN.out.symm, X.out.trans (X5.out.trans X8.out)⟩
                  | true =>
                    go_upto_region 9 with (go_at_call 149; (with_reducible refine (taskFits_is (S := S) (S' := S) y (nth y.tasks k) _ _ _ (rel_Yard HF.out (H1.out.ext (X.out.trans X5.out)) (H2.out.ext (X.out.trans X5.out)) (H3.out.ext (X.out.trans X5.out)) (H4.out.ext (X.out.trans X5.out)) (H5.out.ext (X.out.trans X5.out)) (H6.out.ext (X.out.trans X5.out))) (rel_Task HFT.out (HRT.out.ext (X.out.trans X5.out))) HNL.out T6.out HTR.out _ T.out).mono ?_); rintro e w8 ⟨rfl, hx8⟩; have X8 := Lib.hid hx8; clear hx8 qa qt)
                    replace Q5 := Lib.hid (Q5.out.ext X8.out)
                    replace QB := Lib.hid (QB.out.ext X8.out)
                    replace K5 := Lib.hid (K5.out.trans (Kept.of_ext (F := [B3]) X8.out))
                    replace X5 := Lib.hid (X5.out.trans X8.out)
                    have qt : w8.cell? ⟨B5, 13, none⟩ = some (.slice AT (nth y.tasks k).nodes.length cT) := Q5.out.cell 13
                    go_wp2_with fail
                    clear qt
                    go_loopw [62] (fun i w' => ∃ j : Nat, j ≤ (nth y.tasks k).nodes.length ∧ i = .int .i64 j ∧ (∀ m, m < j → clashAt y.tasks k m = false) ∧ Blk w' B3 171 (boolsN (takenAt y.tasks k j)) ∧ Kept [B3] w8 w' ∧ Ext w7 w') (fun i _ => (nth y.tasks k).nodes.length - (intOf i).toNat)
                    case atStart => exact ⟨0, by omega, rfl, fun j hj => by omega, by rw [taken_start]; exact QB.out, Kept.refl _ _, X5.out⟩
                    case round =>
                      obtain ⟨j, hj1, rfl, hclash, hbj, hkj, hxj⟩ := hrel
                      have HC := Lib.hid hclash
                      have HBJ := Lib.hid hbj
                      have HKJ := Lib.hid hkj
                      have HXJ := Lib.hid hxj
                      have Q5J : Hid (Blk wr B5 87 _) := Lib.hid ((hkj.block B5 Q5.out.lt HB5.out).trans Q5.out)
                      clear hclash hbj hkj
                      by_cases hjt : j < (nth y.tasks k).nodes.length
                      · obtain ⟨b', o', cs', rfl, _, ⟨rfl, hfn⟩, hc'⟩ := HTK.out j hjt
                        have z0 := Ext.some (X.out.trans hxj) (hc' 0 _ rfl)
                        simp only [EInt, Nat.mul_one, Nat.add_zero] at z0
                        have s9 : wr.cell? ⟨B5, 11, none⟩ = some (.int .i64 (nth y.tasks k).state) := Q5J.out.cell 11
                        obtain ⟨p0, p5⟩ := node_bounds HTR.out hjt
                        have hge : (nth (nth y.tasks k).nodes j) < 6 := by omega
                        have tk := HBJ.out.cell (nth (nth y.tasks k).nodes j).toNat
                        rw [bools_get p0 p5] at tk
                        have fz := HBJ.out.frozen (nth (nth y.tasks k).nodes j).toNat
                        have P0 := Lib.hid p0
                        have P5 := Lib.hid p5
                        have HSET := Lib.hid (HBJ.out.set_ (nth (nth y.tasks k).nodes j).toNat)
                        have HJ := Lib.hid hjt
                        clear hc' hfn hxj p5
                        obtain ⟨u, hu⟩ : ∃ u, takenAt y.tasks k j (nth (nth y.tasks k).nodes j) = u := ⟨_, rfl⟩
                        rw [hu] at tk
                        have U := Lib.hid hu
                        clear hu
                        by_cases hs : (nth y.tasks k).state = 2
                        · have HR : Hid (runsB (nth y.tasks k) = true) := Lib.hid (by simp [runsB, hs])
                          cases u with
                          | true =>
                            have HN := Lib.hid (yard_task hlt (task_clash hjt (by rw [clashAt, HR.out, U.out]; rfl)))
                            go_wp2_with fail
                            go_ret
                            exact ⟨ret_bool HN.out.symm, X.out.trans HXJ.out⟩
                          | false =>
                            have HG := Lib.hid (all_succ (p := fun m => clashAt y.tasks k m = false) HC.out (by rw [clashAt, HR.out, U.out]; rfl))
                            go_wp2_with fail
                            go_roundw
                            case rel => exact ⟨j + 1, by omega, by go_num, HG.out, by rw [← taken_runs HJ.out HR.out P0.out P5.out]; exact HSET.out _, HKJ.out.setCell (List.mem_cons_self ..) _, HXJ.out.setCell HB3.out _⟩
                            case measure => simp [intOf]; omega
                        · have HR : Hid (runsB (nth y.tasks k) = false) := Lib.hid (by simp [runsB, hs])
                          have hsb : ((nth y.tasks k).state == 2) = false := by simp [hs]
                          have HG := Lib.hid (all_succ (p := fun m => clashAt y.tasks k m = false) HC.out (by rw [clashAt, HR.out]; rfl))
                          cases u with
                          | true =>
                            go_wp2_with fail
                            go_roundw
                            case rel => exact ⟨j + 1, by omega, by go_num, HG.out, by rw [taken_rests HJ.out HR.out, ← bools_same P0.out P5.out U.out]; exact HSET.out _, HKJ.out.setCell (List.mem_cons_self ..) _, HXJ.out.setCell HB3.out _⟩
                            case measure => simp [intOf]; omega
                          | false =>
                            go_wp2_with fail
                            go_roundw
                            case rel => exact ⟨j + 1, by omega, by go_num, HG.out, by rw [taken_rests HJ.out HR.out, ← bools_same P0.out P5.out U.out]; exact HSET.out _, HKJ.out.setCell (List.mem_cons_self ..) _, HXJ.out.setCell HB3.out _⟩
                            case measure => simp [intOf]; omega
                      · obtain rfl : j = (nth y.tasks k).nodes.length := by omega
                        have HG := Lib.hid (all_succ (p := fun m => taskOkY y m = true) HA.out (task_ok T.out (fun m hm => HC.out m hm)))
                        clear hxj
                        go_wp2_with fail
                        go_roundw
                        case rel => exact ⟨k + 1, by omega, by go_num, HG.out, by rw [← taken_end hlt]; exact HBJ.out, K5.out.trans HKJ.out, HXJ.out⟩
                        case measure => simp [intOf]; omega
                · have HG : Hid (∀ i, i < y.tasks.length → taskOkY y i = true) := Lib.hid (fun j hj => HA.out j (by omega))
                  have qa := (QA.out.ext hx).cell
                  clear hx
                  replace QA := Lib.hid (QA.out.ext HX.out)
                  replace X := Lib.hid (X.out.trans HX.out)
                  go_upto_region 18 with (go_at_call 150; (with_reducible refine (labels_any (S := S) y.config [.slice A1 y.config.nodes.length c1, .slice A2 y.config.pairs.length c2, .slice A3 y.config.quotas.length c3, .int .i64 y.config.half] _ (rel_Config HFC.out (H1.out.ext X.out) (H2.out.ext X.out) (H3.out.ext X.out)) HCL.out).mono ?_); rintro e w9 ⟨v9, F9, rfl, o9, -, hx9⟩; obtain ⟨A9, c9, rfl, -⟩ := o9.form; have O9 := Lib.hid o9.rd; have H9 := Lib.hid hx9; clear hx9 o9 qa)
                  obtain ⟨W8, B8, hW8, hB8, hx8, b8⟩ : ∃ W B, W = w9.alloc (.cells #[.slice A9 (labelsIn y.config.nodes).length c9] 167) ∧ B = w9.heap.size ∧ Ext w9 W ∧ Blk W B 167 #[.slice A9 (labelsIn y.config.nodes).length c9] := ⟨_, _, rfl, rfl, (Ext.refl w9).alloc _, Blk.new _ _ _⟩
                  rw [← hW8, ← hB8]
                  replace X := Lib.hid ((X.out.trans H9.out).trans hx8)
                  replace QA := Lib.hid (QA.out.ext (H9.out.trans hx8))
                  have Q8 := Lib.hid b8
                  replace O9 := Lib.hid (O9.out.ext hx8)
                  clear hW8 hB8 hx8 b8
                  have q8 := Q8.out.cell 0
                  simp only [List.getElem?_toArray, List.getElem?_cons_zero] at q8
                  obtain ⟨u, hu⟩ : ∃ u, (labelsIn y.config.nodes).any (overY y) = u := ⟨_, rfl⟩
                  have U := Lib.hid hu
                  clear hu
                  cases u with
                  | true =>
                    have HN := Lib.hid (yard_over U.out)
                    go_wp2_with (go_at_call 151; (with_reducible refine (containsFunc_Label_1 (S := fun b => b ∈ F9) (labelsIn y.config.nodes) (overY y) _ _ _ _ O9.out call_yard1 (fun cs a V hx hr => yard1_any (S := fun b => b ∈ F9) (S' := S) y a cs _ B V hr (rel_Yard HF.out (H1.out.ext (X.out.trans hx)) (H2.out.ext (X.out.trans hx)) (H3.out.ext (X.out.trans hx)) (H4.out.ext (X.out.trans hx)) (H5.out.ext (X.out.trans hx)) (H6.out.ext (X.out.trans hx))) (QA.out.ext hx) HLT.out)).mono ?_); rintro e w10 ⟨rfl, hx10⟩; rw [U.out]; have X10 := Lib.hid (X.out.trans hx10); have E10 := Lib.hid hx10; clear hx10 q8)
                    go_ret
                    exact ⟨ret_bool HN.out.symm, X10.out⟩
                  | false =>
                    obtain ⟨z, hz⟩ : ∃ z, y.uses.any (useBad (labelsIn y.config.nodes)) = z := ⟨_, rfl⟩
                    have Z := Lib.hid hz
                    have HN := Lib.hid (yard_all HH.out HG.out U.out hz)
                    clear hz
                    go_upto_region 20 with (go_at_call 151; (with_reducible refine (containsFunc_Label_1 (S := fun b => b ∈ F9) (labelsIn y.config.nodes) (overY y) _ _ _ _ O9.out call_yard1 (fun cs a V hx hr => yard1_any (S := fun b => b ∈ F9) (S' := S) y a cs _ B V hr (rel_Yard HF.out (H1.out.ext (X.out.trans hx)) (H2.out.ext (X.out.trans hx)) (H3.out.ext (X.out.trans hx)) (H4.out.ext (X.out.trans hx)) (H5.out.ext (X.out.trans hx)) (H6.out.ext (X.out.trans hx))) (QA.out.ext hx) HLT.out)).mono ?_); rintro e w10 ⟨rfl, hx10⟩; rw [U.out]; have X10 := Lib.hid (X.out.trans hx10); have E10 := Lib.hid hx10; clear hx10 q8)
                    have q3 : w10.cell? ⟨B, 6, none⟩ = some (.slice A6 y.uses.length c6) := (QA.out.ext E10.out).cell 6
                    replace Q8 := Lib.hid (Q8.out.ext E10.out)
                    replace O9 := Lib.hid (O9.out.ext E10.out)
                    go_wp2_with (go_at_call 153; (with_reducible refine (containsFunc_Use_1 (S := S) y.uses (useBad (labelsIn y.config.nodes)) _ _ _ _ (H6.out.ext X10.out) call_yard2 (fun cs x V hx hr => yard2_any (S := S) (S' := fun b => b ∈ F9) (labelsIn y.config.nodes) x cs _ B8 V hr (O9.out.ext hx) (Q8.out.ext hx))).mono ?_); rintro e w11 ⟨rfl, hx11⟩; rw [Z.out]; have X11 := Lib.hid (X10.out.trans hx11); clear hx11 q3)
                    go_ret
                    exact ⟨ret_bool HN.out.symm, X11.out⟩
theorem yardRight_is {S : Nat → Prop} (y : Yard) (cs : List Value) (w : World) (h : EYard.rel S w cs y) (r : Bool) (hr : yardRight y = r) :
    Calls Tryz.prog 76 #[.agg cs.toArray] w fun e w' => e = .returned (.bool r) ∧ Ext w w' := by
  subst hr
  exact yardRight_any y cs w h
end Go.Proofs.YtngldifgcgblpaaGreat
namespace Go.Proofs.YtngldifgcgblpaaGreat
open Go.RowKit
attribute [local irreducible] wpQuiet
theorem specNodesRight_is {S : Nat → Prop} (l : List Node) (v : Value) (w : World) (h : Rd ENode S w v l) (r : Bool) (hr : nodesRight l = r) :
    Calls Tryz.prog 163 #[v] w fun e w' => e = .returned (.bool r) ∧ Ext w w' := by
  subst hr
  exact specNodesRight_any l v w h
theorem specTasksRight_is {S : Nat → Prop} (l : List Task) (v : Value) (w : World) (h : Rd ETask S w v l) (r : Bool) (hr : tasksRight l = r) :
    Calls Tryz.prog 122 #[v] w fun e w' => e = .returned (.bool r) ∧ Ext w w' := by
  subst hr
  exact specTasksRight_any l v w h
theorem specUsesRight_is {S : Nat → Prop} (l : List Use) (v : Value) (w : World) (h : Rd EUse S w v l) (r : Bool) (hr : usesRight l = r) :
    Calls Tryz.prog 164 #[v] w fun e w' => e = .returned (.bool r) ∧ Ext w w' := by
  subst hr
  exact specUsesRight_any l v w h
theorem l03NowY_is (n : Int) (w : World) (r : Bool) (hr : nowOk n = r) : Calls Tryz.prog 161 #[.int .i64 n] w fun e w' => e = .returned (.bool r) ∧ w = w' := by
  subst hr
  exact l03Now_any n w
theorem l13End_any {S : Nat → Prop} (x : Task) (cs : List Value) (w : World) (h : ETask.rel S w cs x) (s0 : 0 ≤ x.start) (s1 : x.start ≤ 1000000) (l0 : 1 ≤ x.long) (l1 : x.long ≤ 20) :
    Calls Tryz.prog 254 #[.agg cs.toArray] w fun e w' => e = .returned (.int .i64 (endOf x)) ∧ Ext w w' := by
  obtain ⟨v1, rfl, hf, h1⟩ := h
  obtain ⟨A1, c1, rfl, -⟩ := h1.form
  clear hf h1
  simp only [cellsTask]
  have i1 : IntKind.i64.wrap (x.start + 1) = x.start + 1 := IntWalk.i64_in _ (by omega)
  have i2 : IntKind.i64.wrap (x.start + 1 + x.long) = x.start + 1 + x.long := IntWalk.i64_in _ (by omega)
  go_enter Tryz.func254, Tryz.ntmps254
  go_wp2_with fail
  go_ret
  exact ⟨ret_int (by unfold endOf; first | rfl | (rw [i1, i2]) | omega), (Ext.refl _).alloc _⟩
def labelsOf (x : Config) : List Label := if configRight x = true then labelsIn x.nodes else []
theorem quota_labels (x : Config) (a : Label) : quotaOf x a = if cleared (labelsOf x) a = true then quotaIn x.quotas a else 0 := by
  unfold quotaOf labelsOf
  by_cases h : configRight x = true
  · rw [if_pos h]
    by_cases g : cleared (labelsIn x.nodes) a = true
    · rw [if_pos ⟨h, g⟩, if_pos g]
    · rw [if_neg (fun k => g k.2), if_neg g]
  · rw [if_neg h, if_neg (fun k => h k.1), if_neg (by simp [cleared])]
set_option maxHeartbeats 8000000 in
set_option maxRecDepth 100000 in
theorem specLabelsOf_any {S : Nat → Prop} (x : Config) (cs : List Value) (w : World) (h : EConfig.rel S w cs x) (ls : List Label) (hl : labelsOf x = ls) :
    Calls Tryz.prog 201 #[.agg cs.toArray] w (RetO OLabel 49 ls w) := by
  obtain ⟨v1, v2, v3, rfl, hf, h1, h2, h3⟩ := h
  obtain ⟨A1, c1, rfl, -⟩ := h1.form
  obtain ⟨A2, c2, rfl, -⟩ := h2.form
  obtain ⟨A3, c3, rfl, -⟩ := h3.form
  have HF := Lib.hid hf
  have H1 := Lib.hid h1
  have H2 := Lib.hid h2
  have H3 := Lib.hid h3
  have HL := Lib.hid hl
  clear hf h1 h2 h3 hl
  simp only [cellsConfig]
  obtain ⟨t, ht⟩ : ∃ t, configRight x = t := ⟨_, rfl⟩
  have T := Lib.hid ht
  clear ht
  go_enter Tryz.func201, Tryz.ntmps201
  go_upto_region 1 with (fail)
  obtain ⟨W, B, hW, hB, hx0, a0⟩ : ∃ W B, W = w.alloc (.cells #[.slice A1 x.nodes.length c1, .slice A2 x.pairs.length c2, .slice A3 x.quotas.length c3, .int .i64 x.half] 39) ∧ B = w.heap.size ∧ Ext w W ∧ Blk W B 39 #[.slice A1 x.nodes.length c1, .slice A2 x.pairs.length c2, .slice A3 x.quotas.length c3, .int .i64 x.half] := ⟨_, _, rfl, rfl, (Ext.refl w).alloc _, Blk.new _ _ _⟩
  rw [← hW, ← hB]
  have QA := Lib.hid a0
  have X := Lib.hid hx0
  clear hW hB hx0 a0
  have q0 := QA.out.cell
  cases t with
  | false =>
    have HE : Hid (ls = []) := Lib.hid (by rw [← HL.out, labelsOf, T.out]; rfl)
    go_upto_region 2 with (go_at_call 162; (with_reducible refine (specConfigRight_is (S := S) x [.slice A1 x.nodes.length c1, .slice A2 x.pairs.length c2, .slice A3 x.quotas.length c3, .int .i64 x.half] _ (rel_Config HF.out (H1.out.ext X.out) (H2.out.ext X.out) (H3.out.ext X.out)) _ T.out).mono ?_); rintro e w7 ⟨rfl, hx7⟩; have X7 := Lib.hid (X.out.trans hx7); clear hx7 q0)
    go_wp2_with fail
    go_ret
    exact ⟨_, [w7.heap.size], rfl, by rw [HE.out]; exact own_new (Blk.new _ _ _), fun b hb => by rw [List.mem_singleton.1 hb]; exact X7.out.size, X7.out.alloc _⟩
  | true =>
    have HE : Hid (labelsIn x.nodes = ls) := Lib.hid (by rw [← HL.out, labelsOf, if_pos T.out])
    go_wp2_with (first
      | (go_at_call 162; (with_reducible refine (specConfigRight_is (S := S) x [.slice A1 x.nodes.length c1, .slice A2 x.pairs.length c2, .slice A3 x.quotas.length c3, .int .i64 x.half] _ (rel_Config HF.out (H1.out.ext X.out) (H2.out.ext X.out) (H3.out.ext X.out)) _ T.out).mono ?_); rintro e w7 ⟨rfl, hx7⟩; have X7 := Lib.hid (X.out.trans hx7); have QA7 := Lib.hid (QA.out.ext hx7); clear hx7 q0; have q0 := QA7.out.cell 0)
      | (go_at_call 166; (with_reducible refine (l09Labels_any (S := S) x.nodes _ _ (H1.out.ext X7.out)).mono ?_); rintro e w8 ⟨v8, F8, rfl, o8, g8, hx8⟩; rw [HE.out] at o8; have O8 := Lib.hid o8; have G8 := Lib.hid g8; have X8 := Lib.hid (X7.out.trans hx8); clear hx8 o8 g8 q0))
    go_ret
    exact ⟨_, F8, rfl, O8.out, fun b hb => Nat.le_trans X7.out.size (G8.out b hb), X8.out⟩
set_option maxHeartbeats 8000000 in
set_option maxRecDepth 100000 in
theorem specQuotaOf_any {S : Nat → Prop} (x : Config) (cs : List Value) (a : Label) (w : World) (h : EConfig.rel S w cs x) :
    Calls Tryz.prog 107 #[.agg cs.toArray, .agg #[.int .i64 a.level, .int .i64 a.set]] w fun e w' => e = .returned (.int .i64 (quotaOf x a)) ∧ Ext w w' := by
  obtain ⟨v1, v2, v3, rfl, hf, h1, h2, h3⟩ := h
  obtain ⟨A1, c1, rfl, -⟩ := h1.form
  obtain ⟨A2, c2, rfl, -⟩ := h2.form
  have H3 := Lib.hid h3
  obtain ⟨A3, c3, rfl, l1, l2, hk⟩ := h3.open_
  unfold maxLen at l2
  have HF := Lib.hid hf
  have H1 := Lib.hid h1
  have H2 := Lib.hid h2
  have HK := Lib.hid hk
  clear hf h1 h2 h3 hk
  simp only [cellsConfig]
  have HQL := Lib.hid (quota_labels x a)
  obtain ⟨ls, hls⟩ : ∃ ls, labelsOf x = ls := ⟨_, rfl⟩
  have HLS := Lib.hid hls
  obtain ⟨t, ht⟩ : ∃ t, cleared ls a = t := ⟨_, rfl⟩
  have T := Lib.hid ht
  rw [hls, ht] at HQL
  clear ht hls
  go_enter Tryz.func107, Tryz.ntmps107
  go_upto_region 1 with (fail)
  obtain ⟨W, B, hW, hB, hx0, a0, b0⟩ := boxes2 w #[.slice A1 x.nodes.length c1, .slice A2 x.pairs.length c2, .slice A3 x.quotas.length c3, .int .i64 x.half] #[.int .i64 a.level, .int .i64 a.set] 39 49
  rw [← hW, ← hB]
  have QA := Lib.hid a0
  have QB := Lib.hid b0
  have X := Lib.hid hx0
  clear hW hB hx0 a0 b0
  have al_a : ∀ V, Ext W V → ∀ i, V.cell? ⟨B, i, none⟩ = _ := fun V hx => (QA.out.ext hx).cell
  have al_b : ∀ V, Ext W V → ∀ i, V.cell? ⟨B + 1, i, none⟩ = _ := fun V hx => (QB.out.ext hx).cell
  go_region_held3 (fun V => Ext W V) (first | exact Ext.refl _ | exact (Ext.refl _).drew | assumption | exact Ext.trans (by assumption) hx7 | exact Ext.trans (by assumption) hx8) (first
    | (go_at_call 201; (with_reducible refine (specLabelsOf_any (S := S) x [.slice A1 x.nodes.length c1, .slice A2 x.pairs.length c2, .slice A3 x.quotas.length c3, .int .i64 x.half] _ (rel_Config HF.out (H1.out.ext (X.out.trans (by assumption))) (H2.out.ext (X.out.trans (by assumption))) (H3.out.ext (X.out.trans (by assumption)))) ls HLS.out).mono ?_); rintro e w7 ⟨v7, F7, rfl, o7, -, hx7⟩; obtain ⟨A7, c7, rfl, -⟩ := OwS.form o7; have O7 := Lib.hid (OwS.rd o7); clear o7)
    | (go_at_call 143; (with_reducible refine (l05Cleared_is (S := fun b => b ∈ F7) ls a _ _ (by first | exact O7.out | exact O7.out.ext (by assumption) | exact O7.out.ext (Ext.refl _).drew) _ T.out).mono ?_); rintro e w8 ⟨rfl, hx8⟩))
  all_goals clear al_a al_b
  have X8 : Hid (Ext W w8) := Lib.hid (by first | assumption | exact Ext.trans (by assumption) hx8 | exact Ext.drew (by assumption))
  cases t with
  | false =>
    go_wp2_with fail
    go_ret
    exact ⟨ret_int (by rw [HQL.out]; rfl), X.out.trans X8.out⟩
  | true =>
    have HE : Hid (quotaOf x a = quotaIn x.quotas a) := Lib.hid (by rw [HQL.out, if_pos rfl])
    go_wp2_with fail
    go_loopw [5] (fun i w' => ∃ k : Nat, k ≤ x.quotas.length ∧ i = .int .i64 k ∧ (∀ j, j < k → (nth x.quotas j).label ≠ a) ∧ Ext W w') (fun i _ => x.quotas.length - (intOf i).toNat)
    case atStart => exact ⟨0, by omega, rfl, fun j hj => by omega, X8.out⟩
    case round =>
      obtain ⟨k, hk1, rfl, hall, hx⟩ := hrel
      have HA := Lib.hid hall
      have HX := Lib.hid hx
      have qa : wr.cell? ⟨B, 2, none⟩ = some (.slice A3 x.quotas.length c3) := (QA.out.ext hx).cell 2
      clear hall
      by_cases hlt : k < x.quotas.length
      · obtain ⟨b, o, cs, rfl, _, ⟨rfl, hfit⟩, hc⟩ := HK.out k hlt
        have hxw := X.out.trans hx
        have z0 := Ext.some hxw (hc 0 _ rfl)
        have z1 := Ext.some hxw (hc 1 _ rfl)
        have z2 := Ext.some hxw (hc 2 _ rfl)
        simp only [EQuota, Nat.add_zero] at z0 z1 z2
        have d0 : wr.cell? ⟨B + 1, 0, none⟩ = some (.int .i64 a.level) := (QB.out.ext hx).cell 0
        have d1 : wr.cell? ⟨B + 1, 1, none⟩ = some (.int .i64 a.set) := (QB.out.ext hx).cell 1
        clear hc hfit hx hxw
        by_cases he : (nth x.quotas k).label = a
        · have HQ := Lib.hid (quotaIn_at hlt he HA.out)
          have g0 : (nth x.quotas k).label.level = a.level := by rw [he]
          have g1 : (nth x.quotas k).label.set = a.set := by rw [he]
          clear he
          go_wp2_with fail
          refine wp_region_ext (by kernel_rfl) (by kernel_rfl) ?_
          repeat (
            (refine wpQuiet_step (fun K hK => ?_)
             go_simp
             first
              | (refine hK _ ?_; clear hK K)
              | (apply Exists.intro
                 refine ⟨fun w__ hx__ => ?_, hK _ ?_⟩
                 · have qa__ := Ext.some hx__ qa; have z0__ := Ext.some hx__ z0; have z1__ := Ext.some hx__ z1; have d0__ := Ext.some hx__ d0; have d1__ := Ext.some hx__ d1; first | exact rfl | (go_simp; done) | (go_simp; exact rfl)
                 clear hK K)))
          refine wpQuiet_nil ?_
          intro w1 hx1
          have HZ := Lib.hid hx1
          replace qa := Ext.some hx1 qa
          replace z2 := Ext.some hx1 z2
          clear z0 z1 d0 d1 hx1
          go_wp2_with fail
          go_ret
          exact ⟨ret_int (by rw [HE.out, HQ.out]), X.out.trans (HX.out.trans HZ.out)⟩
        · have HG := Lib.hid (all_succ (p := fun j => (nth x.quotas j).label ≠ a) HA.out he)
          rcases label_ne he with g | g
          all_goals
            clear he
            have ite__ := @ite_ok
            go_wp2_with fail
            refine wp_region_ext (by kernel_rfl) (by kernel_rfl) ?_
            repeat (
              (refine wpQuiet_step (fun K hK => ?_)
               go_simp
               first
                | (refine hK _ ?_; clear hK K)
                | (apply Exists.intro
                   refine ⟨fun w__ hx__ => ?_, hK _ ?_⟩
                   · have qa__ := Ext.some hx__ qa; have z0__ := Ext.some hx__ z0; have z1__ := Ext.some hx__ z1; have d0__ := Ext.some hx__ d0; have d1__ := Ext.some hx__ d1; first | exact rfl | (go_simp; done) | (go_simp; exact rfl)
                   clear hK K)))
            refine wpQuiet_nil ?_
            intro w1 hx1
            have HZ := Lib.hid hx1
            clear qa z0 z1 z2 d0 d1 hx1 ite__
            go_wp2_with fail
            go_roundw
            case rel => exact ⟨k + 1, by omega, by go_num, HG.out, HX.out.trans HZ.out⟩
            case measure => simp [intOf]; omega
      · have HQ := Lib.hid (quotaIn_none (qs := x.quotas) (a := a) fun j hj => HA.out j (by omega))
        clear hx
        go_wp2_with fail
        go_ret
        exact ⟨ret_int (by rw [HE.out, HQ.out]), X.out.trans HX.out⟩
set_option maxHeartbeats 8000000 in
set_option maxRecDepth 100000 in
theorem l13Clear_any {S : Nat → Prop} (x : Config) (cs : List Value) (a : Label) (w : World) (h : EConfig.rel S w cs x) :
    Calls Tryz.prog 74 #[.agg cs.toArray, .agg #[.int .i64 a.level, .int .i64 a.set]] w fun e w' => e = .returned (.int .i64 (manyOf x.nodes a)) ∧ Ext w w' := by
  obtain ⟨v1, v2, v3, rfl, hf, h1, h2, h3⟩ := h
  obtain ⟨A1, c1, rfl, l1, l2, hk⟩ := h1.open_
  unfold maxLen at l2
  obtain ⟨A2, c2, rfl, -⟩ := h2.form
  obtain ⟨A3, c3, rfl, -⟩ := h3.form
  have HK := Lib.hid hk
  clear hf h1 h2 h3 hk
  simp only [cellsConfig]
  go_enter Tryz.func74, Tryz.ntmps74
  go_upto_region 1 with (fail)
  obtain ⟨W, B, hW, hB, hx0, a0, b0⟩ := boxes2 w #[.slice A1 x.nodes.length c1, .slice A2 x.pairs.length c2, .slice A3 x.quotas.length c3, .int .i64 x.half] #[.int .i64 a.level, .int .i64 a.set] 39 49
  rw [← hW, ← hB]
  have QA := Lib.hid a0
  have QB := Lib.hid b0
  have X := Lib.hid hx0
  clear hW hB hx0 a0 b0
  go_wp2_with fail
  go_loopw [5, 6] (fun n i w' => ∃ k : Nat, k ≤ x.nodes.length ∧ i = .int .i64 k ∧ n = .int .i64 ((clearOf x.nodes a k).length) ∧ Ext W w') (fun _ i _ => x.nodes.length - (intOf i).toNat)
  case atStart => exact ⟨0, by omega, rfl, rfl, Ext.refl _⟩
  case round =>
    obtain ⟨k, hk1, rfl, rfl, hx⟩ := hrel
    have HX := Lib.hid hx
    have qa : wr.cell? ⟨B, 0, none⟩ = some (.slice A1 x.nodes.length c1) := (QA.out.ext hx).cell 0
    by_cases hlt : k < x.nodes.length
    · obtain ⟨b, o, cs, rfl, _, ⟨vr, rfl, hr⟩, hc⟩ := HK.out k hlt
      have hxw := X.out.trans hx
      have z0 := Ext.some hxw (hc 0 _ rfl)
      simp only [ERow, Nat.mul_one, Nat.add_zero] at z0
      have HR := Lib.hid (hr.ext hxw)
      have d0 : wr.cell? ⟨B + 1, 0, none⟩ = some (.int .i64 a.level) := (QB.out.ext hx).cell 0
      have d1 : wr.cell? ⟨B + 1, 1, none⟩ = some (.int .i64 a.set) := (QB.out.ext hx).cell 1
      have HE := Lib.hid (many_succ x.nodes a k)
      have hle := clearOf_length x.nodes a k
      obtain ⟨t, ht⟩ : ∃ t, cleared (nth x.nodes k) a = t := ⟨_, rfl⟩
      have T := Lib.hid ht
      clear hc hr hx hxw ht
      generalize hn : (clearOf x.nodes a k).length = n at *
      have HN := Lib.hid hn
      clear hn
      go_wp2_with fail
      refine wp_region_ext (by kernel_rfl) (by kernel_rfl) ?_
      repeat (
        (refine wpQuiet_step (fun K hK => ?_)
         go_simp
         first
          | (refine hK _ ?_; clear hK K)
          | (apply Exists.intro
             refine ⟨fun w__ hx__ => ?_, hK _ ?_⟩
             · have qa__ := Ext.some hx__ qa; have z0__ := Ext.some hx__ z0; have d0__ := Ext.some hx__ d0; have d1__ := Ext.some hx__ d1; first | exact rfl | (go_simp; done) | (go_simp; exact rfl) | (go_at_call 143; exact ext_of hx__ (l05Cleared_is (S := S) (nth x.nodes k) a _ _ (HR.out.ext hx__) _ T.out))
             clear hK K)))
      refine wpQuiet_nil ?_
      intro w1 hx1
      have HZ := Lib.hid hx1
      clear qa z0 d0 d1 hx1
      cases t with
      | false =>
        go_wp2_with fail
        go_roundw
        case rel => exact ⟨k + 1, by omega, by go_num, by rw [HE.out, T.out, if_neg (by simp)]; rfl, HX.out.trans HZ.out⟩
        case measure => simp [intOf]; omega
      | true =>
        go_wp2_with fail
        go_roundw
        case rel => exact ⟨k + 1, by omega, by go_num, by rw [HE.out, T.out, if_pos rfl]; go_num, HX.out.trans HZ.out⟩
        case measure => simp [intOf]; omega
    · obtain rfl : k = x.nodes.length := by omega
      clear hx
      go_wp2_with fail
      go_ret
      exact ⟨rfl, X.out.trans HX.out⟩
end Go.Proofs.YtngldifgcgblpaaGreat
namespace Go.Proofs.YtngldifgcgblpaaGreat
open Go.RowKit
attribute [local irreducible] wpQuiet
theorem l13Clear_is {S : Nat → Prop} (x : Config) (cs : List Value) (a : Label) (w : World) (h : EConfig.rel S w cs x) (n : Nat) (hn : manyOf x.nodes a = n) :
    Calls Tryz.prog 74 #[.agg cs.toArray, .agg #[.int .i64 a.level, .int .i64 a.set]] w fun e w' => e = .returned (.int .i64 n) ∧ Ext w w' := by
  subst hn
  exact l13Clear_any x cs a w h
theorem node_far {ns : List (List Label)} {a : Label} {n : Int} (h : (ns.length : Int) ≤ n) : nodeIn ns a n = false := by
  unfold nodeIn
  rw [decide_eq_false (p := n.toNat < ns.length) (by omega), Bool.and_false, Bool.false_and]
theorem node_at {ns : List (List Label)} {a : Label} {n : Int} {t : Bool} (h0 : 0 ≤ n) (h : n.toNat < ns.length) (ht : cleared (nth ns n.toNat) a = t) : nodeIn ns a n = t := by
  unfold nodeIn
  rw [decide_eq_true h0, decide_eq_true h, ht]; rfl
theorem all_false_at {α : Type} [Inhabited α] {p : α → Bool} {l : List α} {k : Nat} (hk : k < l.length) (h : p (nth l k) = false) : l.all p = false :=
  List.all_eq_false.2 ⟨nth l k, nth_mem hk, by simp [h]⟩
theorem all_true_of {α : Type} [Inhabited α] {p : α → Bool} {l : List α} (h : ∀ k, k < l.length → p (nth l k) = true) : l.all p = true := by
  refine List.all_eq_true.2 fun x hx => ?_
  obtain ⟨i, hi, rfl⟩ := List.getElem_of_mem hx
  rw [← nth_eq hi]; exact h i hi
theorem any_at {α : Type} [Inhabited α] {p : α → Bool} {l : List α} {k : Nat} (hk : k < l.length) (h : p (nth l k) = true) : l.any p = true :=
  List.any_eq_true.2 ⟨nth l k, nth_mem hk, h⟩
theorem any_none {α : Type} [Inhabited α] {p : α → Bool} {l : List α} (h : ∀ k, k < l.length → p (nth l k) = false) : l.any p = false := by
  refine List.any_eq_false.2 fun x hx => ?_
  obtain ⟨i, hi, rfl⟩ := List.getElem_of_mem hx
  rw [← nth_eq hi, h i hi]; simp
set_option maxHeartbeats 8000000 in
set_option maxRecDepth 100000 in
theorem l13Task_any {S S' : Nat → Prop} (y : Yard) (x : Task) (cs ds : List Value) (w : World) (h : EYard.rel S w cs y) (g : ETask.rel S' w ds x) (hn : y.nodes.length = y.config.nodes.length) (hw : nowOk y.now = true) (ht : taskRight x = true) :
    Calls Tryz.prog 165 #[.agg cs.toArray, .agg ds.toArray] w fun e w' => e = .returned (.bool (fitsY y.config.nodes y.now x)) ∧ Ext w w' := by
  obtain ⟨v1, v2, v3, v4, v5, v6, rfl, hf, h1, h2, h3, h4, h5, h6⟩ := h
  have H1 := Lib.hid h1
  obtain ⟨A1, c1, rfl, l1, m1, hk1⟩ := h1.open_
  unfold maxLen at m1
  obtain ⟨A2, c2, rfl, -⟩ := h2.form
  obtain ⟨A3, c3, rfl, -⟩ := h3.form
  obtain ⟨A4, c4, rfl, l4, m4⟩ := h4.form
  unfold maxLen at m4
  obtain ⟨A5, c5, rfl, -⟩ := h5.form
  obtain ⟨A6, c6, rfl, -⟩ := h6.form
  obtain ⟨u1, rfl, gf, g1⟩ := g
  have G1 := Lib.hid g1
  obtain ⟨AT, cT, rfl, lT, mT, gk⟩ := g1.open_
  unfold maxLen at mT
  have HFC : Hid (FitConfig y.config) := Lib.hid hf.1
  have GF := Lib.hid gf
  have H2 := Lib.hid h2
  have H3 := Lib.hid h3
  have HK1 := Lib.hid hk1
  have GK := Lib.hid gk
  have HNL := Lib.hid hn
  have HT := Lib.hid ht
  obtain ⟨n0, n1⟩ := now_bounds hw
  have N0 := Lib.hid n0
  have N1 := Lib.hid n1
  clear hf gf h1 h2 h3 h4 h5 h6 g1 hk1 gk hn ht hw n0 n1
  obtain ⟨n, hn⟩ : ∃ n, manyOf y.config.nodes x.label = n := ⟨_, rfl⟩
  have HN := Lib.hid hn
  have HM : Hid ((manyOf y.config.nodes x.label : Int) = (n : Int)) := Lib.hid (by rw [hn])
  clear hn
  simp only [cellsYard, cellsTask]
  go_enter Tryz.func165, Tryz.ntmps165
  go_upto_region 1 with (fail)
  obtain ⟨W, B, hW, hB, hx0, a0, b0⟩ := boxes2 w #[.slice A1 y.config.nodes.length c1, .slice A2 y.config.pairs.length c2, .slice A3 y.config.quotas.length c3, .int .i64 y.config.half, .slice A4 y.nodes.length c4, .slice A5 y.tasks.length c5, .slice A6 y.uses.length c6, .int .i64 y.now] #[.int .i64 x.label.level, .int .i64 x.label.set, .int .i64 x.id, .string x.owner, .int .i64 x.need, .int .i64 x.long, .int .i64 x.prio, .int .i64 x.under.level, .int .i64 x.under.set, .int .i64 x.after, .int .i64 x.born, .int .i64 x.state, .int .i64 x.start, .slice AT x.nodes.length cT] 44 87
  rw [← hW, ← hB]
  have QA := Lib.hid a0
  have QB := Lib.hid b0
  have X := Lib.hid hx0
  clear hW hB hx0 a0 b0
  have y0 : W.cell? ⟨B, 0, none⟩ = some (.slice A1 y.config.nodes.length c1) := QA.out.cell 0
  have y1 : W.cell? ⟨B, 1, none⟩ = some (.slice A2 y.config.pairs.length c2) := QA.out.cell 1
  have y2 : W.cell? ⟨B, 2, none⟩ = some (.slice A3 y.config.quotas.length c3) := QA.out.cell 2
  have y3 : W.cell? ⟨B, 3, none⟩ = some (.int .i64 y.config.half) := QA.out.cell 3
  have y7 : W.cell? ⟨B, 7, none⟩ = some (.int .i64 y.now) := QA.out.cell 7
  have e0 : W.cell? ⟨B + 1, 0, none⟩ = some (.int .i64 x.label.level) := QB.out.cell 0
  have e1 : W.cell? ⟨B + 1, 1, none⟩ = some (.int .i64 x.label.set) := QB.out.cell 1
  have e4 : W.cell? ⟨B + 1, 4, none⟩ = some (.int .i64 x.need) := QB.out.cell 4
  have e10 : W.cell? ⟨B + 1, 10, none⟩ = some (.int .i64 x.born) := QB.out.cell 10
  by_cases k1 : (n : Int) < x.need
  · have HE := Lib.hid (fits_few (ns := y.config.nodes) (now := y.now) (x := x) (by rw [HM.out]; exact k1))
    have hd := decide_eq_true k1
    refine wp_region_ext (by kernel_rfl) (by kernel_rfl) ?_
    repeat (
      (refine wpQuiet_step (fun K hK => ?_)
       go_simp
       first
        | (refine hK _ ?_; clear hK K)
        | (apply Exists.intro
           refine ⟨fun w__ hx__ => ?_, hK _ ?_⟩
           · have y0__ := Ext.some hx__ y0; have y1__ := Ext.some hx__ y1; have y2__ := Ext.some hx__ y2; have y3__ := Ext.some hx__ y3; have y7__ := Ext.some hx__ y7; have e0__ := Ext.some hx__ e0; have e1__ := Ext.some hx__ e1; have e4__ := Ext.some hx__ e4; have e10__ := Ext.some hx__ e10; first | exact rfl | (go_simp; done) | (go_simp; exact rfl) | (go_at_call 74; exact ext_of hx__ (l13Clear_is (S := S) y.config _ x.label _ (rel_Config HFC.out (H1.out.ext (X.out.trans hx__)) (H2.out.ext (X.out.trans hx__)) (H3.out.ext (X.out.trans hx__))) n HN.out))
           clear hK K)))
    refine wpQuiet_nil ?_
    intro w1 hx1
    have X1 := Lib.hid (X.out.trans hx1)
    have E1 := Lib.hid hx1
    clear y0 y1 y2 y3 y7 e0 e1 e4 e10 hx1
    go_wp2_with fail
    go_ret
    exact ⟨ret_bool HE.out.symm, X1.out⟩
  have hd := decide_eq_false k1
  by_cases k2 : y.now < x.born
  · have HE := Lib.hid (fits_late (ns := y.config.nodes) (x := x) k2)
    have hd2 := decide_eq_true k2
    refine wp_region_ext (by kernel_rfl) (by kernel_rfl) ?_
    repeat (
      (refine wpQuiet_step (fun K hK => ?_)
       go_simp
       first
        | (refine hK _ ?_; clear hK K)
        | (apply Exists.intro
           refine ⟨fun w__ hx__ => ?_, hK _ ?_⟩
           · have y0__ := Ext.some hx__ y0; have y1__ := Ext.some hx__ y1; have y2__ := Ext.some hx__ y2; have y3__ := Ext.some hx__ y3; have y7__ := Ext.some hx__ y7; have e0__ := Ext.some hx__ e0; have e1__ := Ext.some hx__ e1; have e4__ := Ext.some hx__ e4; have e10__ := Ext.some hx__ e10; first | exact rfl | (go_simp; done) | (go_simp; exact rfl) | (go_at_call 74; exact ext_of hx__ (l13Clear_is (S := S) y.config _ x.label _ (rel_Config HFC.out (H1.out.ext (X.out.trans hx__)) (H2.out.ext (X.out.trans hx__)) (H3.out.ext (X.out.trans hx__))) n HN.out))
           clear hK K)))
    refine wpQuiet_nil ?_
    intro w1 hx1
    have X1 := Lib.hid (X.out.trans hx1)
    have E1 := Lib.hid hx1
    clear y0 y1 y2 y3 y7 e0 e1 e4 e10 hx1
    go_wp2_with fail
    go_ret
    exact ⟨ret_bool HE.out.symm, X1.out⟩
  have hd2 := decide_eq_false k2
  have HE : Hid (x.nodes.all (nodeIn y.config.nodes x.label) = true → fitsY y.config.nodes y.now x = placeY y.now x) := Lib.hid (fun ht => fits_place (by rw [HM.out]; exact k1) k2 ht)
  refine wp_region_ext (by kernel_rfl) (by kernel_rfl) ?_
  repeat (
    (refine wpQuiet_step (fun K hK => ?_)
     go_simp
     first
      | (refine hK _ ?_; clear hK K)
      | (apply Exists.intro
         refine ⟨fun w__ hx__ => ?_, hK _ ?_⟩
         · have y0__ := Ext.some hx__ y0; have y1__ := Ext.some hx__ y1; have y2__ := Ext.some hx__ y2; have y3__ := Ext.some hx__ y3; have y7__ := Ext.some hx__ y7; have e0__ := Ext.some hx__ e0; have e1__ := Ext.some hx__ e1; have e4__ := Ext.some hx__ e4; have e10__ := Ext.some hx__ e10; first | exact rfl | (go_simp; done) | (go_simp; exact rfl) | (go_at_call 74; exact ext_of hx__ (l13Clear_is (S := S) y.config _ x.label _ (rel_Config HFC.out (H1.out.ext (X.out.trans hx__)) (H2.out.ext (X.out.trans hx__)) (H3.out.ext (X.out.trans hx__))) n HN.out))
         clear hK K)))
  refine wpQuiet_nil ?_
  intro w1 hx1
  have X1 := Lib.hid (X.out.trans hx1)
  have E1 := Lib.hid hx1
  clear y0 y1 y2 y3 y7 e0 e1 e4 e10 hx1
  replace QA := Lib.hid (QA.out.ext E1.out)
  replace QB := Lib.hid (QB.out.ext E1.out)
  clear hd2
  go_wp2_with fail
  clear hd k1 k2
  go_loopw [5] (fun i w' => ∃ k : Nat, k ≤ x.nodes.length ∧ i = .int .i64 k ∧ (∀ j, j < k → nodeIn y.config.nodes x.label (nth x.nodes j) = true) ∧ Ext w1 w') (fun i _ => x.nodes.length - (intOf i).toNat)
  case atStart => exact ⟨0, by omega, rfl, fun j hj => by omega, Ext.refl _⟩
  case round =>
    obtain ⟨k, hk1, rfl, hall, hx⟩ := hrel
    have HA := Lib.hid hall
    have HX := Lib.hid hx
    have QAr := Lib.hid (QA.out.ext hx)
    have QBr := Lib.hid (QB.out.ext hx)
    clear hall
    by_cases hlt : k < x.nodes.length
    · have HLT := Lib.hid hlt
      have y0 : wr.cell? ⟨B, 0, none⟩ = some (.slice A1 y.config.nodes.length c1) := QAr.out.cell 0
      have y4 : wr.cell? ⟨B, 4, none⟩ = some (.slice A4 y.nodes.length c4) := QAr.out.cell 4
      have e0 : wr.cell? ⟨B + 1, 0, none⟩ = some (.int .i64 x.label.level) := QBr.out.cell 0
      have e1 : wr.cell? ⟨B + 1, 1, none⟩ = some (.int .i64 x.label.set) := QBr.out.cell 1
      have e13 : wr.cell? ⟨B + 1, 13, none⟩ = some (.slice AT x.nodes.length cT) := QBr.out.cell 13
      obtain ⟨b, o, cs, rfl, _, ⟨rfl, hfn⟩, hc⟩ := GK.out k hlt
      have hxw := X1.out.trans hx
      have z0 := Ext.some hxw (hc 0 _ rfl)
      simp only [EInt, Nat.mul_one, Nat.add_zero] at z0
      obtain ⟨p0, p5⟩ := node_bounds HT.out hlt
      clear hc hfn hx
      by_cases hge : (y.nodes.length : Int) ≤ nth x.nodes k
      · have HF := Lib.hid (fits_out (now := y.now) (all_false_at hlt (node_far (a := x.label) (by rw [← HNL.out]; exact hge))))
        have hd := decide_eq_true hge
        clear hxw
        go_wp2_with fail
        refine wp_region_ext (by kernel_rfl) (by kernel_rfl) ?_
        repeat (
          (refine wpQuiet_step (fun K hK => ?_)
           go_simp
           first
            | (refine hK _ ?_; clear hK K)
            | (apply Exists.intro
               refine ⟨fun w__ hx__ => ?_, hK _ ?_⟩
               · have y0__ := Ext.some hx__ y0; have y4__ := Ext.some hx__ y4; have e0__ := Ext.some hx__ e0; have e1__ := Ext.some hx__ e1; have e13__ := Ext.some hx__ e13; have z0__ := Ext.some hx__ z0; first | exact rfl | (go_simp; done) | (go_simp; exact rfl) | fail
               clear hK K)))
        refine wpQuiet_nil ?_
        intro w1 hx1
        have HZ := Lib.hid hx1
        clear y0 y4 e0 e1 e13 z0 hx1
        go_wp2_with fail
        go_ret
        exact ⟨ret_bool HF.out.symm, X1.out.trans (HX.out.trans HZ.out)⟩
      · have hd := decide_eq_false hge
        have hn2 : (nth x.nodes k).toNat < y.config.nodes.length := by have := HNL.out; omega
        have hn3 : nth x.nodes k < (y.config.nodes.length : Int) := by omega
        obtain ⟨b2, o2, cs2, rfl, _, ⟨vr, rfl, hr⟩, hc2⟩ := HK1.out (nth x.nodes k).toNat hn2
        have r0 := Ext.some hxw (hc2 0 _ rfl)
        simp only [ERow, Nat.mul_one, Nat.add_zero] at r0
        obtain ⟨AR, cR, rfl, -⟩ := hr.form
        have HR := Lib.hid (hr.ext hxw)
        obtain ⟨t, ht⟩ : ∃ t, cleared (nth y.config.nodes (nth x.nodes k).toNat) x.label = t := ⟨_, rfl⟩
        have HND := Lib.hid (node_at p0 hn2 ht)
        have T := Lib.hid ht
        clear hxw hc2 hr ht
        go_wp2_with fail
        refine wp_region_ext (by kernel_rfl) (by kernel_rfl) ?_
        repeat (
          (refine wpQuiet_step (fun K hK => ?_)
           go_simp
           first
            | (refine hK _ ?_; clear hK K)
            | (apply Exists.intro
               refine ⟨fun w__ hx__ => ?_, hK _ ?_⟩
               · have y0__ := Ext.some hx__ y0; have y4__ := Ext.some hx__ y4; have e0__ := Ext.some hx__ e0; have e1__ := Ext.some hx__ e1; have e13__ := Ext.some hx__ e13; have z0__ := Ext.some hx__ z0; have r0__ := Ext.some hx__ r0; first | exact rfl | (go_simp; done) | (go_simp; exact rfl) | (go_at_call 143; exact ext_of hx__ (l05Cleared_is (S := S) (nth y.config.nodes (nth x.nodes k).toNat) x.label _ _ (HR.out.ext hx__) _ T.out))
               clear hK K)))
        refine wpQuiet_nil ?_
        intro w1 hx1
        have HZ := Lib.hid hx1
        clear y0 y4 e0 e1 e13 z0 r0 hx1 hd
        cases t with
        | false =>
          have HF := Lib.hid (fits_out (now := y.now) (all_false_at hlt HND.out))
          go_wp2_with fail
          go_ret
          exact ⟨ret_bool HF.out.symm, X1.out.trans (HX.out.trans HZ.out)⟩
        | true =>
          have HG := Lib.hid (all_succ (p := fun j => nodeIn y.config.nodes x.label (nth x.nodes j) = true) HA.out HND.out)
          go_wp2_with fail
          go_roundw
          case rel => exact ⟨k + 1, by omega, by go_num, HG.out, HX.out.trans HZ.out⟩
          case measure => simp [intOf]; omega
    · have HF := Lib.hid (HE.out (all_true_of fun j hj => HA.out j (by omega)))
      have X9 := Lib.hid (X1.out.trans hx)
      clear hx
      have y7 : wr.cell? ⟨B, 7, none⟩ = some (.int .i64 y.now) := QAr.out.cell 7
      have e0 : wr.cell? ⟨B + 1, 0, none⟩ = some (.int .i64 x.label.level) := QBr.out.cell 0
      have e1 : wr.cell? ⟨B + 1, 1, none⟩ = some (.int .i64 x.label.set) := QBr.out.cell 1
      have e2 : wr.cell? ⟨B + 1, 2, none⟩ = some (.int .i64 x.id) := QBr.out.cell 2
      have e3 : wr.cell? ⟨B + 1, 3, none⟩ = some (.string x.owner) := QBr.out.cell 3
      have e4 : wr.cell? ⟨B + 1, 4, none⟩ = some (.int .i64 x.need) := QBr.out.cell 4
      have e5 : wr.cell? ⟨B + 1, 5, none⟩ = some (.int .i64 x.long) := QBr.out.cell 5
      have e6 : wr.cell? ⟨B + 1, 6, none⟩ = some (.int .i64 x.prio) := QBr.out.cell 6
      have e7 : wr.cell? ⟨B + 1, 7, none⟩ = some (.int .i64 x.under.level) := QBr.out.cell 7
      have e8 : wr.cell? ⟨B + 1, 8, none⟩ = some (.int .i64 x.under.set) := QBr.out.cell 8
      have e9 : wr.cell? ⟨B + 1, 9, none⟩ = some (.int .i64 x.after) := QBr.out.cell 9
      have e10 : wr.cell? ⟨B + 1, 10, none⟩ = some (.int .i64 x.born) := QBr.out.cell 10
      have e11 : wr.cell? ⟨B + 1, 11, none⟩ = some (.int .i64 x.state) := QBr.out.cell 11
      have e12 : wr.cell? ⟨B + 1, 12, none⟩ = some (.int .i64 x.start) := QBr.out.cell 12
      have e13 : wr.cell? ⟨B + 1, 13, none⟩ = some (.slice AT x.nodes.length cT) := QBr.out.cell 13
      by_cases hs : x.state = 2
      · have HP := Lib.hid (place_runs (now := y.now) hs)
        obtain ⟨s0, s1, l0, l1⟩ := runs_bounds HT.out hs
        have SB := Lib.hid (And.intro s0 (And.intro s1 (And.intro l0 l1)))
        clear s0 s1 l0 l1
        by_cases hst : x.start ≤ y.now
        · have hd := decide_eq_true hst
          have HQ : Hid (fitsY y.config.nodes y.now x = decide (y.now < endOf x)) := Lib.hid (by rw [HF.out, HP.out, decide_eq_true hst, Bool.true_and])
          go_wp2_with fail
          clear hs
          refine wp_region_ext (by kernel_rfl) (by kernel_rfl) ?_
          repeat (
            (refine wpQuiet_step (fun K hK => ?_)
             go_simp
             first
              | (refine hK _ ?_; clear hK K)
              | (apply Exists.intro
                 refine ⟨fun w__ hx__ => ?_, hK _ ?_⟩
                 · have e0__ := Ext.some hx__ e0; have e1__ := Ext.some hx__ e1; have e2__ := Ext.some hx__ e2; have e3__ := Ext.some hx__ e3; have e4__ := Ext.some hx__ e4; have e5__ := Ext.some hx__ e5; have e6__ := Ext.some hx__ e6; have e7__ := Ext.some hx__ e7; have e8__ := Ext.some hx__ e8; have e9__ := Ext.some hx__ e9; have e10__ := Ext.some hx__ e10; have e11__ := Ext.some hx__ e11; have e12__ := Ext.some hx__ e12; have e13__ := Ext.some hx__ e13; have y7__ := Ext.some hx__ y7; first | exact rfl | (go_simp; done) | (go_simp; exact rfl) | (go_at_call 254; exact ext_of hx__ (l13End_any (S := S') x _ _ (rel_Task GF.out (G1.out.ext (X9.out.trans hx__))) SB.out.1 SB.out.2.1 SB.out.2.2.1 SB.out.2.2.2))
                 clear hK K)))
          refine wpQuiet_nil ?_
          intro w1 hx1
          have HZ := Lib.hid (X9.out.trans hx1)
          clear e0 e1 e2 e3 e4 e5 e6 e7 e8 e9 e10 e11 e12 e13 y7 hx1
          go_wp2_with fail
          go_ret
          exact ⟨ret_bool HQ.out.symm, HZ.out⟩
        · have hd := decide_eq_false hst
          have HQ : Hid (fitsY y.config.nodes y.now x = false) := Lib.hid (by rw [HF.out, HP.out, decide_eq_false hst, Bool.false_and])
          go_wp2_with fail
          clear hs
          refine wp_region_ext (by kernel_rfl) (by kernel_rfl) ?_
          repeat (
            (refine wpQuiet_step (fun K hK => ?_)
             go_simp
             first
              | (refine hK _ ?_; clear hK K)
              | (apply Exists.intro
                 refine ⟨fun w__ hx__ => ?_, hK _ ?_⟩
                 · have e0__ := Ext.some hx__ e0; have e1__ := Ext.some hx__ e1; have e2__ := Ext.some hx__ e2; have e3__ := Ext.some hx__ e3; have e4__ := Ext.some hx__ e4; have e5__ := Ext.some hx__ e5; have e6__ := Ext.some hx__ e6; have e7__ := Ext.some hx__ e7; have e8__ := Ext.some hx__ e8; have e9__ := Ext.some hx__ e9; have e10__ := Ext.some hx__ e10; have e11__ := Ext.some hx__ e11; have e12__ := Ext.some hx__ e12; have e13__ := Ext.some hx__ e13; have y7__ := Ext.some hx__ y7; first | exact rfl | (go_simp; done) | (go_simp; exact rfl) | fail
                 clear hK K)))
          refine wpQuiet_nil ?_
          intro w1 hx1
          have HZ := Lib.hid (X9.out.trans hx1)
          clear e0 e1 e2 e3 e4 e5 e6 e7 e8 e9 e10 e11 e12 e13 y7 hx1
          go_wp2_with fail
          go_ret
          exact ⟨ret_bool HQ.out.symm, HZ.out⟩
      · by_cases hz : 0 < x.nodes.length
        · have HP := Lib.hid (place_rests (now := y.now) hs hz)
          have hz' : ¬ ((x.nodes.length : Int) = 0) := by omega
          have i2 : IntKind.i64.wrap (y.now + 40) = y.now + 40 := IntWalk.i64_in _ (by have := N0.out; have := N1.out; omega)
          by_cases hp : y.now < x.start
          · by_cases hq : x.start ≤ y.now + 40
            · have HQ : Hid (fitsY y.config.nodes y.now x = true) := Lib.hid (by rw [HF.out, HP.out]; unfold isB; exact decide_eq_true ⟨by omega, hq⟩)
              go_wp2_with fail
              all_goals (go_ret; exact ⟨ret_bool (by first | exact HQ.out.symm | (rw [HQ.out]; go_light; first | grind | omega | simp_all)), X9.out⟩)
            · have HQ : Hid (fitsY y.config.nodes y.now x = false) := Lib.hid (by rw [HF.out, HP.out]; unfold isB; exact decide_eq_false (fun h => hq h.2))
              go_wp2_with fail
              all_goals (go_ret; exact ⟨ret_bool (by first | exact HQ.out.symm | (rw [HQ.out]; go_light; first | grind | omega | simp_all)), X9.out⟩)
          · have HQ : Hid (fitsY y.config.nodes y.now x = false) := Lib.hid (by rw [HF.out, HP.out]; unfold isB; exact decide_eq_false (fun h => hp (by omega)))
            go_wp2_with fail
            all_goals (go_ret; exact ⟨ret_bool (by first | exact HQ.out.symm | (rw [HQ.out]; go_light; first | grind | omega | simp_all)), X9.out⟩)
        · have HQ : Hid (fitsY y.config.nodes y.now x = true) := Lib.hid (by rw [HF.out, place_none hs hz])
          have hz' : (x.nodes.length : Int) = 0 := by omega
          go_wp2_with fail
          all_goals (go_ret; exact ⟨ret_bool (by first | exact HQ.out.symm | (rw [HQ.out]; go_light; first | grind | omega | simp_all)), X9.out⟩)
theorem l13Task_is {S S' : Nat → Prop} (y : Yard) (x : Task) (cs ds : List Value) (w : World) (h : EYard.rel S w cs y) (g : ETask.rel S' w ds x) (hn : y.nodes.length = y.config.nodes.length) (hw : nowOk y.now = true) (ht : taskRight x = true) (r : Bool) (hr : fitsY y.config.nodes y.now x = r) :
    Calls Tryz.prog 165 #[.agg cs.toArray, .agg ds.toArray] w fun e w' => e = .returned (.bool r) ∧ Ext w w' := by
  subst hr
  exact l13Task_any y x cs ds w h g hn hw ht
theorem make_six (w : World) : (Instr.makeSlice 181 (.int .i64 6) (.int .i64 6)).run Tryz.prog w = .ok (.slice (some ⟨w.heap.size, 0, none⟩) 6 6) (w.alloc (.cells (boolsN fun _ => false) 4)) := by
  obtain ⟨i, i1, i2, i3, i4⟩ := info_parts (P := Tryz.prog) (e := 4) (z := .bool false) (size := 1) (bytes := 1) (by kernel_rfl)
  have h := run_make (P := Tryz.prog) w 181 4 i _ Tryz.underlying181 i1 i2 .i64 .i64 6 6 (by decide) (by decide) (by rw [i4]; decide) (by decide)
  have e : madeCells (Value.bool false).cells (Int.toNat 6 * 1) = boolsN (fun _ => false) := by kernel_rfl
  rw [i3, e] at h
  exact h
theorem liveOf_at {l : List Task} {a : Label} (h : tasksRight l = true) : liveOf l a = (liveN l a : Int) := by rw [liveOf, if_pos h]
theorem specLiveOf_is {S : Nat → Prop} (l : List Task) (a : Label) (v : Value) (w : World) (h : Rd ETask S w v l) (r : Int) (hr : liveOf l a = r) :
    Calls Tryz.prog 106 #[v, .agg #[.int .i64 a.level, .int .i64 a.set]] w fun e w' => e = .returned (.int .i64 r) ∧ Ext w w' := by
  subst hr
  exact specLiveOf_any l a v w h
theorem specQuotaOf_is {S : Nat → Prop} (x : Config) (cs : List Value) (a : Label) (w : World) (h : EConfig.rel S w cs x) (r : Int) (hr : quotaOf x a = r) :
    Calls Tryz.prog 107 #[.agg cs.toArray, .agg #[.int .i64 a.level, .int .i64 a.set]] w fun e w' => e = .returned (.int .i64 r) ∧ Ext w w' := by
  subst hr
  exact specQuotaOf_any x cs a w h
set_option maxHeartbeats 16000000 in
set_option maxRecDepth 100000 in
theorem specYardRight_any {S : Nat → Prop} (y : Yard) (cs : List Value) (w : World) (h : EYard.rel S w cs y) :
    Calls Tryz.prog 82 #[.agg cs.toArray] w fun e w' => e = .returned (.bool (yardRight y)) ∧ Ext w w' := by
  obtain ⟨v1, v2, v3, v4, v5, v6, rfl, hf, h1, h2, h3, h4, h5, h6⟩ := h
  obtain ⟨A1, c1, rfl, -⟩ := h1.form
  obtain ⟨A2, c2, rfl, -⟩ := h2.form
  obtain ⟨A3, c3, rfl, -⟩ := h3.form
  obtain ⟨A4, c4, rfl, -⟩ := h4.form
  have H5 := Lib.hid h5
  obtain ⟨A5, c5, rfl, l5, m5, hk5⟩ := h5.open_
  unfold maxLen at m5
  have H6 := Lib.hid h6
  obtain ⟨A6, c6, rfl, l6, m6, hk6⟩ := h6.open_
  unfold maxLen at m6
  have HF := Lib.hid hf
  have HFC : Hid (FitConfig y.config) := Lib.hid hf.1
  have H1 := Lib.hid h1
  have H2 := Lib.hid h2
  have H3 := Lib.hid h3
  have H4 := Lib.hid h4
  have HK := Lib.hid hk5
  have HK6 := Lib.hid hk6
  clear hf h1 h2 h3 h4 h5 h6 hk5 hk6
  simp only [cellsYard]
  obtain ⟨t1, ht1⟩ : ∃ t, configRight y.config = t := ⟨_, rfl⟩
  obtain ⟨t3, ht3⟩ : ∃ t, nodesRight y.nodes = t := ⟨_, rfl⟩
  obtain ⟨t4, ht4⟩ : ∃ t, tasksRight y.tasks = t := ⟨_, rfl⟩
  obtain ⟨t5, ht5⟩ : ∃ t, usesRight y.uses = t := ⟨_, rfl⟩
  obtain ⟨t6, ht6⟩ : ∃ t, nowOk y.now = t := ⟨_, rfl⟩
  have T1 := Lib.hid ht1
  have T3 := Lib.hid ht3
  have T4 := Lib.hid ht4
  have T5 := Lib.hid ht5
  have T6 := Lib.hid ht6
  clear ht1 ht3 ht4 ht5 ht6
  go_enter Tryz.func82, Tryz.ntmps82
  go_upto_region 1 with (fail)
  obtain ⟨W, B, hW, hB, hx0, b0⟩ : ∃ W B, W = w.alloc (.cells #[.slice A1 y.config.nodes.length c1, .slice A2 y.config.pairs.length c2, .slice A3 y.config.quotas.length c3, .int .i64 y.config.half, .slice A4 y.nodes.length c4, .slice A5 y.tasks.length c5, .slice A6 y.uses.length c6, .int .i64 y.now] 44) ∧ B = w.heap.size ∧ Ext w W ∧ Blk W B 44 #[.slice A1 y.config.nodes.length c1, .slice A2 y.config.pairs.length c2, .slice A3 y.config.quotas.length c3, .int .i64 y.config.half, .slice A4 y.nodes.length c4, .slice A5 y.tasks.length c5, .slice A6 y.uses.length c6, .int .i64 y.now] := ⟨_, _, rfl, rfl, (Ext.refl w).alloc _, Blk.new _ _ _⟩
  rw [← hW, ← hB]
  have QA := Lib.hid b0
  have X := Lib.hid hx0
  clear hW hB hx0 b0
  have qa := QA.out.cell
  cases t6 with
  | false =>
    have HN := Lib.hid (yard_head (y := y) (by simp [yardHead, T6.out]))
    go_wp2_with (first | (go_at_call 162; (with_reducible refine (specConfigRight_is (S := S) y.config [.slice A1 y.config.nodes.length c1, .slice A2 y.config.pairs.length c2, .slice A3 y.config.quotas.length c3, .int .i64 y.config.half] _ (rel_Config HFC.out (H1.out.ext X.out) (H2.out.ext X.out) (H3.out.ext X.out)) _ T1.out).mono ?_); rintro e w7 ⟨rfl, hx7⟩; replace X := Lib.hid (X.out.trans hx7); replace QA := Lib.hid (QA.out.ext hx7); clear hx7 qa; have qa := QA.out.cell) | (go_at_call 163; (with_reducible refine (specNodesRight_is (S := S) y.nodes _ _ (H4.out.ext X.out) _ T3.out).mono ?_); rintro e w7 ⟨rfl, hx7⟩; replace X := Lib.hid (X.out.trans hx7); replace QA := Lib.hid (QA.out.ext hx7); clear hx7 qa; have qa := QA.out.cell) | (go_at_call 122; (with_reducible refine (specTasksRight_is (S := S) y.tasks _ _ (H5.out.ext X.out) _ T4.out).mono ?_); rintro e w7 ⟨rfl, hx7⟩; replace X := Lib.hid (X.out.trans hx7); replace QA := Lib.hid (QA.out.ext hx7); clear hx7 qa; have qa := QA.out.cell) | (go_at_call 164; (with_reducible refine (specUsesRight_is (S := S) y.uses _ _ (H6.out.ext X.out) _ T5.out).mono ?_); rintro e w7 ⟨rfl, hx7⟩; replace X := Lib.hid (X.out.trans hx7); replace QA := Lib.hid (QA.out.ext hx7); clear hx7 qa; have qa := QA.out.cell) | (go_at_call 161; (with_reducible refine (l03NowY_is _ _ _ T6.out).mono ?_); rintro e w8 ⟨rfl, rfl⟩))
    go_ret
    exact ⟨ret_bool HN.out.symm, X.out⟩
  | true =>
    cases t1 with
    | false =>
      have HN := Lib.hid (yard_head (y := y) (by simp [yardHead, T1.out]))
      go_wp2_with (first | (go_at_call 162; (with_reducible refine (specConfigRight_is (S := S) y.config [.slice A1 y.config.nodes.length c1, .slice A2 y.config.pairs.length c2, .slice A3 y.config.quotas.length c3, .int .i64 y.config.half] _ (rel_Config HFC.out (H1.out.ext X.out) (H2.out.ext X.out) (H3.out.ext X.out)) _ T1.out).mono ?_); rintro e w7 ⟨rfl, hx7⟩; replace X := Lib.hid (X.out.trans hx7); replace QA := Lib.hid (QA.out.ext hx7); clear hx7 qa; have qa := QA.out.cell) | (go_at_call 163; (with_reducible refine (specNodesRight_is (S := S) y.nodes _ _ (H4.out.ext X.out) _ T3.out).mono ?_); rintro e w7 ⟨rfl, hx7⟩; replace X := Lib.hid (X.out.trans hx7); replace QA := Lib.hid (QA.out.ext hx7); clear hx7 qa; have qa := QA.out.cell) | (go_at_call 122; (with_reducible refine (specTasksRight_is (S := S) y.tasks _ _ (H5.out.ext X.out) _ T4.out).mono ?_); rintro e w7 ⟨rfl, hx7⟩; replace X := Lib.hid (X.out.trans hx7); replace QA := Lib.hid (QA.out.ext hx7); clear hx7 qa; have qa := QA.out.cell) | (go_at_call 164; (with_reducible refine (specUsesRight_is (S := S) y.uses _ _ (H6.out.ext X.out) _ T5.out).mono ?_); rintro e w7 ⟨rfl, hx7⟩; replace X := Lib.hid (X.out.trans hx7); replace QA := Lib.hid (QA.out.ext hx7); clear hx7 qa; have qa := QA.out.cell) | (go_at_call 161; (with_reducible refine (l03NowY_is _ _ _ T6.out).mono ?_); rintro e w8 ⟨rfl, rfl⟩))
      go_ret
      exact ⟨ret_bool HN.out.symm, X.out⟩
    | true =>
      cases t3 with
      | false =>
        have HN := Lib.hid (yard_head (y := y) (by simp [yardHead, T3.out]))
        go_wp2_with (first | (go_at_call 162; (with_reducible refine (specConfigRight_is (S := S) y.config [.slice A1 y.config.nodes.length c1, .slice A2 y.config.pairs.length c2, .slice A3 y.config.quotas.length c3, .int .i64 y.config.half] _ (rel_Config HFC.out (H1.out.ext X.out) (H2.out.ext X.out) (H3.out.ext X.out)) _ T1.out).mono ?_); rintro e w7 ⟨rfl, hx7⟩; replace X := Lib.hid (X.out.trans hx7); replace QA := Lib.hid (QA.out.ext hx7); clear hx7 qa; have qa := QA.out.cell) | (go_at_call 163; (with_reducible refine (specNodesRight_is (S := S) y.nodes _ _ (H4.out.ext X.out) _ T3.out).mono ?_); rintro e w7 ⟨rfl, hx7⟩; replace X := Lib.hid (X.out.trans hx7); replace QA := Lib.hid (QA.out.ext hx7); clear hx7 qa; have qa := QA.out.cell) | (go_at_call 122; (with_reducible refine (specTasksRight_is (S := S) y.tasks _ _ (H5.out.ext X.out) _ T4.out).mono ?_); rintro e w7 ⟨rfl, hx7⟩; replace X := Lib.hid (X.out.trans hx7); replace QA := Lib.hid (QA.out.ext hx7); clear hx7 qa; have qa := QA.out.cell) | (go_at_call 164; (with_reducible refine (specUsesRight_is (S := S) y.uses _ _ (H6.out.ext X.out) _ T5.out).mono ?_); rintro e w7 ⟨rfl, hx7⟩; replace X := Lib.hid (X.out.trans hx7); replace QA := Lib.hid (QA.out.ext hx7); clear hx7 qa; have qa := QA.out.cell) | (go_at_call 161; (with_reducible refine (l03NowY_is _ _ _ T6.out).mono ?_); rintro e w8 ⟨rfl, rfl⟩))
        go_ret
        exact ⟨ret_bool HN.out.symm, X.out⟩
      | true =>
        by_cases hl : y.nodes.length = y.config.nodes.length
        case neg =>
          have hl' : ¬ ((y.nodes.length : Int) = (y.config.nodes.length : Int)) := by omega
          have HN := Lib.hid (yard_head (y := y) (by simp [yardHead, hl]))
          go_wp2_with (first | (go_at_call 162; (with_reducible refine (specConfigRight_is (S := S) y.config [.slice A1 y.config.nodes.length c1, .slice A2 y.config.pairs.length c2, .slice A3 y.config.quotas.length c3, .int .i64 y.config.half] _ (rel_Config HFC.out (H1.out.ext X.out) (H2.out.ext X.out) (H3.out.ext X.out)) _ T1.out).mono ?_); rintro e w7 ⟨rfl, hx7⟩; replace X := Lib.hid (X.out.trans hx7); replace QA := Lib.hid (QA.out.ext hx7); clear hx7 qa; have qa := QA.out.cell) | (go_at_call 163; (with_reducible refine (specNodesRight_is (S := S) y.nodes _ _ (H4.out.ext X.out) _ T3.out).mono ?_); rintro e w7 ⟨rfl, hx7⟩; replace X := Lib.hid (X.out.trans hx7); replace QA := Lib.hid (QA.out.ext hx7); clear hx7 qa; have qa := QA.out.cell) | (go_at_call 122; (with_reducible refine (specTasksRight_is (S := S) y.tasks _ _ (H5.out.ext X.out) _ T4.out).mono ?_); rintro e w7 ⟨rfl, hx7⟩; replace X := Lib.hid (X.out.trans hx7); replace QA := Lib.hid (QA.out.ext hx7); clear hx7 qa; have qa := QA.out.cell) | (go_at_call 164; (with_reducible refine (specUsesRight_is (S := S) y.uses _ _ (H6.out.ext X.out) _ T5.out).mono ?_); rintro e w7 ⟨rfl, hx7⟩; replace X := Lib.hid (X.out.trans hx7); replace QA := Lib.hid (QA.out.ext hx7); clear hx7 qa; have qa := QA.out.cell) | (go_at_call 161; (with_reducible refine (l03NowY_is _ _ _ T6.out).mono ?_); rintro e w8 ⟨rfl, rfl⟩))
          go_ret
          exact ⟨ret_bool HN.out.symm, X.out⟩
        case pos =>
          have HL := Lib.hid hl
          have hl2 : ((y.nodes.length : Int) != (y.config.nodes.length : Int)) = false := by simp [hl]
          clear hl
          cases t4 with
          | false =>
            have HN := Lib.hid (yard_head (y := y) (by simp [yardHead, T4.out]))
            go_wp2_with (first | (go_at_call 162; (with_reducible refine (specConfigRight_is (S := S) y.config [.slice A1 y.config.nodes.length c1, .slice A2 y.config.pairs.length c2, .slice A3 y.config.quotas.length c3, .int .i64 y.config.half] _ (rel_Config HFC.out (H1.out.ext X.out) (H2.out.ext X.out) (H3.out.ext X.out)) _ T1.out).mono ?_); rintro e w7 ⟨rfl, hx7⟩; replace X := Lib.hid (X.out.trans hx7); replace QA := Lib.hid (QA.out.ext hx7); clear hx7 qa; have qa := QA.out.cell) | (go_at_call 163; (with_reducible refine (specNodesRight_is (S := S) y.nodes _ _ (H4.out.ext X.out) _ T3.out).mono ?_); rintro e w7 ⟨rfl, hx7⟩; replace X := Lib.hid (X.out.trans hx7); replace QA := Lib.hid (QA.out.ext hx7); clear hx7 qa; have qa := QA.out.cell) | (go_at_call 122; (with_reducible refine (specTasksRight_is (S := S) y.tasks _ _ (H5.out.ext X.out) _ T4.out).mono ?_); rintro e w7 ⟨rfl, hx7⟩; replace X := Lib.hid (X.out.trans hx7); replace QA := Lib.hid (QA.out.ext hx7); clear hx7 qa; have qa := QA.out.cell) | (go_at_call 164; (with_reducible refine (specUsesRight_is (S := S) y.uses _ _ (H6.out.ext X.out) _ T5.out).mono ?_); rintro e w7 ⟨rfl, hx7⟩; replace X := Lib.hid (X.out.trans hx7); replace QA := Lib.hid (QA.out.ext hx7); clear hx7 qa; have qa := QA.out.cell) | (go_at_call 161; (with_reducible refine (l03NowY_is _ _ _ T6.out).mono ?_); rintro e w8 ⟨rfl, rfl⟩))
            go_ret
            exact ⟨ret_bool HN.out.symm, X.out⟩
          | true =>
            cases t5 with
            | false =>
              have HN := Lib.hid (yard_head (y := y) (by simp [yardHead, T5.out]))
              go_wp2_with (first | (go_at_call 162; (with_reducible refine (specConfigRight_is (S := S) y.config [.slice A1 y.config.nodes.length c1, .slice A2 y.config.pairs.length c2, .slice A3 y.config.quotas.length c3, .int .i64 y.config.half] _ (rel_Config HFC.out (H1.out.ext X.out) (H2.out.ext X.out) (H3.out.ext X.out)) _ T1.out).mono ?_); rintro e w7 ⟨rfl, hx7⟩; replace X := Lib.hid (X.out.trans hx7); replace QA := Lib.hid (QA.out.ext hx7); clear hx7 qa; have qa := QA.out.cell) | (go_at_call 163; (with_reducible refine (specNodesRight_is (S := S) y.nodes _ _ (H4.out.ext X.out) _ T3.out).mono ?_); rintro e w7 ⟨rfl, hx7⟩; replace X := Lib.hid (X.out.trans hx7); replace QA := Lib.hid (QA.out.ext hx7); clear hx7 qa; have qa := QA.out.cell) | (go_at_call 122; (with_reducible refine (specTasksRight_is (S := S) y.tasks _ _ (H5.out.ext X.out) _ T4.out).mono ?_); rintro e w7 ⟨rfl, hx7⟩; replace X := Lib.hid (X.out.trans hx7); replace QA := Lib.hid (QA.out.ext hx7); clear hx7 qa; have qa := QA.out.cell) | (go_at_call 164; (with_reducible refine (specUsesRight_is (S := S) y.uses _ _ (H6.out.ext X.out) _ T5.out).mono ?_); rintro e w7 ⟨rfl, hx7⟩; replace X := Lib.hid (X.out.trans hx7); replace QA := Lib.hid (QA.out.ext hx7); clear hx7 qa; have qa := QA.out.cell) | (go_at_call 161; (with_reducible refine (l03NowY_is _ _ _ T6.out).mono ?_); rintro e w8 ⟨rfl, rfl⟩))
              go_ret
              exact ⟨ret_bool HN.out.symm, X.out⟩
            | true =>
              have HH : Hid (yardHead y = true) := Lib.hid (by simp [yardHead, T1.out, HL.out, T3.out, T4.out, T5.out, T6.out])
              go_upto_region 3 with (first | (go_at_call 162; (with_reducible refine (specConfigRight_is (S := S) y.config [.slice A1 y.config.nodes.length c1, .slice A2 y.config.pairs.length c2, .slice A3 y.config.quotas.length c3, .int .i64 y.config.half] _ (rel_Config HFC.out (H1.out.ext X.out) (H2.out.ext X.out) (H3.out.ext X.out)) _ T1.out).mono ?_); rintro e w7 ⟨rfl, hx7⟩; replace X := Lib.hid (X.out.trans hx7); replace QA := Lib.hid (QA.out.ext hx7); clear hx7 qa; have qa := QA.out.cell) | (go_at_call 163; (with_reducible refine (specNodesRight_is (S := S) y.nodes _ _ (H4.out.ext X.out) _ T3.out).mono ?_); rintro e w7 ⟨rfl, hx7⟩; replace X := Lib.hid (X.out.trans hx7); replace QA := Lib.hid (QA.out.ext hx7); clear hx7 qa; have qa := QA.out.cell) | (go_at_call 122; (with_reducible refine (specTasksRight_is (S := S) y.tasks _ _ (H5.out.ext X.out) _ T4.out).mono ?_); rintro e w7 ⟨rfl, hx7⟩; replace X := Lib.hid (X.out.trans hx7); replace QA := Lib.hid (QA.out.ext hx7); clear hx7 qa; have qa := QA.out.cell) | (go_at_call 164; (with_reducible refine (specUsesRight_is (S := S) y.uses _ _ (H6.out.ext X.out) _ T5.out).mono ?_); rintro e w7 ⟨rfl, hx7⟩; replace X := Lib.hid (X.out.trans hx7); replace QA := Lib.hid (QA.out.ext hx7); clear hx7 qa; have qa := QA.out.cell) | (go_at_call 161; (with_reducible refine (l03NowY_is _ _ _ T6.out).mono ?_); rintro e w8 ⟨rfl, rfl⟩))
              clear hl2
              clear qa
              obtain ⟨W3, B3, hW3, hB3, hx3, b3⟩ : ∃ W B, W = w7.alloc (.cells (boolsN fun _ => false) 4) ∧ B = w7.heap.size ∧ Ext w7 W ∧ Blk W B 4 (boolsN fun _ => false) := ⟨_, _, rfl, rfl, (Ext.refl w7).alloc _, Blk.new _ _ _⟩
              have hmk := make_six w7
              rw [← hW3, ← hB3] at hmk
              have X3 := Lib.hid hx3
              have Q3 := Lib.hid b3
              have HB3 : Hid (w7.heap.size ≤ B3) := Lib.hid (by omega)
              have HNE : Hid (B ∉ [B3]) := Lib.hid (by have := QA.out.lt; simp; omega)
              clear hW3 hB3 hx3 b3
              go_wp2_with fail
              clear hmk
              go_loopw [4] (fun i w' => ∃ k : Nat, k ≤ y.tasks.length ∧ i = .int .i64 k ∧ (∀ j, j < k → taskOkY y j = true) ∧ Blk w' B3 4 (boolsN (usedBy (y.tasks.take k))) ∧ Ext w7 w') (fun i _ => y.tasks.length - (intOf i).toNat)
              case atStart => exact ⟨0, by omega, rfl, fun j hj => by omega, by rw [used_start]; exact Q3.out, X3.out⟩
              case round =>
                obtain ⟨k, hk1, rfl, hall, hb3, hx⟩ := hrel
                have HA := Lib.hid hall
                have HB := Lib.hid hb3
                have HX := Lib.hid hx
                have ya : wr.cell? ⟨B, 5, none⟩ = some (.slice A5 y.tasks.length c5) := (QA.out.ext hx).cell 5
                clear hall hb3
                by_cases hlt : k < y.tasks.length
                · obtain ⟨b, o, cs, rfl, _, ⟨vt, rfl, hft, hrt⟩, hc⟩ := HK.out k hlt
                  obtain ⟨AT, cT, rfl, lt1, lt2, htk⟩ := hrt.open_
                  unfold maxLen at lt2
                  have hxw := X.out.trans hx
                  have z0 := Ext.some hxw (hc 0 _ rfl)
                  have z1 := Ext.some hxw (hc 1 _ rfl)
                  have z2 := Ext.some hxw (hc 2 _ rfl)
                  have z3 := Ext.some hxw (hc 3 _ rfl)
                  have z4 := Ext.some hxw (hc 4 _ rfl)
                  have z5 := Ext.some hxw (hc 5 _ rfl)
                  have z6 := Ext.some hxw (hc 6 _ rfl)
                  have z7 := Ext.some hxw (hc 7 _ rfl)
                  have z8 := Ext.some hxw (hc 8 _ rfl)
                  have z9 := Ext.some hxw (hc 9 _ rfl)
                  have z10 := Ext.some hxw (hc 10 _ rfl)
                  have z11 := Ext.some hxw (hc 11 _ rfl)
                  have z12 := Ext.some hxw (hc 12 _ rfl)
                  have z13 := Ext.some hxw (hc 13 _ rfl)
                  simp only [ETask, Nat.add_zero] at z0 z1 z2 z3 z4 z5 z6 z7 z8 z9 z10 z11 z12 z13
                  have HFT := Lib.hid hft
                  have HRT := Lib.hid hrt
                  have HTK := Lib.hid htk
                  have HTR := Lib.hid (all_right T4.out hlt)
                  clear hc hft hrt htk hx hxw
                  go_upto_region 8 with (fail)
                  obtain ⟨W5, B5, hW5, hB5, hx5, b5⟩ : ∃ W B, W = wr.alloc (.cells #[.int .i64 (nth y.tasks k).label.level, .int .i64 (nth y.tasks k).label.set, .int .i64 (nth y.tasks k).id, .string (nth y.tasks k).owner, .int .i64 (nth y.tasks k).need, .int .i64 (nth y.tasks k).long, .int .i64 (nth y.tasks k).prio, .int .i64 (nth y.tasks k).under.level, .int .i64 (nth y.tasks k).under.set, .int .i64 (nth y.tasks k).after, .int .i64 (nth y.tasks k).born, .int .i64 (nth y.tasks k).state, .int .i64 (nth y.tasks k).start, .slice AT (nth y.tasks k).nodes.length cT] 87) ∧ B = wr.heap.size ∧ Ext wr W ∧ Blk W B 87 #[.int .i64 (nth y.tasks k).label.level, .int .i64 (nth y.tasks k).label.set, .int .i64 (nth y.tasks k).id, .string (nth y.tasks k).owner, .int .i64 (nth y.tasks k).need, .int .i64 (nth y.tasks k).long, .int .i64 (nth y.tasks k).prio, .int .i64 (nth y.tasks k).under.level, .int .i64 (nth y.tasks k).under.set, .int .i64 (nth y.tasks k).after, .int .i64 (nth y.tasks k).born, .int .i64 (nth y.tasks k).state, .int .i64 (nth y.tasks k).start, .slice AT (nth y.tasks k).nodes.length cT] := ⟨_, _, rfl, rfl, (Ext.refl wr).alloc _, Blk.new _ _ _⟩
                  rw [← hW5, ← hB5]
                  have HB5 : Hid (B5 ∉ [B3]) := Lib.hid (by have := HB.out.lt; simp; omega)
                  have X5 := Lib.hid (HX.out.trans hx5)
                  have Q5 := Lib.hid b5
                  have QB := Lib.hid (HB.out.ext hx5)
                  clear hW5 hB5 hx5 b5 z0 z1 z2 z3 z4 z5 z6 z7 z8 z9 z10 z11 z12 z13 ya
                  have qa := (QA.out.ext X5.out).cell
                  have qt := Q5.out.cell
                  obtain ⟨t, ht⟩ : ∃ t, fitsY y.config.nodes y.now (nth y.tasks k) = t := ⟨_, rfl⟩
                  have T := Lib.hid ht
                  clear ht
                  cases t with
                  | false =>
                    have HN := Lib.hid (yard_task hlt (task_unfit T.out))
                    go_wp2_with (go_at_call 165; (with_reducible refine (l13Task_is (S := S) (S' := S) y (nth y.tasks k) _ _ _ (rel_Yard HF.out (H1.out.ext (X.out.trans X5.out)) (H2.out.ext (X.out.trans X5.out)) (H3.out.ext (X.out.trans X5.out)) (H4.out.ext (X.out.trans X5.out)) (H5.out.ext (X.out.trans X5.out)) (H6.out.ext (X.out.trans X5.out))) (rel_Task HFT.out (HRT.out.ext (X.out.trans X5.out))) HL.out T6.out HTR.out _ T.out).mono ?_); rintro e w8 ⟨rfl, hx8⟩; have X8 := Lib.hid hx8; clear hx8 qa qt)
                    go_ret
                    exact ⟨ret_bool HN.out.symm, X.out.trans (X5.out.trans X8.out)⟩
                  | true =>
                    go_upto_region 10 with (go_at_call 165; (with_reducible refine (l13Task_is (S := S) (S' := S) y (nth y.tasks k) _ _ _ (rel_Yard HF.out (H1.out.ext (X.out.trans X5.out)) (H2.out.ext (X.out.trans X5.out)) (H3.out.ext (X.out.trans X5.out)) (H4.out.ext (X.out.trans X5.out)) (H5.out.ext (X.out.trans X5.out)) (H6.out.ext (X.out.trans X5.out))) (rel_Task HFT.out (HRT.out.ext (X.out.trans X5.out))) HL.out T6.out HTR.out _ T.out).mono ?_); rintro e w8 ⟨rfl, hx8⟩; have X8 := Lib.hid hx8; clear hx8 qa qt)
                    replace Q5 := Lib.hid (Q5.out.ext X8.out)
                    replace QB := Lib.hid (QB.out.ext X8.out)
                    replace X5 := Lib.hid (X5.out.trans X8.out)
                    go_wp2_with fail
                    go_loopw [6] (fun i w' => ∃ j : Nat, j ≤ (nth y.tasks k).nodes.length ∧ i = .int .i64 j ∧ (∀ m, m < j → clashAt y.tasks k m = false) ∧ Blk w' B3 4 (boolsN (takenAt y.tasks k j)) ∧ Kept [B3] w8 w' ∧ Ext w7 w') (fun i _ => (nth y.tasks k).nodes.length - (intOf i).toNat)
                    case atStart => exact ⟨0, by omega, rfl, fun j hj => by omega, by rw [taken_start]; exact QB.out, Kept.refl _ _, X5.out⟩
                    case round =>
                      obtain ⟨j, hj1, rfl, hclash, hbj, hkj, hxj⟩ := hrel
                      have HC := Lib.hid hclash
                      have HBJ := Lib.hid hbj
                      have HKJ := Lib.hid hkj
                      have HXJ := Lib.hid hxj
                      have Q5J : Hid (Blk wr B5 87 _) := Lib.hid ((hkj.block B5 Q5.out.lt HB5.out).trans Q5.out)
                      have s9 : wr.cell? ⟨B5, 11, none⟩ = some (.int .i64 (nth y.tasks k).state) := Q5J.out.cell 11
                      have s13 : wr.cell? ⟨B5, 13, none⟩ = some (.slice AT (nth y.tasks k).nodes.length cT) := Q5J.out.cell 13
                      clear hclash hbj hkj
                      by_cases hs : (nth y.tasks k).state = 2
                      · have HR : Hid (runsB (nth y.tasks k) = true) := Lib.hid (by simp [runsB, hs])
                        by_cases hjt : j < (nth y.tasks k).nodes.length
                        · obtain ⟨b', o', cs', rfl, _, ⟨rfl, hfn⟩, hc'⟩ := HTK.out j hjt
                          have z0 := Ext.some (X.out.trans hxj) (hc' 0 _ rfl)
                          simp only [EInt, Nat.mul_one, Nat.add_zero] at z0
                          obtain ⟨p0, p5⟩ := node_bounds HTR.out hjt
                          have hge : (nth (nth y.tasks k).nodes j) < 6 := by omega
                          have tk := HBJ.out.cell (nth (nth y.tasks k).nodes j).toNat
                          rw [bools_get p0 p5] at tk
                          have fz := HBJ.out.frozen (nth (nth y.tasks k).nodes j).toNat
                          have P0 := Lib.hid p0
                          have P5 := Lib.hid p5
                          have HSET := Lib.hid (HBJ.out.set_ (nth (nth y.tasks k).nodes j).toNat)
                          have HJ := Lib.hid hjt
                          clear hc' hfn hxj p5
                          obtain ⟨u, hu⟩ : ∃ u, takenAt y.tasks k j (nth (nth y.tasks k).nodes j) = u := ⟨_, rfl⟩
                          rw [hu] at tk
                          have U := Lib.hid hu
                          clear hu
                          cases u with
                          | true =>
                            have HN := Lib.hid (yard_task hlt (task_clash hjt (by rw [clashAt, HR.out, U.out]; rfl)))
                            go_wp2_with fail
                            go_ret
                            exact ⟨ret_bool HN.out.symm, X.out.trans HXJ.out⟩
                          | false =>
                            have HG := Lib.hid (all_succ (p := fun m => clashAt y.tasks k m = false) HC.out (by rw [clashAt, HR.out, U.out]; rfl))
                            go_wp2_with fail
                            go_roundw
                            case rel => exact ⟨j + 1, by omega, by go_num, HG.out, by rw [← taken_runs HJ.out HR.out P0.out P5.out]; exact HSET.out _, HKJ.out.setCell (List.mem_cons_self ..) _, HXJ.out.setCell HB3.out _⟩
                            case measure => simp [intOf]; omega
                        · obtain rfl : j = (nth y.tasks k).nodes.length := by omega
                          have HG := Lib.hid (all_succ (p := fun m => taskOkY y m = true) HA.out (task_ok T.out (fun m hm => HC.out m hm)))
                          clear hxj
                          go_wp2_with fail
                          go_roundw
                          case rel => exact ⟨k + 1, by omega, by go_num, HG.out, by rw [← taken_end hlt]; exact HBJ.out, HXJ.out⟩
                          case measure => simp [intOf]; omega
                      · have HR : Hid (runsB (nth y.tasks k) = false) := Lib.hid (by simp [runsB, hs])
                        have HG := Lib.hid (all_succ (p := fun m => taskOkY y m = true) HA.out (task_ok T.out (fun m hm => by rw [clashAt, HR.out]; rfl)))
                        have HBE : Hid (Blk wr B3 4 (boolsN (usedBy (y.tasks.take (k + 1))))) := Lib.hid (by have h := HBJ.out; rwa [show takenAt y.tasks k j = usedBy (y.tasks.take (k + 1)) from funext fun n => by rw [taken_idle n HR.out, used_idle n hlt HR.out]] at h)
                        clear hxj
                        by_cases hjt : j < (nth y.tasks k).nodes.length
                        · go_wp2_with fail
                          go_roundw
                          case rel => exact ⟨k + 1, by omega, by go_num, HG.out, HBE.out, HXJ.out⟩
                          case measure => simp [intOf]; omega
                        · go_wp2_with fail
                          go_roundw
                          case rel => exact ⟨k + 1, by omega, by go_num, HG.out, HBE.out, HXJ.out⟩
                          case measure => simp [intOf]; omega
                · have HG : Hid (∀ i, i < y.tasks.length → taskOkY y i = true) := Lib.hid (fun j hj => HA.out j (by omega))
                  replace QA := Lib.hid (QA.out.ext hx)
                  replace X := Lib.hid (X.out.trans hx)
                  have qa := QA.out.cell
                  clear hx
                  go_upto_region 17 with (go_at_call 166; (with_reducible refine (l09Labels_any (S := S) y.config.nodes _ _ (H1.out.ext X.out)).mono ?_); rintro e w9 ⟨v9, F9, rfl, o9, -, hx9⟩; obtain ⟨A9, c9, rfl, l9, m9, hk9⟩ := Rd.open_ o9.rd; unfold maxLen at m9; have HK9 := Lib.hid hk9; have O9 := Lib.hid o9.rd; have H9 := Lib.hid hx9; clear hx9 o9 hk9 qa)
                  replace X := Lib.hid (X.out.trans H9.out)
                  replace QA := Lib.hid (QA.out.ext H9.out)
                  generalize hls : labelsIn y.config.nodes = ls at *
                  have HLS := Lib.hid hls
                  clear hls
                  go_wp2_with fail
                  go_loopw [8] (fun i w' => ∃ k : Nat, k ≤ y.uses.length ∧ i = .int .i64 k ∧ (∀ j, j < k → useBad ls (nth y.uses j) = false) ∧ Ext w9 w') (fun i _ => y.uses.length - (intOf i).toNat)
                  case atStart => exact ⟨0, by omega, rfl, fun j hj => by omega, Ext.refl _⟩
                  case round =>
                    obtain ⟨i, hi1, rfl, hall, hx⟩ := hrel
                    have HU := Lib.hid hall
                    have HX6 := Lib.hid hx
                    have ya : wr.cell? ⟨B, 6, none⟩ = some (.slice A6 y.uses.length c6) := (QA.out.ext hx).cell 6
                    clear hall
                    by_cases hit : i < y.uses.length
                    · obtain ⟨b', o', cs', rfl, _, ⟨rfl, hfu⟩, hc'⟩ := HK6.out i hit
                      have hxw := X.out.trans hx
                      have z0 := Ext.some hxw (hc' 0 _ rfl)
                      have z1 := Ext.some hxw (hc' 1 _ rfl)
                      have z2 := Ext.some hxw (hc' 2 _ rfl)
                      have z3 := Ext.some hxw (hc' 3 _ rfl)
                      simp only [EUse, Nat.add_zero] at z0 z1 z2 z3
                      obtain ⟨t, ht⟩ : ∃ t, cleared ls (nth y.uses i).label = t := ⟨_, rfl⟩
                      have T := Lib.hid ht
                      have HI := Lib.hid hit
                      clear hc' hfu hx hxw ht
                      cases t with
                      | false =>
                        have HN := Lib.hid (yard_use (y := y) (by rw [HLS.out]; exact any_at hit (by rw [useBad, T.out]; rfl)))
                        go_wp2_with (go_at_call 143; (with_reducible refine (l05Cleared_is (S := fun b => b ∈ F9) ls (nth y.uses i).label _ _ (O9.out.ext HX6.out) _ T.out).mono ?_); rintro e w10 ⟨rfl, hx10⟩; have X10 := Lib.hid hx10; clear hx10 z0 z1 z2 z3 ya)
                        go_ret
                        exact ⟨ret_bool HN.out.symm, X.out.trans (HX6.out.trans X10.out)⟩
                      | true =>
                        have HG2 := Lib.hid (all_succ (p := fun j => useBad ls (nth y.uses j) = false) HU.out (by rw [useBad, T.out]; rfl))
                        go_wp2_with (go_at_call 143; (with_reducible refine (l05Cleared_is (S := fun b => b ∈ F9) ls (nth y.uses i).label _ _ (O9.out.ext HX6.out) _ T.out).mono ?_); rintro e w10 ⟨rfl, hx10⟩; have X10 := Lib.hid hx10; clear hx10 z0 z1 z2 z3 ya)
                        go_roundw
                        case rel => exact ⟨i + 1, by omega, by go_num, HG2.out, HX6.out.trans X10.out⟩
                        case measure => simp [intOf]; omega
                    · have HU2 : Hid (y.uses.any (useBad ls) = false) := Lib.hid (any_none fun j hj => HU.out j (by omega))
                      clear hx
                      go_wp2_with fail
                      clear ya
                      go_loopw [9] (fun i w' => ∃ k : Nat, k ≤ ls.length ∧ i = .int .i64 k ∧ (∀ j, j < k → overY y (nth ls j) = false) ∧ Ext w9 w') (fun i _ => ls.length - (intOf i).toNat)
                      case atStart => exact ⟨0, by omega, rfl, fun j hj => by omega, HX6.out⟩
                      case round =>
                        obtain ⟨n, hn1, rfl, hall, hx⟩ := hrel
                        have HO := Lib.hid hall
                        have HX9 := Lib.hid hx
                        clear hall
                        by_cases hnt : n < ls.length
                        · obtain ⟨b', o', cs', rfl, _, ⟨rfl, hfl⟩, hc'⟩ := HK9.out n hnt
                          have z0 := Ext.some hx (hc' 0 _ rfl)
                          have z1 := Ext.some hx (hc' 1 _ rfl)
                          simp only [ELabel, Nat.add_zero] at z0 z1
                          have y0 : wr.cell? ⟨B, 0, none⟩ = some (.slice A1 y.config.nodes.length c1) := (Lib.hid (QA.out.ext hx)).out.cell 0
                          have y1 : wr.cell? ⟨B, 1, none⟩ = some (.slice A2 y.config.pairs.length c2) := (Lib.hid (QA.out.ext hx)).out.cell 1
                          have y2 : wr.cell? ⟨B, 2, none⟩ = some (.slice A3 y.config.quotas.length c3) := (Lib.hid (QA.out.ext hx)).out.cell 2
                          have y3 : wr.cell? ⟨B, 3, none⟩ = some (.int .i64 y.config.half) := (Lib.hid (QA.out.ext hx)).out.cell 3
                          have y5 : wr.cell? ⟨B, 5, none⟩ = some (.slice A5 y.tasks.length c5) := (Lib.hid (QA.out.ext hx)).out.cell 5
                          obtain ⟨p, hp⟩ : ∃ p, liveOf y.tasks (nth ls n) = p := ⟨_, rfl⟩
                          obtain ⟨q, hq⟩ : ∃ q, quotaOf y.config (nth ls n) = q := ⟨_, rfl⟩
                          have HOV : Hid (overY y (nth ls n) = decide (q < p)) := Lib.hid (by rw [overY, hq, ← liveOf_at T4.out, hp])
                          have LP := Lib.hid hp
                          have QP := Lib.hid hq
                          have XR := Lib.hid (X.out.trans hx)
                          clear hc' hfl hx hp hq
                          by_cases hpq : q < p
                          · have HN := Lib.hid (yard_over (y := y) (by rw [HLS.out]; exact any_at hnt (by rw [HOV.out]; exact decide_eq_true hpq)))
                            go_wp2_with fail
                            refine wp_region_ext (by kernel_rfl) (by kernel_rfl) ?_
                            repeat (
                              (refine wpQuiet_step (fun K hK => ?_)
                               go_simp
                               first
                                | (refine hK _ ?_; clear hK K)
                                | (apply Exists.intro
                                   refine ⟨fun w__ hx__ => ?_, hK _ ?_⟩
                                   · have y0__ := Ext.some hx__ y0; have y1__ := Ext.some hx__ y1; have y2__ := Ext.some hx__ y2; have y3__ := Ext.some hx__ y3; have y5__ := Ext.some hx__ y5; have z0__ := Ext.some hx__ z0; have z1__ := Ext.some hx__ z1; first | exact rfl | (go_simp; done) | (go_simp; exact rfl) | (go_at_call 106; exact ext_of hx__ (specLiveOf_is (S := S) y.tasks (nth ls n) _ _ (H5.out.ext (XR.out.trans hx__)) p LP.out)) | (go_at_call 107; exact ext_of hx__ (specQuotaOf_is (S := S) y.config _ (nth ls n) _ (rel_Config HFC.out (H1.out.ext (XR.out.trans hx__)) (H2.out.ext (XR.out.trans hx__)) (H3.out.ext (XR.out.trans hx__))) q QP.out))
                                   clear hK K)))
                            refine wpQuiet_nil ?_
                            intro w1 hx1
                            have HZ := Lib.hid hx1
                            clear y0 y1 y2 y3 y5 z0 z1 hx1
                            go_wp2_with fail
                            go_ret
                            exact ⟨ret_bool HN.out.symm, XR.out.trans HZ.out⟩
                          · have HG3 := Lib.hid (all_succ (p := fun j => overY y (nth ls j) = false) HO.out (by rw [HOV.out]; exact decide_eq_false hpq))
                            go_wp2_with fail
                            refine wp_region_ext (by kernel_rfl) (by kernel_rfl) ?_
                            repeat (
                              (refine wpQuiet_step (fun K hK => ?_)
                               go_simp
                               first
                                | (refine hK _ ?_; clear hK K)
                                | (apply Exists.intro
                                   refine ⟨fun w__ hx__ => ?_, hK _ ?_⟩
                                   · have y0__ := Ext.some hx__ y0; have y1__ := Ext.some hx__ y1; have y2__ := Ext.some hx__ y2; have y3__ := Ext.some hx__ y3; have y5__ := Ext.some hx__ y5; have z0__ := Ext.some hx__ z0; have z1__ := Ext.some hx__ z1; first | exact rfl | (go_simp; done) | (go_simp; exact rfl) | (go_at_call 106; exact ext_of hx__ (specLiveOf_is (S := S) y.tasks (nth ls n) _ _ (H5.out.ext (XR.out.trans hx__)) p LP.out)) | (go_at_call 107; exact ext_of hx__ (specQuotaOf_is (S := S) y.config _ (nth ls n) _ (rel_Config HFC.out (H1.out.ext (XR.out.trans hx__)) (H2.out.ext (XR.out.trans hx__)) (H3.out.ext (XR.out.trans hx__))) q QP.out))
                                   clear hK K)))
                            refine wpQuiet_nil ?_
                            intro w1 hx1
                            have HZ := Lib.hid hx1
                            clear y0 y1 y2 y3 y5 z0 z1 hx1
                            go_wp2_with fail
                            go_roundw
                            case rel => exact ⟨n + 1, by omega, by go_num, HG3.out, HX9.out.trans HZ.out⟩
                            case measure => simp [intOf]; omega
                        · have HN := Lib.hid (yard_of HH.out HG.out (by rw [HLS.out]; exact any_none fun j hj => HO.out j (by omega)) (by rw [HLS.out]; exact HU2.out))
                          clear hx
                          go_wp2_with fail
                          go_ret
                          exact ⟨ret_bool HN.out.symm, X.out.trans HX9.out⟩
theorem specYardRight_is {S : Nat → Prop} (y : Yard) (cs : List Value) (w : World) (h : EYard.rel S w cs y) (r : Bool) (hr : yardRight y = r) :
    Calls Tryz.prog 82 #[.agg cs.toArray] w fun e w' => e = .returned (.bool r) ∧ Ext w w' := by
  subst hr
  exact specYardRight_any y cs w h
end Go.Proofs.YtngldifgcgblpaaGreat
