/- What a new mail is, in plain Lean; the walks of MailNew, the program's and the reference's. Printed by wip/mailn.py. The law FnExactMailNew: the program's MailNew and the reference's are equal; its row. The conditions: none. Printed by wip/lawn.py. -/
import Derived.Test.YtdhcbbbmajjehaaConfW
import Derived.Test.YtdhcbbbmajjehaaGTo
import Derived.Test.YtdhcbbbmajjehaaGOwn
import Derived.Test.YtdhcbbbmajjehaaKMailNew
import Derived.Test.YtdhcbbbmajjehaaGToO
import Derived.Test.YtdhcbbbmajjehaaGMarkS
import Derived.Test.YtdhcbbbmajjehaaCounts
import Derived.Test.YtdhcbbbmajjehaaGHeld
import Derived.Test.YtdhcbbbmajjehaaGEq
import Derived.Test.YtdhcbbbmajjehaaGSz
import Derived.Test.YtdhcbbbmajjehaaGOpen
import Derived.Deep.RegionHeld3
import Derived.ChangeMaps5
namespace Go.Proofs.Ytdhcbbbmajjehaa
open Go.RowKit Go.ChangeShapes
attribute [local irreducible] wpQuiet

def newBox : Box := ⟨[], [], []⟩
def mailNew (c : Config) : Mail := if configRight c = true then ⟨List.replicate c.pairs.length newBox⟩ else ⟨[]⟩
theorem right_pairs {c : Config} (h : configRight c = true) : c.pairs.length ≤ 4 := by
  simp only [configRight, pairsOk, Bool.and_eq_true, decide_eq_true_eq] at h
  exact h.2.1.2.1
theorem nth_replicate {α : Type} [Inhabited α] (n k : Nat) (x : α) (h : k < n) : nth (List.replicate n x) k = x := by
  rw [nth_eq (by simpa using h)]
  simp
theorem flatten_nils {α : Type} (n : Nat) : (List.replicate n ([] : List α)).flatten = [] := by
  induction n with
  | zero => rfl
  | succ n ih => rw [List.replicate_succ, List.flatten_cons, ih]; rfl
theorem made3 (z : Value) (n k : Nat) (hk : k < n) : (madeCells #[z, z, z] n)[k]? = some z := by
  have hm : k % 3 < 3 := Nat.mod_lt _ (by decide)
  have : ∀ j, j < 3 → (#[z, z, z] : Array Value)[j]! = z := by
    intro j hj
    rcases j with _ | _ | _ | j
    · rfl
    · rfl
    · rfl
    · omega
  simp [madeCells, hk]
  first | exact this _ hm | (have h := this _ hm; simpa using h)
theorem own_boxes (w : World) (n : Nat) (hn : n ≤ 1048576) :
    OwS OBox 183 (w.alloc (.cells (madeCells #[.slice none 0 0, .slice none 0 0, .slice none 0 0] (n * 3)) 183)) (.slice (some ⟨w.heap.size, 0, none⟩) n n) (List.replicate n newBox) [w.heap.size] := by
  have hb := Blk.new w 183 (madeCells #[.slice none 0 0, .slice none 0 0, .slice none 0 0] (n * 3))
  refine .inr ⟨w.heap.size, n, _, List.replicate n [], by simp, hb, by simp, by unfold maxLen; omega, by rw [size_madeCells]; rfl, by simp, by rw [flatten_nils], by simp, fun k hk => ?_⟩
  rw [List.length_replicate] at hk
  rw [nth_replicate n k _ hk, nth_replicate n k _ hk]
  refine ⟨[.slice none 0 0, .slice none 0 0, .slice none 0 0], ⟨_, _, _, [], [], [], rfl, trivial, OwS.nil _, OwS.nil _, OwS.nil _, rfl, List.nodup_nil⟩, fun j v hj => ?_⟩
  have hj3 : j < 3 := by
    rcases Nat.lt_or_ge j 3 with h | h
    · exact h
    · rw [List.getElem?_eq_none (by simpa using h)] at hj; cases hj
  have hv : v = .slice none 0 0 := by
    rcases j with _ | _ | _ | j
    · exact (Option.some.inj hj).symm
    · exact (Option.some.inj hj).symm
    · exact (Option.some.inj hj).symm
    · omega
  rw [hb.cell, made3 _ _ _ (by show k * 3 + j < n * 3; omega), hv]
def RetM (c : Config) (w : World) (e : Ending) (w' : World) : Prop := ∃ v F, e = .returned (.agg #[v]) ∧ OwS OBox 183 w' v (mailNew c).boxes F ∧ (∀ b ∈ F, w.heap.size ≤ b) ∧ Ext w w'

set_option maxHeartbeats 8000000 in
set_option maxRecDepth 100000 in
theorem mailNew_any {S : Nat → Prop} (c : Config) (cs : List Value) (w : World) (h : EConfig.rel S w cs c) :
    Calls Try.prog 69 #[.agg cs.toArray] w (RetM c w) := by
  obtain ⟨v1, v2, v3, rfl, hf, h1, h2, h3⟩ := h
  obtain ⟨A1, c1, rfl, -⟩ := h1.form
  obtain ⟨A2, c2, rfl, -⟩ := h2.form
  obtain ⟨A3, c3, rfl, -⟩ := h3.form
  have HF := Lib.hid hf
  have H1 := Lib.hid h1
  have H2 := Lib.hid h2
  have H3 := Lib.hid h3
  clear hf h1 h2 h3
  simp only [cellsConfig]
  obtain ⟨t, ht⟩ : ∃ t, configRight c = t := ⟨_, rfl⟩
  have T := Lib.hid ht
  clear ht
  go_enter Try.func69, Try.ntmps69
  go_upto_region 1 with (fail)
  obtain ⟨W, R, hW, hB, hRP, hx0, a0, b0⟩ : ∃ W R, W = (w.alloc (.cells #[.slice A1 c.nodes.length c1, .slice A2 c.pairs.length c2, .slice A3 c.quotas.length c3, .int .i64 c.half] 88)).alloc (.cells #[.slice none 0 0] 103) ∧ w.heap.size + 1 = R ∧ w.heap.size < R ∧ Ext w W ∧ Blk W w.heap.size 88 #[.slice A1 c.nodes.length c1, .slice A2 c.pairs.length c2, .slice A3 c.quotas.length c3, .int .i64 c.half] ∧ Blk W R 103 #[.slice none 0 0] := ⟨_, _, rfl, rfl, Nat.lt_succ_self _, (((Ext.refl w).alloc _).alloc _), (Blk.new w _ _).ext ((Ext.refl _).alloc _), by have h := Blk.new (w.alloc (.cells #[.slice A1 c.nodes.length c1, .slice A2 c.pairs.length c2, .slice A3 c.quotas.length c3, .int .i64 c.half] 88)) 103 #[.slice none 0 0]; simpa using h⟩
  rw [← hW]
  try rw [hB]
  have HRB : Hid (w.heap.size ≤ R) := Lib.hid (by omega)
  have QA := Lib.hid a0
  have QM := Lib.hid b0
  have X := Lib.hid hx0
  clear hW hB hRP hx0 a0 b0
  have ac := QA.out.cell
  cases t with
  | false =>
    have HE : Hid (mailNew c = ⟨[]⟩) := Lib.hid (by rw [mailNew, T.out]; rfl)
    go_upto_region 2 with (go_at_call 155; (with_reducible refine (configRight_is (S := S) c [.slice A1 c.nodes.length c1, .slice A2 c.pairs.length c2, .slice A3 c.quotas.length c3, .int .i64 c.half] _ (rel_Config HF.out (H1.out.ext X.out) (H2.out.ext X.out) (H3.out.ext X.out)) _ T.out).mono ?_); rintro e w7 ⟨rfl, hx7⟩; have X7 := Lib.hid hx7; clear hx7 ac)
    have R7 := Lib.hid (QM.out.ext X7.out)
    have Y7 := Lib.hid (X.out.trans X7.out)
    go_wp2_with (refine wpList_store_mid rfl 103 _ _ rfl R 0 #[.slice none 0 0] rfl rfl (Blk.there (t := 103) (cs := #[.slice none 0 0]) R7.out) (by kernel_rfl) (all_oneCell_toArray (cs := [.slice none 0 0]) (by simp [Value.oneCell'])) ?_)
    exact bodyPost_ret (v := .agg #[.slice none 0 0]) (results_blk Try.results69 rfl (Blk.setAll (t := 103) (cs := #[.slice none 0 0]) (vs := #[.slice none 0 0]) R7.out rfl) Try.underlying103 rfl (by kernel_rfl)) rfl ⟨_, [], rfl, by rw [HE.out]; exact OwS.nil _, fun b hb => absurd hb (by simp), setCells_ext HRB.out _ _ _ Y7.out⟩
  | true =>
    have HE : Hid (mailNew c = ⟨List.replicate c.pairs.length newBox⟩) := Lib.hid (by rw [mailNew, if_pos T.out])
    have HN : Hid (c.pairs.length ≤ 1048576) := Lib.hid (Nat.le_trans (right_pairs T.out) (by decide))
    go_upto_region 3 with (go_at_call 155; (with_reducible refine (configRight_is (S := S) c [.slice A1 c.nodes.length c1, .slice A2 c.pairs.length c2, .slice A3 c.quotas.length c3, .int .i64 c.half] _ (rel_Config HF.out (H1.out.ext X.out) (H2.out.ext X.out) (H3.out.ext X.out)) _ T.out).mono ?_); rintro e w7 ⟨rfl, hx7⟩; have X7 := Lib.hid hx7; clear hx7 ac)
    have R7 := Lib.hid (QM.out.ext X7.out)
    have Y7 := Lib.hid (X.out.trans X7.out)
    have a1 := (QA.out.ext X7.out).cell 1
    have hmk := mk_BoxS c.pairs.length HN.out
    obtain ⟨W8, B8, hW8, hB8, hx8, o8⟩ : ∃ W B, W = w7.alloc (.cells (madeCells #[.slice none 0 0, .slice none 0 0, .slice none 0 0] (c.pairs.length * 3)) 183) ∧ B = w7.heap.size ∧ Ext w7 W ∧ OwS OBox 183 W (.slice (some ⟨B, 0, none⟩) c.pairs.length c.pairs.length) (List.replicate c.pairs.length newBox) [B] := ⟨_, _, rfl, rfl, (Ext.refl _).alloc _, own_boxes _ _ HN.out⟩
    have hmk7 := hmk w7
    rw [← hW8, ← hB8] at hmk7
    have O8 := Lib.hid o8
    have X8 := Lib.hid (Y7.out.trans hx8)
    have R8 := Lib.hid (R7.out.ext hx8)
    have HB8 : Hid (w.heap.size ≤ B8) := Lib.hid (by rw [hB8]; exact Y7.out.size)
    have HNE : Hid (B8 ≠ R) := Lib.hid (by have := R7.out.lt; omega)
    clear hmk hW8 hB8 hx8 o8
    go_wp2_with (refine wpList_store_mid rfl 103 _ _ rfl R 0 #[.slice (some ⟨B8, 0, none⟩) c.pairs.length c.pairs.length] rfl rfl (Blk.there (t := 103) (cs := #[.slice none 0 0]) R8.out) (by kernel_rfl) (all_oneCell_toArray (cs := [.slice (some ⟨B8, 0, none⟩) c.pairs.length c.pairs.length]) (by simp [Value.oneCell'])) ?_)
    exact bodyPost_ret (v := .agg #[.slice (some ⟨B8, 0, none⟩) c.pairs.length c.pairs.length]) (results_blk Try.results69 rfl (Blk.setAll (t := 103) (cs := #[.slice none 0 0]) (vs := #[.slice (some ⟨B8, 0, none⟩) c.pairs.length c.pairs.length]) R8.out rfl) Try.underlying103 rfl (by kernel_rfl)) rfl ⟨_, [B8], rfl, by rw [HE.out]; exact O8.out.kept (G := [R]) (Kept.setCells (by simp) _ _ _ (Kept.refl _ _)) (fun b hb => by simp at hb ⊢; rw [hb]; exact HNE.out), fun b hb => by simp at hb; rw [hb]; exact HB8.out, setCells_ext HRB.out _ _ _ X8.out⟩

set_option maxHeartbeats 8000000 in
set_option maxRecDepth 100000 in
theorem specMailNew_any {S : Nat → Prop} (c : Config) (cs : List Value) (w : World) (h : EConfig.rel S w cs c) :
    Calls Try.prog 68 #[.agg cs.toArray] w (RetM c w) := by
  obtain ⟨v1, v2, v3, rfl, hf, h1, h2, h3⟩ := h
  obtain ⟨A1, c1, rfl, -⟩ := h1.form
  obtain ⟨A2, c2, rfl, -⟩ := h2.form
  obtain ⟨A3, c3, rfl, -⟩ := h3.form
  have HF := Lib.hid hf
  have H1 := Lib.hid h1
  have H2 := Lib.hid h2
  have H3 := Lib.hid h3
  clear hf h1 h2 h3
  simp only [cellsConfig]
  obtain ⟨t, ht⟩ : ∃ t, configRight c = t := ⟨_, rfl⟩
  have T := Lib.hid ht
  clear ht
  go_enter Try.func68, Try.ntmps68
  go_upto_region 1 with (fail)
  obtain ⟨W, R, hW, hB, hRP, hx0, a0, b0⟩ : ∃ W R, W = (w.alloc (.cells #[.slice A1 c.nodes.length c1, .slice A2 c.pairs.length c2, .slice A3 c.quotas.length c3, .int .i64 c.half] 88)).alloc (.cells #[.slice none 0 0] 103) ∧ w.heap.size + 1 = R ∧ w.heap.size < R ∧ Ext w W ∧ Blk W w.heap.size 88 #[.slice A1 c.nodes.length c1, .slice A2 c.pairs.length c2, .slice A3 c.quotas.length c3, .int .i64 c.half] ∧ Blk W R 103 #[.slice none 0 0] := ⟨_, _, rfl, rfl, Nat.lt_succ_self _, (((Ext.refl w).alloc _).alloc _), (Blk.new w _ _).ext ((Ext.refl _).alloc _), by have h := Blk.new (w.alloc (.cells #[.slice A1 c.nodes.length c1, .slice A2 c.pairs.length c2, .slice A3 c.quotas.length c3, .int .i64 c.half] 88)) 103 #[.slice none 0 0]; simpa using h⟩
  rw [← hW]
  try rw [hB]
  have HRB : Hid (w.heap.size ≤ R) := Lib.hid (by omega)
  have QA := Lib.hid a0
  have QM := Lib.hid b0
  have X := Lib.hid hx0
  clear hW hB hRP hx0 a0 b0
  have ac := QA.out.cell
  cases t with
  | false =>
    have HE : Hid (mailNew c = ⟨[]⟩) := Lib.hid (by rw [mailNew, T.out]; rfl)
    go_upto_region 2 with (go_at_call 150; (with_reducible refine (specConfigRight_is (S := S) c [.slice A1 c.nodes.length c1, .slice A2 c.pairs.length c2, .slice A3 c.quotas.length c3, .int .i64 c.half] _ (rel_Config HF.out (H1.out.ext X.out) (H2.out.ext X.out) (H3.out.ext X.out)) _ T.out).mono ?_); rintro e w7 ⟨rfl, hx7⟩; have X7 := Lib.hid hx7; clear hx7 ac)
    have R7 := Lib.hid (QM.out.ext X7.out)
    have Y7 := Lib.hid (X.out.trans X7.out)
    go_wp2_with (refine wpList_store_mid rfl 103 _ _ rfl R 0 #[.slice none 0 0] rfl rfl (Blk.there (t := 103) (cs := #[.slice none 0 0]) R7.out) (by kernel_rfl) (all_oneCell_toArray (cs := [.slice none 0 0]) (by simp [Value.oneCell'])) ?_)
    exact bodyPost_ret (v := .agg #[.slice none 0 0]) (results_blk Try.results68 rfl (Blk.setAll (t := 103) (cs := #[.slice none 0 0]) (vs := #[.slice none 0 0]) R7.out rfl) Try.underlying103 rfl (by kernel_rfl)) rfl ⟨_, [], rfl, by rw [HE.out]; exact OwS.nil _, fun b hb => absurd hb (by simp), setCells_ext HRB.out _ _ _ Y7.out⟩
  | true =>
    have HE : Hid (mailNew c = ⟨List.replicate c.pairs.length newBox⟩) := Lib.hid (by rw [mailNew, if_pos T.out])
    have HN : Hid (c.pairs.length ≤ 1048576) := Lib.hid (Nat.le_trans (right_pairs T.out) (by decide))
    go_upto_region 3 with (go_at_call 150; (with_reducible refine (specConfigRight_is (S := S) c [.slice A1 c.nodes.length c1, .slice A2 c.pairs.length c2, .slice A3 c.quotas.length c3, .int .i64 c.half] _ (rel_Config HF.out (H1.out.ext X.out) (H2.out.ext X.out) (H3.out.ext X.out)) _ T.out).mono ?_); rintro e w7 ⟨rfl, hx7⟩; have X7 := Lib.hid hx7; clear hx7 ac)
    have R7 := Lib.hid (QM.out.ext X7.out)
    have Y7 := Lib.hid (X.out.trans X7.out)
    have a1 := (QA.out.ext X7.out).cell 1
    have hmk := mk_BoxS c.pairs.length HN.out
    obtain ⟨W8, B8, hW8, hB8, hx8, o8⟩ : ∃ W B, W = w7.alloc (.cells (madeCells #[.slice none 0 0, .slice none 0 0, .slice none 0 0] (c.pairs.length * 3)) 183) ∧ B = w7.heap.size ∧ Ext w7 W ∧ OwS OBox 183 W (.slice (some ⟨B, 0, none⟩) c.pairs.length c.pairs.length) (List.replicate c.pairs.length newBox) [B] := ⟨_, _, rfl, rfl, (Ext.refl _).alloc _, own_boxes _ _ HN.out⟩
    have hmk7 := hmk w7
    rw [← hW8, ← hB8] at hmk7
    have O8 := Lib.hid o8
    have X8 := Lib.hid (Y7.out.trans hx8)
    have R8 := Lib.hid (R7.out.ext hx8)
    have HB8 : Hid (w.heap.size ≤ B8) := Lib.hid (by rw [hB8]; exact Y7.out.size)
    have HNE : Hid (B8 ≠ R) := Lib.hid (by have := R7.out.lt; omega)
    clear hmk hW8 hB8 hx8 o8
    go_wp2_with (refine wpList_store_mid rfl 103 _ _ rfl R 0 #[.slice (some ⟨B8, 0, none⟩) c.pairs.length c.pairs.length] rfl rfl (Blk.there (t := 103) (cs := #[.slice none 0 0]) R8.out) (by kernel_rfl) (all_oneCell_toArray (cs := [.slice (some ⟨B8, 0, none⟩) c.pairs.length c.pairs.length]) (by simp [Value.oneCell'])) ?_)
    exact bodyPost_ret (v := .agg #[.slice (some ⟨B8, 0, none⟩) c.pairs.length c.pairs.length]) (results_blk Try.results68 rfl (Blk.setAll (t := 103) (cs := #[.slice none 0 0]) (vs := #[.slice (some ⟨B8, 0, none⟩) c.pairs.length c.pairs.length]) R8.out rfl) Try.underlying103 rfl (by kernel_rfl)) rfl ⟨_, [B8], rfl, by rw [HE.out]; exact O8.out.kept (G := [R]) (Kept.setCells (by simp) _ _ _ (Kept.refl _ _)) (fun b hb => by simp at hb ⊢; rw [hb]; exact HNE.out), fun b hb => by simp at hb; rw [hb]; exact HB8.out, setCells_ext HRB.out _ _ _ X8.out⟩
end Go.Proofs.Ytdhcbbbmajjehaa

namespace Go.Proofs.Ytdhcbbbmajjehaa
open Go.ChangeShapes Go.WideShapes Go.ChangeAt Go.RowKit Go.ChangeMaps
attribute [local irreducible] wpQuiet

theorem cnt3_room {c : Config} (h : SmConfig c) : 1 + ((cnt3 c : Nat) : Int) ≤ 1125899906842624 := by
  obtain ⟨h1, h2, h3⟩ := h
  have a1 := cnt_all (n := cntL cntLabel) (c := 1048576 * 2) (l := c.nodes) fun l hl => by
    have := cnt_all (n := cntLabel) (c := 2) (l := l) fun _ _ => Nat.le_refl _
    have := (h1.2 l hl).1
    omega
  have a2 := cnt_all (n := cntPair) (c := 5) (l := c.pairs) fun _ _ => Nat.le_refl _
  have a3 := cnt_all (n := cntQuota) (c := 3) (l := c.quotas) fun _ _ => Nat.le_refl _
  have b1 := h1.1
  have b2 := h2.1
  have b3 := h3.1
  unfold cnt3
  omega
theorem markMail_is (x : Mail) (v1 : Value) (F : List Nat) (q : Int) (w : World) (h : OwS OBox 183 w v1 (x.boxes) F) (h0 : 0 ≤ q) (h1 : q + cntL cntBox (x.boxes) ≤ 1125899906842624) :
    Calls Try.prog 70 #[.agg #[v1], .int .i64 q] w fun e w' => e = .returned (.int .i64 (q + cntL cntBox (x.boxes))) ∧ OwS OBox 183 w' v1 (markL mkBox cntBox q (x.boxes)) F ∧ Kept F w w' := markMail_any x v1 F q w h h0 h1
theorem heldMail_is {S : Nat → Prop} (x : Mail) (v1 : Value) (q : Int) (w : World) (h : Rd EBox S w v1 (markL mkBox cntBox q (x.boxes))) (h0 : 0 ≤ q) (h1 : q + cntL cntBox (x.boxes) ≤ 1125899906842624) :
    Calls Try.prog 71 #[.agg #[v1], .int .i64 q] w fun e w' => e = .returned (.int .i64 (q + cntL cntBox (x.boxes))) ∧ Ext w w' := heldMail_any x v1 q w h h0 h1
theorem cnt_mailNew (c : Config) : cntL cntBox (mailNew c).boxes ≤ 0 := by
  unfold mailNew
  split
  · have h := cnt_all (n := cntBox) (c := 0) (l := List.replicate c.pairs.length newBox) fun x hx => by
      rw [List.eq_of_mem_replicate hx]; exact Nat.le_refl _
    omega
  · exact Nat.le_refl _

set_option maxHeartbeats 64000000 in
set_option maxRecDepth 100000 in
theorem fnExactMailNew_walk {S : Nat → Prop} (c : Config) (csc : List Value) (w : World) (hc : EConfig.rel S w csc c) :
    Calls Try.prog 8 #[.agg csc.toArray] w fun e w' => e = .returned (.bool true) ∧ Ext w w' := by
  have h0 : (0 : Int) ≤ 1048576 := by decide
  obtain ⟨v1, v2, v3, rfl, hf, h1, h2, h3⟩ := hc
  obtain ⟨A1, c1, rfl, -⟩ := h1.form
  obtain ⟨A2, c2, rfl, -⟩ := h2.form
  obtain ⟨A3, c3, rfl, -⟩ := h3.form
  have FC := Lib.hid hf
  have R1 := Lib.hid h1
  have R2 := Lib.hid h2
  have R3 := Lib.hid h3
  clear hf h1 h2 h3
  simp only [cellsConfig]
  have BNG0 : 1 + ((cntL cntBox (mailNew c).boxes : Nat) : Int) ≤ 1125899906842624 := by have := cnt_mailNew c; omega
  obtain ⟨m, hm⟩ : ∃ m, mailNew c = m := ⟨_, rfl⟩
  rw [hm] at BNG0
  have BNG := Lib.hid BNG0
  have HM := Lib.hid hm
  have FM : Hid (FitMail m) := Lib.hid trivial
  clear BNG0 hm
  go_enter Try.func8, Try.ntmps8
  go_upto_region 1 with (fail)
  obtain ⟨W0, B, hW, hB, hx0, b0⟩ : ∃ W B, W = w.alloc (.cells #[.slice A1 c.nodes.length c1, .slice A2 c.pairs.length c2, .slice A3 c.quotas.length c3, .int .i64 c.half] 80) ∧ B = w.heap.size ∧ Ext w W ∧ Blk W B 80 #[.slice A1 c.nodes.length c1, .slice A2 c.pairs.length c2, .slice A3 c.quotas.length c3, .int .i64 c.half] := ⟨_, _, rfl, rfl, (Ext.refl _).alloc _, Blk.new _ _ _⟩
  rw [← hW, ← hB]
  have QA := Lib.hid b0
  have X := Lib.hid hx0
  clear hW hB hx0 b0
  have ac := QA.out.cell
  by_cases hs : szConfig c 1048576 < 0
  · go_wp2_with fail
    refine (szConfig_any c _ 1048576 _ (rel_Config FC.out (R1.out.ext X.out) (R2.out.ext X.out) (R3.out.ext X.out)) h0 (Int.le_refl _)).mono ?_
    rintro e w1 ⟨rfl, hx⟩
    have X1 := Lib.hid (X.out.trans hx)
    clear hx ac
    go_wp2_with fail
    go_ret
    exact ⟨rfl, X1.out⟩
  have hp : 0 ≤ szConfig c 1048576 := by omega
  have M := Lib.hid (small_szConfig h0 (Int.le_refl _) hp)
  clear hs
  go_wp2_with fail
  refine (szConfig_any c _ 1048576 _ (rel_Config FC.out (R1.out.ext X.out) (R2.out.ext X.out) (R3.out.ext X.out)) h0 (Int.le_refl _)).mono ?_
  rintro e w1 ⟨rfl, hx⟩
  generalize szConfig c 1048576 = q at *
  replace QA := Lib.hid (QA.out.ext hx)
  replace X := Lib.hid (X.out.trans hx)
  clear hx ac
  have ac := QA.out.cell
  go_upto_region 6 with (first | (go_at_call 55; (with_reducible refine (toConfig_any (S := S) c _ _ (rel_Config FC.out (R1.out.ext X.out) (R2.out.ext X.out) (R3.out.ext X.out)) M.out).mono ?_); rintro e wa ⟨_, rfl, ⟨u1, u2, u3, rfl, ff, r1, r2, r3⟩, hxa⟩; clear ff; simp only [cellsConfig]; obtain ⟨D1, d1, rfl, -⟩ := Rd.form r1; obtain ⟨D2, d2, rfl, -⟩ := Rd.form r2; obtain ⟨D3, d3, rfl, -⟩ := Rd.form r3; have U1 := Lib.hid r1; have U2 := Lib.hid r2; have U3 := Lib.hid r3; clear r1 r2 r3) | (go_at_call 68; (with_reducible refine (specMailNew_any c _ _ (rel_Config FC.out U1.out U2.out U3.out)).mono ?_); rintro e w2 ⟨vS, FS, rfl, oS, gS, hx2⟩; rw [HM.out] at oS; obtain ⟨AS, cS, rfl, -⟩ := oS.form; have OS := Lib.hid oS; have GS : Hid (∀ b ∈ FS, w1.heap.size ≤ b) := Lib.hid (fun b hb => Nat.le_trans (Ext.size hxa) (gS b hb)); clear oS gS))
  clear ac U1 U2 U3
  have XN := hxa.trans hx2
  clear hxa hx2
  replace QA := Lib.hid (QA.out.ext XN)
  replace X := Lib.hid (X.out.trans XN)
  clear XN
  obtain ⟨WS, BS, hW, hB, hx4, bx⟩ : ∃ W B, W = w2.alloc (.cells #[.slice AS m.boxes.length cS] 103) ∧ B = w2.heap.size ∧ Ext w2 W ∧ Blk W B 103 #[.slice AS m.boxes.length cS] := ⟨_, _, rfl, rfl, (Ext.refl _).alloc _, Blk.new _ _ _⟩
  rw [← hW, ← hB]
  have QS := Lib.hid bx
  have ES : Hid (BS = w2.heap.size) := Lib.hid hB
  have XN := hx4
  clear hW hB hx4 bx
  replace QA := Lib.hid (QA.out.ext XN)
  replace X := Lib.hid (X.out.trans XN)
  replace OS := Lib.hid (OS.out.ext XN)
  clear XN
  have ac := QA.out.cell
  go_upto_region 7 with (go_at_call 55; (with_reducible refine (toConfig_own (S := S) c _ _ (rel_Config FC.out (R1.out.ext X.out) (R2.out.ext X.out) (R3.out.ext X.out)) M.out).mono ?_); rintro e w3 ⟨csx, FX, rfl, ⟨y1, y2, y3, F1, F2, F3, rfl, fx, o1, o2, o3, hF, hn⟩, gX, hx⟩; obtain ⟨E1, e1, rfl, -⟩ := o1.form; obtain ⟨E2, e2, rfl, -⟩ := o2.form; obtain ⟨E3, e3, rfl, -⟩ := o3.form; have OX : Hid (OConfig.own w3 [.slice E1 c.nodes.length e1, .slice E2 c.pairs.length e2, .slice E3 c.quotas.length e3, .int .i64 c.half] c FX) := Lib.hid ⟨_, _, _, F1, F2, F3, rfl, fx, o1, o2, o3, hF, hn⟩; have GX := Lib.hid gX; have H3 := Lib.hid hx; clear fx o1 o2 o3 hF hn gX hx; simp only [cellsConfig])
  have DSX : Hid (∀ b ∈ FS, b ∉ FX) := Lib.hid (fun b h1 h2 => absurd (OS.out.lt b h1) (Nat.not_lt.2 (GX.out b h2)))
  have NAX : Hid (B ∉ FX) := Lib.hid (fun hb => absurd QA.out.lt (Nat.not_lt.2 (GX.out _ hb)))
  have NSX : Hid (BS ∉ FX) := Lib.hid (fun hb => absurd QS.out.lt (Nat.not_lt.2 (GX.out _ hb)))
  have GXw : Hid (∀ b ∈ FX, w.heap.size ≤ b) := Lib.hid (fun b hb => Nat.le_trans X.out.size (GX.out b hb))
  have XN := H3.out
  clear ac H3
  replace QA := Lib.hid (QA.out.ext XN)
  replace QS := Lib.hid (QS.out.ext XN)
  replace X := Lib.hid (X.out.trans XN)
  replace OS := Lib.hid (OS.out.ext XN)
  clear XN
  obtain ⟨WX, BX, hW, hB, hx4, bx⟩ : ∃ W B, W = w3.alloc (.cells #[.slice E1 c.nodes.length e1, .slice E2 c.pairs.length e2, .slice E3 c.quotas.length e3, .int .i64 c.half] 88) ∧ B = w3.heap.size ∧ Ext w3 W ∧ Blk W B 88 #[.slice E1 c.nodes.length e1, .slice E2 c.pairs.length e2, .slice E3 c.quotas.length e3, .int .i64 c.half] := ⟨_, _, rfl, rfl, (Ext.refl _).alloc _, Blk.new _ _ _⟩
  rw [← hW, ← hB]
  have QX := Lib.hid bx
  have EX : Hid (BX = w3.heap.size) := Lib.hid hB
  have XN := hx4
  clear hW hB hx4 bx
  replace QA := Lib.hid (QA.out.ext XN)
  replace QS := Lib.hid (QS.out.ext XN)
  replace X := Lib.hid (X.out.trans XN)
  replace OS := Lib.hid (OS.out.ext XN)
  replace OX := Lib.hid (ownx OX.out XN)
  clear XN
  have xc := QX.out.cell
  go_upto_region 8 with ((go_at_call 69; (with_reducible refine (mailNew_any (S := fun b => b ∈ FX) c _ _ (OConfig.rel OX.out)).mono ?_); rintro e w5 ⟨vG, FG, rfl, oG, gG, hx5⟩; rw [HM.out] at oG; obtain ⟨AG, cG, rfl, -⟩ := oG.form; have OG := Lib.hid oG; have GG : Hid (∀ b ∈ FG, WX.heap.size ≤ b) := Lib.hid (gG); clear oG gG))
  have DGX : Hid (∀ b ∈ FG, b ∉ FX) := Lib.hid (fun b h1 h2 => absurd (OConfig.lt OX.out b h2) (Nat.not_lt.2 (GG.out b h1)))
  have DSG : Hid (∀ b ∈ FS, b ∉ FG) := Lib.hid (fun b h1 h2 => absurd (OS.out.lt b h1) (Nat.not_lt.2 (GG.out b h2)))
  have NAG : Hid (B ∉ FG) := Lib.hid (fun hb => absurd QA.out.lt (Nat.not_lt.2 (GG.out _ hb)))
  have NSG : Hid (BS ∉ FG) := Lib.hid (fun hb => absurd QS.out.lt (Nat.not_lt.2 (GG.out _ hb)))
  have GGw : Hid (∀ b ∈ FG, w.heap.size ≤ b) := Lib.hid (fun b hb => Nat.le_trans X.out.size (GG.out b hb))
  have XN := hx5
  clear xc hx5
  replace QA := Lib.hid (QA.out.ext XN)
  replace QS := Lib.hid (QS.out.ext XN)
  replace QX := Lib.hid (QX.out.ext XN)
  replace X := Lib.hid (X.out.trans XN)
  replace OS := Lib.hid (OS.out.ext XN)
  replace OX := Lib.hid (ownx OX.out XN)
  clear XN
  have NGX : Hid (w5.heap.size ∉ FX) := Lib.hid (fun hb => absurd (OConfig.lt OX.out _ hb) (Nat.lt_irrefl _))
  have NGG : Hid (w5.heap.size ∉ FG) := Lib.hid (fun hb => absurd (OG.out.lt _ hb) (Nat.lt_irrefl _))
  obtain ⟨WG, BG, hW, hB, hx4, bx⟩ : ∃ W B, W = w5.alloc (.cells #[.slice AG m.boxes.length cG] 103) ∧ B = w5.heap.size ∧ Ext w5 W ∧ Blk W B 103 #[.slice AG m.boxes.length cG] := ⟨_, _, rfl, rfl, (Ext.refl _).alloc _, Blk.new _ _ _⟩
  rw [← hW, ← hB]
  have QG := Lib.hid bx
  have EG : Hid (BG = w5.heap.size) := Lib.hid hB
  have XN := hx4
  clear hW hB hx4 bx
  replace QA := Lib.hid (QA.out.ext XN)
  replace QS := Lib.hid (QS.out.ext XN)
  replace QX := Lib.hid (QX.out.ext XN)
  replace X := Lib.hid (X.out.trans XN)
  replace OS := Lib.hid (OS.out.ext XN)
  replace OX := Lib.hid (ownx OX.out XN)
  replace OG := Lib.hid (OG.out.ext XN)
  clear XN
  rw [← EG.out] at NGX NGG
  have sc := QS.out.cell
  have gc := QG.out.cell
  go_upto_region 10 with (go_at_call 67; (with_reducible refine (eqMail_any m m _ _ _ (rel_Mail FM.out OG.out.rd) (rel_Mail FM.out OS.out.rd)).mono ?_); rintro e w6 ⟨rfl, hx⟩; have H := Lib.hid hx; clear hx)
  have XN := H.out
  clear sc gc H
  replace QA := Lib.hid (QA.out.ext XN)
  replace QS := Lib.hid (QS.out.ext XN)
  replace QX := Lib.hid (QX.out.ext XN)
  replace QG := Lib.hid (QG.out.ext XN)
  replace X := Lib.hid (X.out.trans XN)
  replace OS := Lib.hid (OS.out.ext XN)
  replace OX := Lib.hid (ownx OX.out XN)
  replace OG := Lib.hid (OG.out.ext XN)
  clear XN
  have al_a : ∀ V, Ext w6 V → ∀ i, V.cell? ⟨B, i, none⟩ = _ := fun V hx => (QA.out.ext hx).cell
  have al_x : ∀ V, Ext w6 V → ∀ i, V.cell? ⟨BX, i, none⟩ = _ := fun V hx => (QX.out.ext hx).cell
  go_region_held3 (fun V => Ext w6 V) (first | exact Ext.refl _ | exact (Ext.refl _).drew | assumption | exact Ext.alloc (by assumption) _ | exact Ext.trans (by assumption) hx40 | exact Ext.trans (by assumption) hx42) (first | (go_at_call 55; (with_reducible refine (toConfig_any (S := S) c _ _ (rel_Config FC.out (R1.out.ext (X.out.trans (by assumption))) (R2.out.ext (X.out.trans (by assumption))) (R3.out.ext (X.out.trans (by assumption)))) M.out).mono ?_); rintro e wa40 ⟨_, rfl, ⟨u1, u2, u3, rfl, ff, r1, r2, r3⟩, hx40⟩; clear ff; simp only [cellsConfig]; obtain ⟨D1, d1, rfl, -⟩ := Rd.form r1; obtain ⟨D2, d2, rfl, -⟩ := Rd.form r2; obtain ⟨D3, d3, rfl, -⟩ := Rd.form r3; have U1 := Lib.hid r1; have U2 := Lib.hid r2; have U3 := Lib.hid r3; clear r1 r2 r3) | (go_at_call 59; (with_reducible refine (eqConfig_any c c _ _ _ (OConfig.rel (ownx OX.out (by assumption))) (rel_Config FC.out (by first | exact U1.out | exact U1.out.ext (by assumption)) (by first | exact U2.out | exact U2.out.ext (by assumption)) (by first | exact U3.out | exact U3.out.ext (by assumption)))).mono ?_); rintro e w7 ⟨rfl, hx42⟩))
  all_goals clear al_a al_x
  have XN : Ext w6 w7 := by first | assumption | exact Ext.drew (by assumption)
  replace QA := Lib.hid (QA.out.ext XN)
  replace QS := Lib.hid (QS.out.ext XN)
  replace QX := Lib.hid (QX.out.ext XN)
  replace QG := Lib.hid (QG.out.ext XN)
  replace X := Lib.hid (X.out.trans XN)
  replace OS := Lib.hid (OS.out.ext XN)
  replace OX := Lib.hid (ownx OX.out XN)
  replace OG := Lib.hid (OG.out.ext XN)
  clear XN
  have hcx : (0 : Int) ≤ (cnt3 c : Nat) := Int.natCast_nonneg _
  have BND : Hid (1 + ((cnt3 c : Nat) : Int) ≤ 1125899906842624) := Lib.hid (cnt3_room M.out)
  have hcg : (0 : Int) ≤ (cntL cntBox m.boxes : Nat) := Int.natCast_nonneg _
  have xc := QX.out.cell
  go_upto_region 14 with (go_at_call 60; (with_reducible refine (markConfig_any c _ FX 1 _ OX.out (by decide) BND.out).mono ?_); rintro e w8 ⟨rfl, k8⟩; have K8 := Lib.hid k8; clear k8)
  clear xc
  replace OS := Lib.hid (OS.out.kept K8.out DSX.out)
  replace OG := Lib.hid (OG.out.kept K8.out DGX.out)
  replace QA : Hid (Blk w8 B 80 #[.slice A1 c.nodes.length c1, .slice A2 c.pairs.length c2, .slice A3 c.quotas.length c3, .int .i64 c.half]) := Lib.hid ((K8.out.block B QA.out.lt NAX.out).trans QA.out)
  replace QS : Hid (Blk w8 BS 103 #[.slice AS m.boxes.length cS]) := Lib.hid ((K8.out.block BS QS.out.lt NSX.out).trans QS.out)
  replace QG : Hid (Blk w8 BG 103 #[.slice AG m.boxes.length cG]) := Lib.hid ((K8.out.block BG QG.out.lt NGX.out).trans QG.out)
  replace X : Hid (Ext w w8) := Lib.hid (K8.out.ext X.out GXw.out)
  clear OX QX
  have hk1 : ¬ (1 + ((cnt3 c : Nat) : Int) < 0) := by omega
  have sc := QS.out.cell
  have gc := QG.out.cell
  go_upto_region 16 with (go_at_call 67; (with_reducible refine (eqMail_any m m _ _ _ (rel_Mail FM.out OG.out.rd) (rel_Mail FM.out OS.out.rd)).mono ?_); rintro e w9 ⟨rfl, hx⟩; have H := Lib.hid hx; clear hx)
  have XN := H.out
  clear sc gc H
  replace QA := Lib.hid (QA.out.ext XN)
  replace QS := Lib.hid (QS.out.ext XN)
  replace QG := Lib.hid (QG.out.ext XN)
  replace X := Lib.hid (X.out.trans XN)
  replace OS := Lib.hid (OS.out.ext XN)
  replace OG := Lib.hid (OG.out.ext XN)
  clear XN
  have gc := QG.out.cell
  go_upto_region 18 with (go_at_call 70; (with_reducible refine (markMail_is m _ FG 1 _ OG.out (by decide) BNG.out).mono ?_); rintro e w10 ⟨rfl, om, km⟩; have K10 := Lib.hid km; have OM := Lib.hid om; clear om km)
  clear gc
  replace OS := Lib.hid (OS.out.kept K10.out DSG.out)
  replace QA : Hid (Blk w10 B 80 #[.slice A1 c.nodes.length c1, .slice A2 c.pairs.length c2, .slice A3 c.quotas.length c3, .int .i64 c.half]) := Lib.hid ((K10.out.block B QA.out.lt NAG.out).trans QA.out)
  replace QS : Hid (Blk w10 BS 103 #[.slice AS m.boxes.length cS]) := Lib.hid ((K10.out.block BS QS.out.lt NSG.out).trans QS.out)
  replace QG : Hid (Blk w10 BG 103 #[.slice AG m.boxes.length cG]) := Lib.hid ((K10.out.block BG QG.out.lt NGG.out).trans QG.out)
  replace X : Hid (Ext w w10) := Lib.hid (K10.out.ext X.out GGw.out)
  clear OG
  have gc := QG.out.cell
  go_upto_region 24 with (go_at_call 71; (with_reducible refine (heldMail_is (S := fun b => b ∈ FG) m _ 1 _ OM.out.rd (by decide) BNG.out).mono ?_); rintro e w11 ⟨rfl, hx⟩; have H := Lib.hid hx; clear hx)
  have XN := H.out
  clear gc H
  replace QA := Lib.hid (QA.out.ext XN)
  replace QS := Lib.hid (QS.out.ext XN)
  replace QG := Lib.hid (QG.out.ext XN)
  replace X := Lib.hid (X.out.trans XN)
  replace OS := Lib.hid (OS.out.ext XN)
  replace OM := Lib.hid (OM.out.ext XN)
  clear XN
  have ac := QA.out.cell
  go_upto_region 25 with (first | (go_at_call 55; (with_reducible refine (toConfig_any (S := S) c _ _ (rel_Config FC.out (R1.out.ext X.out) (R2.out.ext X.out) (R3.out.ext X.out)) M.out).mono ?_); rintro e wc ⟨_, rfl, ⟨u1, u2, u3, rfl, ff, r1, r2, r3⟩, hxc⟩; clear ff; simp only [cellsConfig]; obtain ⟨D1, d1, rfl, -⟩ := Rd.form r1; obtain ⟨D2, d2, rfl, -⟩ := Rd.form r2; obtain ⟨D3, d3, rfl, -⟩ := Rd.form r3; have U1 := Lib.hid r1; have U2 := Lib.hid r2; have U3 := Lib.hid r3; clear r1 r2 r3) | (go_at_call 69; (with_reducible refine (mailNew_any c _ _ (rel_Config FC.out U1.out U2.out U3.out)).mono ?_); rintro e w12 ⟨vH, FH, rfl, oH, gH, hx12⟩; rw [HM.out] at oH; obtain ⟨AH, cH, rfl, -⟩ := oH.form; have OH := Lib.hid oH; have GH : Hid (∀ b ∈ FH, w11.heap.size ≤ b) := Lib.hid (fun b hb => Nat.le_trans (Ext.size hxc) (gH b hb)); clear oH gH))
  clear ac U1 U2 U3
  have XN := hxc.trans hx12
  clear hxc hx12
  replace QS := Lib.hid (QS.out.ext XN)
  replace QG := Lib.hid (QG.out.ext XN)
  replace X := Lib.hid (X.out.trans XN)
  replace OS := Lib.hid (OS.out.ext XN)
  replace OM := Lib.hid (OM.out.ext XN)
  clear XN
  obtain ⟨WH, BH, hW, hB, hx4, bx⟩ : ∃ W B, W = w12.alloc (.cells #[.slice AH m.boxes.length cH] 103) ∧ B = w12.heap.size ∧ Ext w12 W ∧ Blk W B 103 #[.slice AH m.boxes.length cH] := ⟨_, _, rfl, rfl, (Ext.refl _).alloc _, Blk.new _ _ _⟩
  rw [← hW, ← hB]
  have QH := Lib.hid bx
  have EH : Hid (BH = w12.heap.size) := Lib.hid hB
  have XN := hx4
  clear hW hB hx4 bx
  replace QS := Lib.hid (QS.out.ext XN)
  replace QG := Lib.hid (QG.out.ext XN)
  replace X := Lib.hid (X.out.trans XN)
  replace OS := Lib.hid (OS.out.ext XN)
  replace OM := Lib.hid (OM.out.ext XN)
  replace OH := Lib.hid (OH.out.ext XN)
  clear XN
  have sc := QS.out.cell
  have kc := QH.out.cell
  go_upto_region 27 with (go_at_call 67; (with_reducible refine (eqMail_any m m _ _ _ (rel_Mail FM.out OH.out.rd) (rel_Mail FM.out OS.out.rd)).mono ?_); rintro e w13 ⟨rfl, hx⟩; have H := Lib.hid hx; clear hx)
  have XN := H.out
  clear sc kc H
  replace QG := Lib.hid (QG.out.ext XN)
  replace X := Lib.hid (X.out.trans XN)
  replace OM := Lib.hid (OM.out.ext XN)
  clear XN
  have gc := QG.out.cell
  go_wp2_with (go_at_call 71; (with_reducible refine (heldMail_is (S := fun b => b ∈ FG) m _ 1 _ OM.out.rd (by decide) BNG.out).mono ?_); rintro e w14 ⟨rfl, hx⟩; have X14 := Lib.hid (X.out.trans hx); clear hx)
  go_ret
  exact ⟨rfl, X14.out⟩

set_option maxRecDepth 100000 in
theorem fnExactMailNew_lifted (os : Os) (started : os.Started) (H : Type) (enc : TypeId × Value → H) :
    ReturnsInHanded {} Try.checked os 8 .any (Rows.fnExactMailNewSpec.pre6 enc Try.prog Try.f8 Rows.fnExactMailNewRow.domain false) (Rows.fnExactMailNewSpec.post enc Try.prog Try.f8 false true false false) := by
  refine returnsInHanded_of_change (C := Try.checked) (show ownKnob Try.prog.godebug = none by kernel_rfl) started (by kernel_rfl) Try.func8
    (ChangeSpec.witness6 (enc := enc) (C := Try.checked) false ⟨#[], #[.agg #[.slice none 0 0, .slice none 0 0, .slice none 0 0, .int .i64 0]], []⟩ 8 (by kernel_rfl) (by kernel_rfl) (by kernel_rfl) (by kernel_rfl)) ?_
  intro W base args ds gs before hval0 hW hcnd _
  have hval : ∀ (j : Nat) t v, Try.f8.params[j]? = some t → args[j]? = some v → Value.okWide Try.prog W .any base t v := hval0
  have hW' := hW
  obtain ⟨p, q, hA0, hV, rfl, hfz, hnd⟩ := hW
  have hA : DataW.TrodAll enc Try.prog W 0 (fun _ => true) true Try.f8.params.toList args.toList ds p := hA0
  rw [Try.params8] at hA hval
  obtain ⟨v0, d0, rfl, rfl, h0⟩ := trodAll_one hA
  obtain ⟨rfl, rfl⟩ := trodVars_none hV
  obtain ⟨fu0, hf0⟩ := h0
  obtain ⟨cc, rcc⟩ := opens_Config hf0
  obtain ⟨⟨cs0⟩, rfl, hsz0⟩ := okWide_struct Try.underlying80 (hval 0 80 v0 rfl rfl)
  simp only [Value.cells] at rcc
  clear hf0 hsz0
  clear hA0 hval0 hval hcnd
  refine (fnExactMailNew_walk cc _ W rcc).mono fun e W2 ⟨he, hx⟩ => ?_
  subst he
  exact ⟨_, rfl, law_post (by kernel_rfl) (by kernel_rfl) Try.underlying4 (by intro t ht; rw [Try.params8] at ht; simp only [List.mem_cons, List.not_mem_nil, or_false] at ht; rcases ht with rfl <;> exact ⟨by kernel_rfl, of_decide_eq_true (by kernel_rfl)⟩) rfl rfl hW' hx⟩

theorem fnExactMailNew_holds : Rows.FnExactMailNewSaid :=
  OpenClaim.holds_of_wide 8 Try.f8 rfl rfl rfl rfl rfl rfl rfl ⟨rfl, rfl, rfl, rfl, rfl⟩ rfl rfl rfl rfl rfl (by kernel_rfl) Try.func8 fnExactMailNew_closed
    (of_decide_eq_true (by kernel_rfl)) (by unfold Func.isWrapper; rw [if_neg (of_decide_eq_false (by kernel_rfl))]; exact ⟨rfl, rfl⟩)
    (fun os started H enc _ => fnExactMailNew_lifted os started H enc)
end Go.Proofs.Ytdhcbbbmajjehaa
