/- What the laws YardBook, YardNode, YardUnbook need, and no others. Laid by wip/split.py. -/
import Derived.Test.YtngldifgcgblpaaGreatLib
import Derived.Test.YtngldifgcgblpaaGreatOwn
import Derived.Test.YtngldifgcgblpaaGreatRows
import Derived.Lib.LazyBuf
import Derived.Test.YtngldifgcgblpaaGreatNodes
import Derived.Test.YtngldifgcgblpaaGreatOwn2
import Derived.Test.YtngldifgcgblpaaGreatClones
import Derived.Deep.RegionHeld3
import Derived.Test.YtngldifgcgblpaaGreatYardLb
import Derived.Test.YtngldifgcgblpaaGreatNodeC
import Derived.Test.YtngldifgcgblpaaGreatPut
import Derived.Deep.RegionLaw
import Derived.Test.YtngldifgcgblpaaGreatCounts
import Derived.Test.YtngldifgcgblpaaGreatYardTs
import Derived.Test.YtngldifgcgblpaaGreatInsSpan
import Derived.Test.YtngldifgcgblpaaGreatGElems
import Derived.Test.YtngldifgcgblpaaGreatYardUi
namespace Go.Proofs.YtngldifgcgblpaaGreat
open Go.RowKit
/-- The cells of a NodesOut, its slices' values handed over. -/
def cellsNodesOut (x : NodesOut) (v1 : Value) : List Value := [v1, .int .i64 x.code]
def FitNodesOut (x : NodesOut) : Prop := I64 x.code
def ENodesOut : Elem NodesOut where
  size := 2
  rel := fun S w cs x => ∃ v1, cs = cellsNodesOut x v1 ∧ FitNodesOut x ∧ Rd ENode S w v1 x.nodes
  len := by rintro _ _ _ _ ⟨v1, rfl, _⟩; rfl
  keep := by rintro _ _ _ _ _ hs ⟨v1, rfl, hf, h1⟩; exact ⟨v1, rfl, hf, h1.keep hs⟩
  sub := by rintro _ _ _ _ _ hs ⟨v1, rfl, hf, h1⟩; exact ⟨v1, rfl, hf, h1.sub hs⟩
  one := by
    rintro _ _ _ _ ⟨v1, rfl, _, h1⟩ u hu
    have o1 := h1.one
    simp only [cellsNodesOut, List.mem_cons, List.not_mem_nil, or_false] at hu
    rcases hu with rfl | rfl <;> first | rfl | assumption
end Go.Proofs.YtngldifgcgblpaaGreat
namespace Go.Proofs.YtngldifgcgblpaaGreat
open Go.RowKit
def ONodesOut : Own ENodesOut where
  own := fun w cs x F => ∃ v1, cs = cellsNodesOut x v1 ∧ FitNodesOut x ∧ OwS ONode 151 w v1 x.nodes F
  rel := by rintro _ _ _ _ ⟨v1, rfl, hf, h1⟩; exact ⟨_, rfl, hf, h1.rd⟩
  keep := by rintro _ _ _ _ _ hb ⟨v1, rfl, hf, h1⟩; exact ⟨_, rfl, hf, h1.keep hb⟩
  lt := by rintro _ _ _ _ ⟨_, rfl, _, h1⟩; exact h1.lt
  nodup := by rintro _ _ _ _ ⟨_, rfl, _, h1⟩; exact h1.nodup
end Go.Proofs.YtngldifgcgblpaaGreat
namespace Go.Proofs.YtngldifgcgblpaaGreat
open Go.RowKit
attribute [local irreducible] wpQuiet
end Go.Proofs.YtngldifgcgblpaaGreat
namespace Go.Proofs.YtngldifgcgblpaaGreat
open Go.RowKit
def isNode (l : List Node) (n : Int) : Bool := isB n 0 ((l.length : Int) - 1)
end Go.Proofs.YtngldifgcgblpaaGreat
namespace Go.Proofs.YtngldifgcgblpaaGreat
open Go.RowKit
attribute [local irreducible] wpQuiet
theorem isNode_nat {l : List Node} {n : Int} (h : isNode l n = true) : ∃ d : Nat, n = (d : Int) ∧ d < l.length := by
  have := isB_true h
  exact ⟨n.toNat, by omega, by omega⟩
theorem isNodeOf_any (l : List Node) (n : Int) (A : Option Addr) (c : Nat) (w : World) (hl : l.length ≤ 400) :
    Calls Tryz.prog 172 #[.slice A l.length c, .int .i64 n] w fun e w' => e = .returned (.bool (isNode l n)) ∧ w = w' := by
  go_enter Tryz.func172, Tryz.ntmps172
  go_wp2_with (go_at_call 130; refine (within_any _ _ _ _).mono ?_; rintro e w' ⟨rfl, rfl⟩)
  go_ret
  exact ⟨ret_bool rfl, rfl⟩
theorem l10Place_any (l : List Node) (n : Int) (A : Option Addr) (c : Nat) (w : World) (_hl : l.length ≤ 400) :
    Calls Tryz.prog 168 #[.slice A l.length c, .int .i64 n] w fun e w' => e = .returned (.bool (isNode l n)) ∧ w = w' := by
  go_enter Tryz.func168, Tryz.ntmps168
  go_wp2_with fail
  all_goals (go_ret; exact ⟨ret_bool (by unfold isNode isB; go_light; grind), rfl⟩)
set_option maxRecDepth 50000 in
theorem l10Ill_any (n : Int) (w : World) :
    Calls Tryz.prog 167 #[.int .i64 n] w fun e w' => e = .returned (.agg #[.slice none 0 0, .int .i64 n]) ∧ Ext w w' := by
  go_enter Tryz.func167, Tryz.ntmps167
  go_wp2_with fail
  exact bodyPost_ret (v := .agg #[.slice none 0 0, .int .i64 n]) (results_blk Tryz.results167 rfl (Blk.new _ 114 _) Tryz.underlying114 rfl (by kernel_rfl)) rfl ⟨rfl, (Ext.refl _).alloc _⟩
end Go.Proofs.YtngldifgcgblpaaGreat
namespace Go.Proofs.YtngldifgcgblpaaGreat
open Go.RowKit
attribute [local irreducible] wpQuiet
end Go.Proofs.YtngldifgcgblpaaGreat
namespace Go.Proofs.YtngldifgcgblpaaGreat
open Go.RowKit
attribute [local irreducible] wpQuiet
def withN (y : Yard) (l : List Node) : Yard := ⟨y.config, l, y.tasks, y.uses, y.now⟩
def nodeY (y : Yard) (x : NodesOut) : YardOut := if yardRight y = false then illY 1 else if x.code ≠ 0 then illY x.code else ⟨withN y x.nodes, 0, 0⟩
theorem nodeY_form {y : Yard} {x : NodesOut} (h : yardRight y = false) : nodeY y x = illY 1 := by rw [nodeY, if_pos h]
theorem nodeY_code {y : Yard} {x : NodesOut} {c : Int} (h : yardRight y = true) (e : x.code = c) (g : ¬ c = 0) : nodeY y x = illY c := by rw [nodeY, if_neg (by simp [h]), if_pos (by rw [e]; exact g), e]
theorem nodeY_done {y : Yard} {x : NodesOut} (h : yardRight y = true) (g : x.code = 0) : nodeY y x = ⟨withN y x.nodes, 0, 0⟩ := by rw [nodeY, if_neg (by simp [h]), if_neg (by simp [g])]
theorem cnt_nodeY {y : Yard} {x : NodesOut} (h : yardRight y = true → x.nodes.length ≤ 1000 ∧ ∀ z ∈ x.nodes, z.books.length ≤ 1000) : 1 + ((cntsYardOut (nodeY y x) : Nat) : Int) ≤ 1125899906842624 := by
  unfold nodeY
  split
  · exact cnt_ill _
  split
  · exact cnt_ill _
  rename_i h1 h2
  simp only [Bool.not_eq_false] at h1
  obtain ⟨c1, c2, c3, c4, c5, c6⟩ := tight_yard h1
  exact cnt_tight (o := ⟨withN y x.nodes, 0, 0⟩) c1 (h h1).1 (h h1).2 (by show y.tasks.length ≤ _; omega) c5 (by show y.uses.length ≤ _; omega)
/-- A row of nodes of which one is another stays small. -/
theorem set_small {l : List Node} {k : Nat} {x : Node} (h : nodesRight l = true) (hx : x.books.length ≤ 1000) : (l.set k x).length ≤ 1000 ∧ ∀ z ∈ l.set k x, z.books.length ≤ 1000 := by
  refine ⟨by rw [List.length_set]; have := nodesRight_length h; omega, fun z hz => ?_⟩
  rcases List.mem_or_eq_of_mem_set hz with hz | rfl
  · obtain ⟨j, hj, rfl⟩ := mem_nth hz
    have := (nodesRight_books h hj).1
    omega
  · exact hx
theorem nil_small : ([] : List Node).length ≤ 1000 ∧ ∀ z ∈ ([] : List Node), z.books.length ≤ 1000 := ⟨by simp, fun z hz => absurd hz (by simp)⟩
theorem isNode_lt {l : List Node} {n : Int} (h : isNode l n = true) : n.toNat < l.length := by
  have := isB_true h
  omega
/-- Rows of blocks; the fourth was made ahead of all others. -/
theorem nodup_four {A F4 H R : List Nat} {a : Nat} (hd : (A ++ (F4 ++ R)).Nodup) (hH : H.Nodup) (lH : ∀ b ∈ H, b < a) (gA : ∀ b ∈ A, a ≤ b) (gR : ∀ b ∈ R, a ≤ b) : (A ++ (H ++ R)).Nodup := by
  obtain ⟨hA, h4R, hAd⟩ := List.nodup_append.1 hd
  obtain ⟨_, hR, _⟩ := List.nodup_append.1 h4R
  refine nodup_two hA (nodup_two hH hR fun b hb hc => ?_) fun b hb hc => ?_
  · have := lH b hb; have := gR b hc; omega
  · rcases List.mem_append.1 hc with hc | hc
    · have := gA b hb; have := lH b hc; omega
    · exact hAd b hb b (List.mem_append_right _ hc) rfl
theorem own_put4 {y : Yard} {l : List Node} {w : World} {v1 v2 v3 v4 v5 v6 : Value} {F1 F2 F3 F4 H F5 F6 : List Nat} {a : Nat} (hf : FitYard y)
    (o1 : OwS (ORow OLabel 49) 167 w v1 y.config.nodes F1) (o2 : OwS OPair 214 w v2 y.config.pairs F2) (o3 : OwS OQuota 205 w v3 y.config.quotas F3) (o5 : OwS OTask 87 w v5 y.tasks F5) (o6 : OwS OUse 155 w v6 y.uses F6)
    (p4 : OwS ONode 151 w v4 l H) (hd : (F1 ++ (F2 ++ (F3 ++ (F4 ++ (F5 ++ F6))))).Nodup) (lH : ∀ b ∈ H, b < a) (gG : ∀ b ∈ F1 ++ (F2 ++ (F3 ++ (F4 ++ (F5 ++ F6)))), a ≤ b) :
    OYard.own w [v1, v2, v3, .int .i64 y.config.half, v4, v5, v6, .int .i64 y.now] (withN y l) (F1 ++ (F2 ++ (F3 ++ (H ++ (F5 ++ F6))))) := by
  have hd' : ((F1 ++ (F2 ++ F3)) ++ (F4 ++ (F5 ++ F6))).Nodup := by
    have h := hd
    simp only [List.append_assoc] at h ⊢
    exact h
  have hn := nodup_four hd' p4.nodup lH (fun b hb => gG b (by simp only [List.mem_append] at hb ⊢; rcases hb with h | h | h <;> simp [h])) (fun b hb => gG b (by simp only [List.mem_append] at hb ⊢; rcases hb with h | h <;> simp [h]))
  simp only [List.append_assoc] at hn
  exact ⟨_, _, _, _, _, _, F1, F2, F3, H, F5, F6, rfl, hf, o1, o2, o3, p4, o5, o6, rfl, hn⟩
end Go.Proofs.YtngldifgcgblpaaGreat
namespace Go.Proofs.YtngldifgcgblpaaGreat
open Go.RowKit
attribute [local irreducible] wpQuiet
set_option maxHeartbeats 16000000 in
set_option maxRecDepth 100000 in
theorem withNodes_any {S : Nat → Prop} (y : Yard) (cs : List Value) (x : NodesOut) (f : Nat) (caps : Array Value) (w : World) (h : EYard.rel S w cs y) (hcall : ∀ (args : Array Value) (W : World), (callFunc f args).run Tryz.prog W = .ok (.enter f args) W)
    (hm : ∀ (v : Value) (V : World), Ext w V → Rd ENode S V v y.nodes → Calls Tryz.prog f (#[v] ++ caps) V (RetOS ONodesOut x V)) :
    Calls Tryz.prog 85 #[.agg cs.toArray, .func (.func f) #[] caps] w (RetOS OYardOut (nodeY y x) w) := by
  obtain ⟨v1, v2, v3, v4, v5, v6, rfl, hf, h1, h2, h3, h4, h5, h6⟩ := h
  obtain ⟨A1, c1, rfl, -⟩ := h1.form
  obtain ⟨A2, c2, rfl, -⟩ := h2.form
  obtain ⟨A3, c3, rfl, -⟩ := h3.form
  obtain ⟨A4, c4, rfl, -⟩ := h4.form
  obtain ⟨A5, c5, rfl, -⟩ := h5.form
  obtain ⟨A6, c6, rfl, -⟩ := h6.form
  have HF := Lib.hid hf
  have HFC : Hid (FitConfig y.config) := Lib.hid hf.1
  have H1 := Lib.hid h1
  have H2 := Lib.hid h2
  have H3 := Lib.hid h3
  have H4 := Lib.hid h4
  have H5 := Lib.hid h5
  have H6 := Lib.hid h6
  clear hf h1 h2 h3 h4 h5 h6
  simp only [cellsYard]
  have HM := Lib.hid hm
  clear hm
  obtain ⟨t, ht⟩ : ∃ t, yardRight y = t := ⟨_, rfl⟩
  have T := Lib.hid ht
  obtain ⟨c, hc⟩ : ∃ c, x.code = c := ⟨_, rfl⟩
  have HC := Lib.hid hc
  clear ht hc
  go_enter Tryz.func85, Tryz.ntmps85
  go_upto_region 1 with (fail)
  obtain ⟨W, B, hW, hB, hx0, a0, r0⟩ := boxes2 w #[.slice A1 y.config.nodes.length c1, .slice A2 y.config.pairs.length c2, .slice A3 y.config.quotas.length c3, .int .i64 y.config.half, .slice A4 y.nodes.length c4, .slice A5 y.tasks.length c5, .slice A6 y.uses.length c6, .int .i64 y.now] #[.slice none 0 0, .slice none 0 0, .slice none 0 0, .int .i64 0, .slice none 0 0, .slice none 0 0, .slice none 0 0, .int .i64 0, .int .i64 0, .int .i64 0] 44 46
  rw [← hW, ← hB]
  have HB : Hid (w.heap.size ≤ B + 1) := Lib.hid (by omega)
  have QA := Lib.hid a0
  have QR := Lib.hid r0
  have X := Lib.hid hx0
  clear hW hB hx0 a0 r0
  have qa := QA.out.cell
  have HLT : Hid (B + 1 < W.heap.size) := Lib.hid QR.out.lt
  have HXW := Lib.hid X.out
  have XV : Hid (Ext W W) := Lib.hid (Ext.refl W)
  cases t with
  | false =>
    have HE : Hid (nodeY y x = illY 1) := Lib.hid (nodeY_form T.out)
    go_upto_region 2 with (go_at_call 76; (with_reducible refine (yardRight_is (S := S) y _ _ (rel_Yard HF.out (H1.out.ext X.out) (H2.out.ext X.out) (H3.out.ext X.out) (H4.out.ext X.out) (H5.out.ext X.out) (H6.out.ext X.out)) _ T.out).mono ?_); rintro e w7 ⟨rfl, hx7⟩; replace X := Lib.hid (X.out.trans hx7); replace XV := Lib.hid (XV.out.trans hx7); replace QA := Lib.hid (QA.out.ext hx7); replace QR := Lib.hid (QR.out.ext hx7); clear hx7 qa; have qa := QA.out.cell)
    clear qa
    go_wp2_with (refine wpList_store_mid rfl 46 _ _ rfl (B + 1) 0 #[.slice none 0 0, .slice none 0 0, .slice none 0 0, .int .i64 0, .slice none 0 0, .slice none 0 0, .slice none 0 0, .int .i64 0, .int .i64 0, .int .i64 1] rfl rfl (Blk.there (t := 46) (cs := #[.slice none 0 0, .slice none 0 0, .slice none 0 0, .int .i64 0, .slice none 0 0, .slice none 0 0, .slice none 0 0, .int .i64 0, .int .i64 0, .int .i64 0]) QR.out) (by kernel_rfl) (all_oneCell_toArray (cs := [.slice none 0 0, .slice none 0 0, .slice none 0 0, .int .i64 0, .slice none 0 0, .slice none 0 0, .slice none 0 0, .int .i64 0, .int .i64 0, .int .i64 1]) (by simp [Value.oneCell'])) ?_)
    exact bodyPost_ret (v := .agg #[.slice none 0 0, .slice none 0 0, .slice none 0 0, .int .i64 0, .slice none 0 0, .slice none 0 0, .slice none 0 0, .int .i64 0, .int .i64 0, .int .i64 1]) (results_blk Tryz.results85 rfl (Blk.setAll (t := 46) (cs := #[.slice none 0 0, .slice none 0 0, .slice none 0 0, .int .i64 0, .slice none 0 0, .slice none 0 0, .slice none 0 0, .int .i64 0, .int .i64 0, .int .i64 0]) (vs := #[.slice none 0 0, .slice none 0 0, .slice none 0 0, .int .i64 0, .slice none 0 0, .slice none 0 0, .slice none 0 0, .int .i64 0, .int .i64 0, .int .i64 1]) QR.out rfl) Tryz.underlying46 rfl (by kernel_rfl)) rfl ⟨_, [], rfl, by rw [HE.out]; exact own_ill _ _ (by unfold I64; decide), fun b hb => absurd hb (by simp), setCells_ext HB.out _ _ _ X.out⟩
  | true =>
    by_cases hz : c = 0
    case neg =>
      have HE : Hid (nodeY y x = illY c) := Lib.hid (nodeY_code T.out HC.out hz)
      go_upto_region 4 with (first | (go_at_call 76; (with_reducible refine (yardRight_is (S := S) y _ _ (rel_Yard HF.out (H1.out.ext X.out) (H2.out.ext X.out) (H3.out.ext X.out) (H4.out.ext X.out) (H5.out.ext X.out) (H6.out.ext X.out)) _ T.out).mono ?_); rintro e w7 ⟨rfl, hx7⟩; replace X := Lib.hid (X.out.trans hx7); replace XV := Lib.hid (XV.out.trans hx7); replace QA := Lib.hid (QA.out.ext hx7); replace QR := Lib.hid (QR.out.ext hx7); clear hx7 qa; have qa := QA.out.cell) | ((with_reducible refine (HM.out _ _ X.out (H4.out.ext X.out)).mono ?_); rintro e wn ⟨csn, FN, rfl, ⟨un, rfl, hfn, qn⟩, gn, hxn⟩; obtain ⟨pn, kn, rfl, -⟩ := OwS.form qn; have QX := Lib.hid qn; have HFN : Hid (FitNodesOut x) := Lib.hid hfn; have GN : Hid (∀ b ∈ FN, W.heap.size ≤ b) := Lib.hid (fun b hb => Nat.le_trans XV.out.size (gn b hb)); have LN := Lib.hid qn.lt; replace X := Lib.hid (X.out.trans hxn); replace XV := Lib.hid (XV.out.trans hxn); replace QA := Lib.hid (QA.out.ext hxn); replace QR := Lib.hid (QR.out.ext hxn); clear hxn qa; clear qn hfn gn; simp only [cellsNodesOut]; rw [HC.out]))
      have HCI : Hid (I64 c) := Lib.hid (by rw [← HC.out]; exact HFN.out)
      obtain ⟨WN, BN, hWN, hBN, hxN, bN⟩ : ∃ V B, V = wn.alloc (.cells #[.slice pn x.nodes.length kn, .int .i64 c] 114) ∧ B = wn.heap.size ∧ Ext wn V ∧ Blk V B 114 #[.slice pn x.nodes.length kn, .int .i64 c] := ⟨_, _, rfl, rfl, (Ext.refl wn).alloc _, Blk.new _ _ _⟩
      rw [← hWN, ← hBN]
      have QN := Lib.hid bN
      have XN := Lib.hid hxN
      clear hWN hBN bN hxN
      replace X := Lib.hid (X.out.trans XN.out)
      replace XV := Lib.hid (XV.out.trans XN.out)
      replace QA := Lib.hid (QA.out.ext XN.out)
      replace QR := Lib.hid (QR.out.ext XN.out)
      have qn := QN.out.cell
      go_upto_region 5 with (fail)
      clear hz
      go_wp2_with (refine wpList_store_mid rfl 46 _ _ rfl (B + 1) 0 #[.slice none 0 0, .slice none 0 0, .slice none 0 0, .int .i64 0, .slice none 0 0, .slice none 0 0, .slice none 0 0, .int .i64 0, .int .i64 0, .int .i64 c] rfl rfl (Blk.there (t := 46) (cs := #[.slice none 0 0, .slice none 0 0, .slice none 0 0, .int .i64 0, .slice none 0 0, .slice none 0 0, .slice none 0 0, .int .i64 0, .int .i64 0, .int .i64 0]) QR.out) (by kernel_rfl) (all_oneCell_toArray (cs := [.slice none 0 0, .slice none 0 0, .slice none 0 0, .int .i64 0, .slice none 0 0, .slice none 0 0, .slice none 0 0, .int .i64 0, .int .i64 0, .int .i64 c]) (by simp [Value.oneCell'])) ?_)
      exact bodyPost_ret (v := .agg #[.slice none 0 0, .slice none 0 0, .slice none 0 0, .int .i64 0, .slice none 0 0, .slice none 0 0, .slice none 0 0, .int .i64 0, .int .i64 0, .int .i64 c]) (results_blk Tryz.results85 rfl (Blk.setAll (t := 46) (cs := #[.slice none 0 0, .slice none 0 0, .slice none 0 0, .int .i64 0, .slice none 0 0, .slice none 0 0, .slice none 0 0, .int .i64 0, .int .i64 0, .int .i64 0]) (vs := #[.slice none 0 0, .slice none 0 0, .slice none 0 0, .int .i64 0, .slice none 0 0, .slice none 0 0, .slice none 0 0, .int .i64 0, .int .i64 0, .int .i64 c]) QR.out rfl) Tryz.underlying46 rfl (by kernel_rfl)) rfl ⟨_, [], rfl, by rw [HE.out]; exact own_ill _ _ (by exact HCI.out), fun b hb => absurd hb (by simp), setCells_ext HB.out _ _ _ X.out⟩
    case pos =>
      subst hz
      have HE : Hid (nodeY y x = ⟨withN y x.nodes, 0, 0⟩) := Lib.hid (nodeY_done T.out HC.out)
      have HFW := Lib.hid (few_yard T.out)
      go_upto_region 4 with (first | (go_at_call 76; (with_reducible refine (yardRight_is (S := S) y _ _ (rel_Yard HF.out (H1.out.ext X.out) (H2.out.ext X.out) (H3.out.ext X.out) (H4.out.ext X.out) (H5.out.ext X.out) (H6.out.ext X.out)) _ T.out).mono ?_); rintro e w7 ⟨rfl, hx7⟩; replace X := Lib.hid (X.out.trans hx7); replace XV := Lib.hid (XV.out.trans hx7); replace QA := Lib.hid (QA.out.ext hx7); replace QR := Lib.hid (QR.out.ext hx7); clear hx7 qa; have qa := QA.out.cell) | ((with_reducible refine (HM.out _ _ X.out (H4.out.ext X.out)).mono ?_); rintro e wn ⟨csn, FN, rfl, ⟨un, rfl, hfn, qn⟩, gn, hxn⟩; obtain ⟨pn, kn, rfl, -⟩ := OwS.form qn; have QX := Lib.hid qn; have HFN : Hid (FitNodesOut x) := Lib.hid hfn; have GN : Hid (∀ b ∈ FN, W.heap.size ≤ b) := Lib.hid (fun b hb => Nat.le_trans XV.out.size (gn b hb)); have LN := Lib.hid qn.lt; replace X := Lib.hid (X.out.trans hxn); replace XV := Lib.hid (XV.out.trans hxn); replace QA := Lib.hid (QA.out.ext hxn); replace QR := Lib.hid (QR.out.ext hxn); clear hxn qa; clear qn hfn gn; simp only [cellsNodesOut]; rw [HC.out]))
      obtain ⟨WN, BN, hWN, hBN, hxN, bN⟩ : ∃ V B, V = wn.alloc (.cells #[.slice pn x.nodes.length kn, .int .i64 0] 114) ∧ B = wn.heap.size ∧ Ext wn V ∧ Blk V B 114 #[.slice pn x.nodes.length kn, .int .i64 0] := ⟨_, _, rfl, rfl, (Ext.refl wn).alloc _, Blk.new _ _ _⟩
      rw [← hWN, ← hBN]
      have QN := Lib.hid bN
      have XN := Lib.hid hxN
      clear hWN hBN bN hxN
      replace X := Lib.hid (X.out.trans XN.out)
      replace XV := Lib.hid (XV.out.trans XN.out)
      replace QA := Lib.hid (QA.out.ext XN.out)
      replace QR := Lib.hid (QR.out.ext XN.out)
      have qa := QA.out.cell
      have qn := QN.out.cell
      go_upto_region 7 with ((go_at_call 80; (with_reducible refine (copyYard_own (S := S) y _ _ (rel_Yard HF.out (H1.out.ext X.out) (H2.out.ext X.out) (H3.out.ext X.out) (H4.out.ext X.out) (H5.out.ext X.out) (H6.out.ext X.out)) HFW.out).mono ?_); rintro e w9 ⟨cs9, G9, rfl, ⟨u1, u2, u3, u4, u5, u6, G1, G2, G3, G4, G5, G6, rfl, -, o1, o2, o3, o4, o5, o6, hG, hn⟩, g9, hx9⟩; obtain ⟨p1, k1, rfl, -⟩ := OwS.form o1; obtain ⟨p2, k2, rfl, -⟩ := OwS.form o2; obtain ⟨p3, k3, rfl, -⟩ := OwS.form o3; obtain ⟨p4, k4, rfl, -⟩ := OwS.form o4; obtain ⟨p5, k5, rfl, -⟩ := OwS.form o5; obtain ⟨p6, k6, rfl, -⟩ := OwS.form o6; have O1 := Lib.hid o1; have O2 := Lib.hid o2; have O3 := Lib.hid o3; have O4 := Lib.hid o4; have O5 := Lib.hid o5; have O6 := Lib.hid o6; have HG := Lib.hid hG; have HN := Lib.hid hn; have Z9 := Lib.hid g9; have H9 := Lib.hid hx9; clear o1 o2 o3 o4 o5 o6 hG hn g9 hx9 qa; simp only [cellsYard]))
      clear qn
      have qn9 := fun ob : Obj => (QN.out.ext (H9.out.trans ((Ext.refl w9).alloc ob))).cell
      go_upto_region 8 with (fail)
      clear qn9
      obtain ⟨W9, B9, hW9, hB9, hx9, b9⟩ : ∃ W B, W = w9.alloc (.cells #[.slice p1 y.config.nodes.length k1, .slice p2 y.config.pairs.length k2, .slice p3 y.config.quotas.length k3, .int .i64 y.config.half, .slice pn x.nodes.length kn, .slice p5 y.tasks.length k5, .slice p6 y.uses.length k6, .int .i64 y.now] 44) ∧ B = w9.heap.size ∧ Ext w9 W ∧ Blk W B 44 #[.slice p1 y.config.nodes.length k1, .slice p2 y.config.pairs.length k2, .slice p3 y.config.quotas.length k3, .int .i64 y.config.half, .slice pn x.nodes.length kn, .slice p5 y.tasks.length k5, .slice p6 y.uses.length k6, .int .i64 y.now] := ⟨_, _, rfl, rfl, (Ext.refl w9).alloc _, Blk.new _ _ _⟩
      rw [← hW9, ← hB9]
      have Q9 := Lib.hid b9
      have XO := Lib.hid hx9
      clear hW9 hB9 hx9 b9
      have RO := Lib.hid (QR.out.ext (H9.out.trans XO.out))
      have GE : Hid (∀ b ∈ G1 ++ (G2 ++ (G3 ++ (G4 ++ (G5 ++ G6)))), WN.heap.size ≤ b) := Lib.hid (by rw [← HG.out]; exact Z9.out)
      have q9 := Q9.out.cell
      go_wp2_with (refine wpList_store_mid rfl 46 _ _ rfl (B + 1) 0 (List.toArray [.slice p1 y.config.nodes.length k1, .slice p2 y.config.pairs.length k2, .slice p3 y.config.quotas.length k3, .int .i64 y.config.half, .slice pn x.nodes.length kn, .slice p5 y.tasks.length k5, .slice p6 y.uses.length k6, .int .i64 y.now, .int .i64 0, .int .i64 0]) rfl rfl (Blk.there (t := 46) (cs := #[.slice none 0 0, .slice none 0 0, .slice none 0 0, .int .i64 0, .slice none 0 0, .slice none 0 0, .slice none 0 0, .int .i64 0, .int .i64 0, .int .i64 0]) RO.out) (by kernel_rfl) (all_oneCell_toArray (cs := [.slice p1 y.config.nodes.length k1, .slice p2 y.config.pairs.length k2, .slice p3 y.config.quotas.length k3, .int .i64 y.config.half, .slice pn x.nodes.length kn, .slice p5 y.tasks.length k5, .slice p6 y.uses.length k6, .int .i64 y.now, .int .i64 0, .int .i64 0]) (by simp [Value.oneCell'])) ?_)
      have OW := own_put4 (a := WN.heap.size) HF.out (O1.out.ext XO.out) (O2.out.ext XO.out) (O3.out.ext XO.out) (O5.out.ext XO.out) (O6.out.ext XO.out) (QX.out.ext (XN.out.trans (H9.out.trans XO.out))) (by rw [← HG.out]; exact HN.out) (fun b hb => Nat.lt_of_lt_of_le (LN.out b hb) XN.out.size) GE.out
      have szR := QR.out.lt
      have szX := XV.out.size
      have szN := XN.out.size
      have all : ∀ b ∈ G1 ++ (G2 ++ (G3 ++ (FN ++ (G5 ++ G6)))), W.heap.size ≤ b := fun b hb => by
        simp only [List.mem_append] at hb
        have ge := fun h => GE.out b h
        simp only [List.mem_append] at ge
        rcases hb with h | h | h | h | h | h
        · have := ge (by simp [h]); omega
        · have := ge (by simp [h]); omega
        · have := ge (by simp [h]); omega
        · exact GN.out b h
        · have := ge (by simp [h]); omega
        · have := ge (by simp [h]); omega
      exact bodyPost_ret (v := .agg (List.toArray [.slice p1 y.config.nodes.length k1, .slice p2 y.config.pairs.length k2, .slice p3 y.config.quotas.length k3, .int .i64 y.config.half, .slice pn x.nodes.length kn, .slice p5 y.tasks.length k5, .slice p6 y.uses.length k6, .int .i64 y.now, .int .i64 0, .int .i64 0])) (results_blk Tryz.results85 rfl (Blk.setAll (t := 46) (cs := #[.slice none 0 0, .slice none 0 0, .slice none 0 0, .int .i64 0, .slice none 0 0, .slice none 0 0, .slice none 0 0, .int .i64 0, .int .i64 0, .int .i64 0]) (vs := List.toArray [.slice p1 y.config.nodes.length k1, .slice p2 y.config.pairs.length k2, .slice p3 y.config.quotas.length k3, .int .i64 y.config.half, .slice pn x.nodes.length kn, .slice p5 y.tasks.length k5, .slice p6 y.uses.length k6, .int .i64 y.now, .int .i64 0, .int .i64 0]) RO.out rfl) Tryz.underlying46 rfl (by kernel_rfl)) rfl
        ⟨_, G1 ++ (G2 ++ (G3 ++ (FN ++ (G5 ++ G6)))), rfl, by rw [HE.out]; exact ownk (own_out (y := withN y x.nodes) OW) (Kept.setCells (F := [B + 1]) (by simp) _ _ _ (Kept.refl _ _)) (fun b hb hm => by have := all b hb; have := List.mem_singleton.1 hm; have := HLT.out; omega),
          fun b hb => Nat.le_trans HXW.out.size (all b hb),
          setCells_ext HB.out _ _ _ (X.out.trans (H9.out.trans XO.out))⟩
end Go.Proofs.YtngldifgcgblpaaGreat
namespace Go.Proofs.YtngldifgcgblpaaGreat
open Go.RowKit
attribute [local irreducible] wpQuiet
theorem boxes4 (w : World) (A O P R : Array Value) (T U V X : TypeId) : ∃ W B, W = (((w.alloc (.cells A T)).alloc (.cells O U)).alloc (.cells P V)).alloc (.cells R X) ∧ B = w.heap.size ∧ Ext w W ∧ Blk W B T A ∧ Blk W (B + 1) U O ∧ Blk W (B + 1 + 1) V P ∧ Blk W (B + 1 + 1 + 1) X R := by
  obtain ⟨W, B, hW, hB, hx, h1, h2, h3⟩ := boxes3 w A O P T U V
  have hs : W.heap.size = B + 1 + 1 + 1 := by rw [hW, hB]; simp only [World.size_alloc]
  refine ⟨W.alloc (.cells R X), B, by rw [hW], hB, hx.alloc _, h1.ext ((Ext.refl _).alloc _), h2.ext ((Ext.refl _).alloc _), h3.ext ((Ext.refl _).alloc _), ?_⟩
  have h := Blk.new W X R
  rwa [hs] at h
end Go.Proofs.YtngldifgcgblpaaGreat
