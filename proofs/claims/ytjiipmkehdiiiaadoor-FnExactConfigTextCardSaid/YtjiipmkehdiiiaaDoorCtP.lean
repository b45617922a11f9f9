/- The text of a configuration, in plain Lean. -/
import Derived.Test.YtjiipmkehdiiiaaDoorCtLab
import Derived.Test.YtjiipmkehdiiiaaDoorConf1
import Derived.Test.YtjiipmkehdiiiaaDoorOwn2
namespace Go.Proofs.YtjiipmkehdiiiaaDoor
open Go.RowKit
attribute [local irreducible] wpQuiet

def labsFrom (t : ByteArray) (ls : List Label) : ByteArray := ls.foldl (fun t a => t ++ (⟨#[32]⟩ ++ labText a)) t
def nodesFrom (t : ByteArray) (ns : List (List Label)) : ByteArray := ns.foldl (fun t l => labsFrom (t ++ ⟨#[110, 111, 100, 101]⟩) l ++ ⟨#[10]⟩) t
def pairText (x : Pair) : ByteArray := ⟨#[112, 97, 105, 114, 32]⟩ ++ labText x.from_ ++ ⟨#[32]⟩ ++ labText x.to_ ++ ⟨#[32]⟩ ++ digit x.rate ++ ⟨#[10]⟩
def pairsFrom (t : ByteArray) (ps : List Pair) : ByteArray := ps.foldl (fun t x => t ++ pairText x) t
def quotaText (x : Quota) : ByteArray := ⟨#[113, 117, 111, 116, 97, 32]⟩ ++ labText x.label ++ ⟨#[32]⟩ ++ digit x.most ++ ⟨#[10]⟩
def quotasFrom (t : ByteArray) (qs : List Quota) : ByteArray := qs.foldl (fun t x => t ++ quotaText x) t
def configText (c : Config) : ByteArray := if configRight c = true then quotasFrom (pairsFrom (nodesFrom ⟨#[]⟩ c.nodes) c.pairs) c.quotas ++ ⟨#[104, 97, 108, 102, 32]⟩ ++ digit c.half ++ ⟨#[10]⟩ else ⟨#[]⟩

theorem digit_size (n : Int) : (digit n).size = 1 := strOfNums_size _
theorem letsTo_size (s : Int) (p : Nat) : (letsTo s p).size ≤ 3 := by
  unfold letsTo
  simp only [ByteArray.size_append]
  have h : ∀ (q : Prop) [Decidable q] (b : UInt8), (if q then (⟨#[b]⟩ : ByteArray) else ⟨#[]⟩).size ≤ 1 := fun q _ b => by
    split
    · exact Nat.le_refl 1
    · exact Nat.zero_le 1
  have h1 := h (1 ≤ p ∧ s % 2 = 1) 97
  have h2 := h (2 ≤ p ∧ s / 2 % 2 = 1) 98
  have h3 := h (3 ≤ p ∧ s / 4 % 2 = 1) 99
  omega
theorem lab_size (a : Label) : (labText a).size ≤ 5 := by
  unfold labText
  split
  · have h1 := digit_size a.level
    have h2 := letsTo_size a.set 3
    have h3 : (⟨#[58]⟩ : ByteArray).size = 1 := rfl
    simp only [ByteArray.size_append]
    omega
  · decide
theorem labs_succ (t : ByteArray) {l : List Label} {k : Nat} (h : k < l.length) : labsFrom t (l.take (k + 1)) = labsFrom t (l.take k) ++ (⟨#[32]⟩ ++ labText (nth l k)) := by
  unfold labsFrom; rw [take_succ_nth h, List.foldl_append]; rfl
theorem nodes_succ (t : ByteArray) {l : List (List Label)} {k : Nat} (h : k < l.length) : nodesFrom t (l.take (k + 1)) = labsFrom (nodesFrom t (l.take k) ++ ⟨#[110, 111, 100, 101]⟩) (nth l k) ++ ⟨#[10]⟩ := by
  unfold nodesFrom; rw [take_succ_nth h, List.foldl_append]; rfl
theorem pairs_succ (t : ByteArray) {l : List Pair} {k : Nat} (h : k < l.length) : pairsFrom t (l.take (k + 1)) = pairsFrom t (l.take k) ++ pairText (nth l k) := by
  unfold pairsFrom; rw [take_succ_nth h, List.foldl_append]; rfl
theorem quotas_succ (t : ByteArray) {l : List Quota} {k : Nat} (h : k < l.length) : quotasFrom t (l.take (k + 1)) = quotasFrom t (l.take k) ++ quotaText (nth l k) := by
  unfold quotasFrom; rw [take_succ_nth h, List.foldl_append]; rfl
theorem labs_size (t : ByteArray) : ∀ l : List Label, (labsFrom t l).size ≤ t.size + 6 * l.length := by
  intro l
  induction l generalizing t with
  | nil => exact Nat.le_refl _
  | cons a l ih =>
    have h1 := ih (t ++ (⟨#[32]⟩ ++ labText a))
    have h2 := lab_size a
    have h3 : (⟨#[32]⟩ : ByteArray).size = 1 := rfl
    simp only [ByteArray.size_append, List.length_cons] at h1 ⊢
    show (labsFrom (t ++ (⟨#[32]⟩ ++ labText a)) l).size ≤ _
    omega
theorem nodes_size (t : ByteArray) : ∀ l : List (List Label), (∀ x ∈ l, x.length ≤ 4) → (nodesFrom t l).size ≤ t.size + 40 * l.length := by
  intro l
  induction l generalizing t with
  | nil => intro _; exact Nat.le_refl _
  | cons a l ih =>
    intro hl
    have h1 := ih (labsFrom (t ++ ⟨#[110, 111, 100, 101]⟩) a ++ ⟨#[10]⟩) (fun x hx => hl x (List.mem_cons_of_mem _ hx))
    have h2 := labs_size (t ++ ⟨#[110, 111, 100, 101]⟩) a
    have h3 : (⟨#[110, 111, 100, 101]⟩ : ByteArray).size = 4 := rfl
    have h4 : (⟨#[10]⟩ : ByteArray).size = 1 := rfl
    have h5 := hl a (List.mem_cons_self ..)
    simp only [ByteArray.size_append, List.length_cons] at h1 h2 ⊢
    show (nodesFrom (labsFrom (t ++ ⟨#[110, 111, 100, 101]⟩) a ++ ⟨#[10]⟩) l).size ≤ _
    omega
theorem pair_size (x : Pair) : (pairText x).size ≤ 19 := by
  have h1 := lab_size x.from_; have h2 := lab_size x.to_; have h3 := digit_size x.rate
  have h4 : (⟨#[112, 97, 105, 114, 32]⟩ : ByteArray).size = 5 := rfl
  have h5 : (⟨#[32]⟩ : ByteArray).size = 1 := rfl
  have h6 : (⟨#[10]⟩ : ByteArray).size = 1 := rfl
  unfold pairText; simp only [ByteArray.size_append]; omega
theorem quota_size (x : Quota) : (quotaText x).size ≤ 19 := by
  have h1 := lab_size x.label; have h3 := digit_size x.most
  have h4 : (⟨#[113, 117, 111, 116, 97, 32]⟩ : ByteArray).size = 6 := rfl
  have h5 : (⟨#[32]⟩ : ByteArray).size = 1 := rfl
  have h6 : (⟨#[10]⟩ : ByteArray).size = 1 := rfl
  unfold quotaText; simp only [ByteArray.size_append]; omega
theorem pairs_size (t : ByteArray) : ∀ l : List Pair, (pairsFrom t l).size ≤ t.size + 19 * l.length := by
  intro l
  induction l generalizing t with
  | nil => exact Nat.le_refl _
  | cons a l ih =>
    have h1 := ih (t ++ pairText a)
    have h2 := pair_size a
    simp only [ByteArray.size_append, List.length_cons] at h1 ⊢
    show (pairsFrom (t ++ pairText a) l).size ≤ _
    omega
theorem quotas_size (t : ByteArray) : ∀ l : List Quota, (quotasFrom t l).size ≤ t.size + 19 * l.length := by
  intro l
  induction l generalizing t with
  | nil => exact Nat.le_refl _
  | cons a l ih =>
    have h1 := ih (t ++ quotaText a)
    have h2 := quota_size a
    simp only [ByteArray.size_append, List.length_cons] at h1 ⊢
    show (quotasFrom (t ++ quotaText a) l).size ≤ _
    omega
/-- What a right configuration is made of. -/
structure CtFit (c : Config) : Prop where
  n6 : c.nodes.length ≤ 6
  l4 : ∀ x ∈ c.nodes, x.length ≤ 4
  p4 : c.pairs.length ≤ 4
  pr : ∀ k, k < c.pairs.length → 1 ≤ (nth c.pairs k).rate ∧ (nth c.pairs k).rate ≤ 3
  q8 : c.quotas.length ≤ 8
  qr : ∀ k, k < c.quotas.length → 1 ≤ (nth c.quotas k).most ∧ (nth c.quotas k).most ≤ 9
  hf : 1 ≤ c.half ∧ c.half ≤ 9
theorem ct_fit {c : Config} (h : configRight c = true) : CtFit c := by
  simp only [configRight, pairsOk, quotasOk, Bool.and_eq_true, decide_eq_true_eq, List.all_eq_true, List.mem_range] at h
  obtain ⟨⟨h1, h2⟩, ⟨h3, h4, h5⟩, h6, h7⟩ := h
  refine ⟨(clear_length h1).2, fun x hx => (chain_length (clear_chain h1 x hx)).2, h4, fun k hk => ?_, h6, fun k hk => ?_, isB_true h2⟩
  · have := h5 k hk
    simp only [pairAtB, pairOk, Bool.and_eq_true] at this
    exact isB_true this.1.2
  · have := h7 k hk
    simp only [quotaAtB, Bool.and_eq_true] at this
    exact isB_true this.1.2
end Go.Proofs.YtjiipmkehdiiiaaDoor
