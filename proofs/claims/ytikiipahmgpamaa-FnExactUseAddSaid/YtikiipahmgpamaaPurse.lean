/- How the laws count the size of their data. -/
import Derived.Test.YtikiipahmgpamaaTypes
namespace Go.Proofs.Ytikiipahmgpamaa

/-- What is left of a purse once n has been paid; -1: it did not suffice. -/
def pay (n : Nat) (left : Int) : Int := if left - n < 0 then -1 else left - n
/-- One payment behind another. -/
def payThen (f : Int → Int) (left : Int) : Int := if left < 0 then -1 else f left
def payList {α : Type} (f : α → Int → Int) : List α → Int → Int
  | [], left => left
  | x :: l, left => if f x left < 0 then -1 else payList f l (f x left)
/-- A payment is one that says -1, or something from 0 to what there was. -/
def Pays (f : Int → Int) : Prop := ∀ left, 0 ≤ left → f left = -1 ∨ (0 ≤ f left ∧ f left ≤ left)
theorem pays_pay (n : Nat) : Pays (pay n) := fun left h => by unfold pay; split <;> omega
theorem pays_then {f g : Int → Int} (hf : Pays f) (hg : Pays g) : Pays (fun left => payThen g (f left)) := fun left h => by
  show payThen g (f left) = -1 ∨ 0 ≤ payThen g (f left) ∧ payThen g (f left) ≤ left
  unfold payThen
  rcases hf left h with h1 | ⟨h1, h2⟩
  · simp [h1]
  · rw [if_neg (by omega)]
    rcases hg _ h1 with h3 | ⟨h3, h4⟩
    · exact .inl h3
    · exact .inr ⟨h3, by omega⟩
theorem pays_list {α : Type} {f : α → Int → Int} : ∀ (l : List α), (∀ x ∈ l, Pays (f x)) → Pays (payList f l)
  | [], _ => fun left h => .inr ⟨h, Int.le_refl _⟩
  | x :: l, hf => fun left h => by
    unfold payList
    rcases hf x (List.mem_cons_self ..) left h with h1 | ⟨h1, h2⟩
    · simp [h1]
    · rw [if_neg (by omega)]
      rcases pays_list l (fun y hy => hf y (List.mem_cons_of_mem _ hy)) _ h1 with h3 | ⟨h3, h4⟩
      · exact .inl h3
      · exact .inr ⟨h3, by omega⟩
theorem pay_neg {n : Nat} {left : Int} (h : left - n < 0) : pay n left = -1 := by unfold pay; rw [if_pos h]
theorem pay_pos {n : Nat} {left : Int} (h : 0 ≤ left - n) : pay n left = left - n := by unfold pay; rw [if_neg (by omega)]
theorem then_neg {f : Int → Int} : payThen f (-1) = -1 := rfl
theorem then_pos {f : Int → Int} {left : Int} (h : 0 ≤ left) : payThen f left = f left := by unfold payThen; rw [if_neg (by omega)]
/-- Behind k payments q is left, and all goes on as if it had begun here. -/
def PaidTo {α : Type} (f : α → Int → Int) (l : List α) (top q : Int) (k : Nat) : Prop := payList f (l.drop k) q = payList f l top
/-- Where all was paid, each part was. -/
theorem pay_ok {n : Nat} {left : Int} (h : 0 ≤ pay n left) : (n : Int) ≤ left ∧ pay n left = left - n := by
  unfold pay at h ⊢
  split at h <;> rename_i h' <;> simp [h'] at h ⊢
  omega
theorem then_ok {f : Int → Int} {left : Int} (h : 0 ≤ payThen f left) : 0 ≤ left ∧ 0 ≤ f left := by
  unfold payThen at h
  split at h
  · omega
  · exact ⟨by omega, h⟩
theorem list_ok {α : Type} {f : α → Int → Int} {P : α → Prop} {top : Int} : ∀ (l : List α), (∀ x ∈ l, Pays (f x)) → (∀ x left, left ≤ top → 0 ≤ left → 0 ≤ f x left → P x) → ∀ left, 0 ≤ left → left ≤ top → 0 ≤ payList f l left → ∀ x ∈ l, P x
  | [], _, _ => fun _ _ _ _ x hx => by cases hx
  | x :: l, hf, hP => fun left h0 h1 h2 y hy => by
    unfold payList at h2
    split at h2
    · omega
    · rename_i h3
      rcases hf x (List.mem_cons_self ..) left h0 with h4 | ⟨h4, h5⟩
      · omega
      · rcases List.mem_cons.1 hy with rfl | hy
        · exact hP _ left h1 h0 h4
        · exact list_ok l (fun y hy => hf y (List.mem_cons_of_mem _ hy)) hP _ h4 (by omega) h2 y hy

end Go.Proofs.Ytikiipahmgpamaa
