/- Whether two data are equal: eq... Printed by wip/gen.py. How the laws count the size of their data. What the sizes count. Printed by wip/gen.py. How large data are: sz... Printed by wip/gen.py. What turns a walk of a law into the row that says it: the arguments' readings opened, and the row's last step. No program in sight. The laws' arguments, opened to plain data. Printed by wip/gen.py. The generated words of types that are new with this seat. Printed by wip/genx.py. -/
import Derived.Test.YtbdicafambkhdaaRows
import Derived.Test.YtbdicafambkhdaaGElems
import Derived.Test.YtbdicafambkhdaaGSmall
import Derived.Test.YtbdicafambkhdaaLib
import Derived.ProofKit
import Derived.Deep.Slices
namespace Go.Proofs.Ytbdicafambkhdaa
open Go.RowKit
attribute [local irreducible] wpQuiet

end Go.Proofs.Ytbdicafambkhdaa

namespace Go.Proofs.Ytbdicafambkhdaa

/-- What is left of a purse once n has been paid; -1: it did not suffice. -/
def pay (n : Nat) (left : Int) : Int := if left - n < 0 then -1 else left - n
/-- One payment behind another. -/
def payThen (f : Int → Int) (left : Int) : Int := if left < 0 then -1 else f left
def payList {α : Type} (f : α → Int → Int) : List α → Int → Int
  | [], left => left
  | x :: l, left => if f x left < 0 then -1 else payList f l (f x left)
/-- A payment is one that says -1, or something from 0 to what there was. -/
def Pays (f : Int → Int) : Prop := ∀ left, 0 ≤ left → f left = -1 ∨ (0 ≤ f left ∧ f left ≤ left)
theorem pays_pay (n : Nat) : Pays (pay n) := fun left h => by unfold pay; split <;> omega
theorem pays_then {f g : Int → Int} (hf : Pays f) (hg : Pays g) : Pays (fun left => payThen g (f left)) := fun left h => by
  show payThen g (f left) = -1 ∨ 0 ≤ payThen g (f left) ∧ payThen g (f left) ≤ left
  unfold payThen
  rcases hf left h with h1 | ⟨h1, h2⟩
  · simp [h1]
  · rw [if_neg (by omega)]
    rcases hg _ h1 with h3 | ⟨h3, h4⟩
    · exact .inl h3
    · exact .inr ⟨h3, by omega⟩
theorem pays_list {α : Type} {f : α → Int → Int} : ∀ (l : List α), (∀ x ∈ l, Pays (f x)) → Pays (payList f l)
  | [], _ => fun left h => .inr ⟨h, Int.le_refl _⟩
  | x :: l, hf => fun left h => by
    unfold payList
    rcases hf x (List.mem_cons_self ..) left h with h1 | ⟨h1, h2⟩
    · simp [h1]
    · rw [if_neg (by omega)]
      rcases pays_list l (fun y hy => hf y (List.mem_cons_of_mem _ hy)) _ h1 with h3 | ⟨h3, h4⟩
      · exact .inl h3
      · exact .inr ⟨h3, by omega⟩
theorem pay_neg {n : Nat} {left : Int} (h : left - n < 0) : pay n left = -1 := by unfold pay; rw [if_pos h]
theorem pay_pos {n : Nat} {left : Int} (h : 0 ≤ left - n) : pay n left = left - n := by unfold pay; rw [if_neg (by omega)]
theorem then_neg {f : Int → Int} : payThen f (-1) = -1 := rfl
theorem then_pos {f : Int → Int} {left : Int} (h : 0 ≤ left) : payThen f left = f left := by unfold payThen; rw [if_neg (by omega)]
/-- Behind k payments q is left, and all goes on as if it had begun here. -/
def PaidTo {α : Type} (f : α → Int → Int) (l : List α) (top q : Int) (k : Nat) : Prop := payList f (l.drop k) q = payList f l top
/-- Where all was paid, each part was. -/
theorem pay_ok {n : Nat} {left : Int} (h : 0 ≤ pay n left) : (n : Int) ≤ left ∧ pay n left = left - n := by
  unfold pay at h ⊢
  split at h <;> rename_i h' <;> simp [h'] at h ⊢
  omega
theorem then_ok {f : Int → Int} {left : Int} (h : 0 ≤ payThen f left) : 0 ≤ left ∧ 0 ≤ f left := by
  unfold payThen at h
  split at h
  · omega
  · exact ⟨by omega, h⟩
theorem list_ok {α : Type} {f : α → Int → Int} {P : α → Prop} {top : Int} : ∀ (l : List α), (∀ x ∈ l, Pays (f x)) → (∀ x left, left ≤ top → 0 ≤ left → 0 ≤ f x left → P x) → ∀ left, 0 ≤ left → left ≤ top → 0 ≤ payList f l left → ∀ x ∈ l, P x
  | [], _, _ => fun _ _ _ _ x hx => by cases hx
  | x :: l, hf, hP => fun left h0 h1 h2 y hy => by
    unfold payList at h2
    split at h2
    · omega
    · rename_i h3
      rcases hf x (List.mem_cons_self ..) left h0 with h4 | ⟨h4, h5⟩
      · omega
      · rcases List.mem_cons.1 hy with rfl | hy
        · exact hP _ left h1 h0 h4
        · exact list_ok l (fun y hy => hf y (List.mem_cons_of_mem _ hy)) hP _ h4 (by omega) h2 y hy

end Go.Proofs.Ytbdicafambkhdaa

namespace Go.Proofs.Ytbdicafambkhdaa

def szSpanS (l : List Span) (left : Int) : Int := pay l.length left
theorem pays_szSpanS (l : List Span) : Pays (szSpanS l) := pays_pay _
theorem small_szSpanS {l : List Span} {left : Int} (_h0 : 0 ≤ left) (h1 : left ≤ 1048576) (h : 0 ≤ szSpanS l left) : SmSpanS l := ⟨by have := (pay_ok h).1; omega, fun _ _ => trivial⟩

def szNode (x : Node) (left : Int) : Int := szSpanS x.books left
theorem pays_szNode (x : Node) : Pays (szNode x) := pays_szSpanS _
theorem small_szNode {x : Node} {left : Int} (h0 : 0 ≤ left) (h1 : left ≤ 1048576) (h : 0 ≤ szNode x left) : SmNode x := by
  unfold szNode at h
  have e0 := h
  have s0 := small_szSpanS h0 h1 e0
  exact s0

def szUse (x : Use) (left : Int) : Int := pay x.owner.size left
theorem pays_szUse (x : Use) : Pays (szUse x) := pays_pay _
theorem small_szUse {x : Use} {left : Int} (_h0 : 0 ≤ left) (_h1 : left ≤ 1048576) (_h : 0 ≤ szUse x left) : SmUse x := trivial

def szInt64S (l : List Int) (left : Int) : Int := pay l.length left
theorem pays_szInt64S (l : List Int) : Pays (szInt64S l) := pays_pay _
theorem small_szInt64S {l : List Int} {left : Int} (_h0 : 0 ≤ left) (h1 : left ≤ 1048576) (h : 0 ≤ szInt64S l left) : SmInt64S l := ⟨by have := (pay_ok h).1; omega, fun _ _ => trivial⟩

def szTask (x : Task) (left : Int) : Int := payThen (szInt64S x.nodes) (pay x.owner.size left)
theorem pays_szTask (x : Task) : Pays (szTask x) := pays_then (pays_pay _) (pays_szInt64S _)
theorem small_szTask {x : Task} {left : Int} (h0 : 0 ≤ left) (h1 : left ≤ 1048576) (h : 0 ≤ szTask x left) : SmTask x := by
  unfold szTask at h
  have e1 := h
  obtain ⟨e0, g1⟩ := then_ok e1
  have p0 : pay x.owner.size left = -1 ∨ (0 ≤ pay x.owner.size left ∧ pay x.owner.size left ≤ left) := (pays_pay x.owner.size) left h0
  have s1 := small_szInt64S e0 (by omega) g1
  exact ⟨trivial, trivial, s1⟩

def szWish (x : Wish) (left : Int) : Int := pay x.owner.size left
theorem pays_szWish (x : Wish) : Pays (szWish x) := pays_pay _
theorem small_szWish {x : Wish} {left : Int} (_h0 : 0 ≤ left) (_h1 : left ≤ 1048576) (_h : 0 ≤ szWish x left) : SmWish x := trivial

def szLabelS (l : List Label) (left : Int) : Int := pay l.length left
theorem pays_szLabelS (l : List Label) : Pays (szLabelS l) := pays_pay _
theorem small_szLabelS {l : List Label} {left : Int} (_h0 : 0 ≤ left) (h1 : left ≤ 1048576) (h : 0 ≤ szLabelS l left) : SmLabelS l := ⟨by have := (pay_ok h).1; omega, fun _ _ => trivial⟩

def szLabelSS (l : List (List Label)) (left : Int) : Int := payThen (payList szLabelS l) (pay l.length left)
theorem pays_szLabelSS (l : List (List Label)) : Pays (szLabelSS l) := pays_then (pays_pay _) (pays_list l fun x _ => pays_szLabelS x)
theorem small_szLabelSS {l : List (List Label)} {left : Int} (h0 : 0 ≤ left) (h1 : left ≤ 1048576) (h : 0 ≤ szLabelSS l left) : SmLabelSS l := by
  obtain ⟨h2, h3⟩ := then_ok h
  obtain ⟨h4, h5⟩ := pay_ok h2
  rw [h5] at h2 h3
  exact ⟨by omega, list_ok l (fun x _ => pays_szLabelS x) (fun x left h6 h7 h8 => small_szLabelS h7 h6 h8) _ h2 (by omega) h3⟩

def szPairS (l : List Pair) (left : Int) : Int := pay l.length left
theorem pays_szPairS (l : List Pair) : Pays (szPairS l) := pays_pay _
theorem small_szPairS {l : List Pair} {left : Int} (_h0 : 0 ≤ left) (h1 : left ≤ 1048576) (h : 0 ≤ szPairS l left) : SmPairS l := ⟨by have := (pay_ok h).1; omega, fun _ _ => ⟨trivial, trivial⟩⟩

def szQuotaS (l : List Quota) (left : Int) : Int := pay l.length left
theorem pays_szQuotaS (l : List Quota) : Pays (szQuotaS l) := pays_pay _
theorem small_szQuotaS {l : List Quota} {left : Int} (_h0 : 0 ≤ left) (h1 : left ≤ 1048576) (h : 0 ≤ szQuotaS l left) : SmQuotaS l := ⟨by have := (pay_ok h).1; omega, fun _ _ => trivial⟩

def szConfig (x : Config) (left : Int) : Int := payThen (szQuotaS x.quotas) (payThen (szPairS x.pairs) (szLabelSS x.nodes left))
theorem pays_szConfig (x : Config) : Pays (szConfig x) := pays_then (pays_then (pays_szLabelSS _) (pays_szPairS _)) (pays_szQuotaS _)
theorem small_szConfig {x : Config} {left : Int} (h0 : 0 ≤ left) (h1 : left ≤ 1048576) (h : 0 ≤ szConfig x left) : SmConfig x := by
  unfold szConfig at h
  have e2 := h
  obtain ⟨e1, g2⟩ := then_ok e2
  obtain ⟨e0, g1⟩ := then_ok e1
  have p0 : szLabelSS x.nodes left = -1 ∨ (0 ≤ szLabelSS x.nodes left ∧ szLabelSS x.nodes left ≤ left) := (pays_szLabelSS x.nodes) left h0
  have p1 : payThen (szPairS x.pairs) (szLabelSS x.nodes left) = -1 ∨ (0 ≤ payThen (szPairS x.pairs) (szLabelSS x.nodes left) ∧ payThen (szPairS x.pairs) (szLabelSS x.nodes left) ≤ left) := (pays_then (pays_szLabelSS x.nodes) (pays_szPairS x.pairs)) left h0
  have s0 := small_szLabelSS h0 h1 e0
  have s1 := small_szPairS e0 (by omega) g1
  have s2 := small_szQuotaS e1 (by omega) g2
  exact ⟨s0, s1, s2⟩

def szNodeS (l : List Node) (left : Int) : Int := payThen (payList szNode l) (pay l.length left)
theorem pays_szNodeS (l : List Node) : Pays (szNodeS l) := pays_then (pays_pay _) (pays_list l fun x _ => pays_szNode x)
theorem small_szNodeS {l : List Node} {left : Int} (h0 : 0 ≤ left) (h1 : left ≤ 1048576) (h : 0 ≤ szNodeS l left) : SmNodeS l := by
  obtain ⟨h2, h3⟩ := then_ok h
  obtain ⟨h4, h5⟩ := pay_ok h2
  rw [h5] at h2 h3
  exact ⟨by omega, list_ok l (fun x _ => pays_szNode x) (fun x left h6 h7 h8 => small_szNode h7 h6 h8) _ h2 (by omega) h3⟩

def szTaskS (l : List Task) (left : Int) : Int := payThen (payList szTask l) (pay l.length left)
theorem pays_szTaskS (l : List Task) : Pays (szTaskS l) := pays_then (pays_pay _) (pays_list l fun x _ => pays_szTask x)
theorem small_szTaskS {l : List Task} {left : Int} (h0 : 0 ≤ left) (h1 : left ≤ 1048576) (h : 0 ≤ szTaskS l left) : SmTaskS l := by
  obtain ⟨h2, h3⟩ := then_ok h
  obtain ⟨h4, h5⟩ := pay_ok h2
  rw [h5] at h2 h3
  exact ⟨by omega, list_ok l (fun x _ => pays_szTask x) (fun x left h6 h7 h8 => small_szTask h7 h6 h8) _ h2 (by omega) h3⟩

def szUseS (l : List Use) (left : Int) : Int := payThen (payList szUse l) (pay l.length left)
theorem pays_szUseS (l : List Use) : Pays (szUseS l) := pays_then (pays_pay _) (pays_list l fun x _ => pays_szUse x)
theorem small_szUseS {l : List Use} {left : Int} (h0 : 0 ≤ left) (h1 : left ≤ 1048576) (h : 0 ≤ szUseS l left) : SmUseS l := by
  obtain ⟨h2, h3⟩ := then_ok h
  obtain ⟨h4, h5⟩ := pay_ok h2
  rw [h5] at h2 h3
  exact ⟨by omega, list_ok l (fun x _ => pays_szUse x) (fun x left h6 h7 h8 => small_szUse h7 h6 h8) _ h2 (by omega) h3⟩

def szYard (x : Yard) (left : Int) : Int := payThen (szUseS x.uses) (payThen (szTaskS x.tasks) (payThen (szNodeS x.nodes) (szConfig x.config left)))
theorem pays_szYard (x : Yard) : Pays (szYard x) := pays_then (pays_then (pays_then (pays_szConfig _) (pays_szNodeS _)) (pays_szTaskS _)) (pays_szUseS _)
theorem small_szYard {x : Yard} {left : Int} (h0 : 0 ≤ left) (h1 : left ≤ 1048576) (h : 0 ≤ szYard x left) : SmYard x := by
  unfold szYard at h
  have e3 := h
  obtain ⟨e2, g3⟩ := then_ok e3
  obtain ⟨e1, g2⟩ := then_ok e2
  obtain ⟨e0, g1⟩ := then_ok e1
  have p0 : szConfig x.config left = -1 ∨ (0 ≤ szConfig x.config left ∧ szConfig x.config left ≤ left) := (pays_szConfig x.config) left h0
  have p1 : payThen (szNodeS x.nodes) (szConfig x.config left) = -1 ∨ (0 ≤ payThen (szNodeS x.nodes) (szConfig x.config left) ∧ payThen (szNodeS x.nodes) (szConfig x.config left) ≤ left) := (pays_then (pays_szConfig x.config) (pays_szNodeS x.nodes)) left h0
  have p2 : payThen (szTaskS x.tasks) (payThen (szNodeS x.nodes) (szConfig x.config left)) = -1 ∨ (0 ≤ payThen (szTaskS x.tasks) (payThen (szNodeS x.nodes) (szConfig x.config left)) ∧ payThen (szTaskS x.tasks) (payThen (szNodeS x.nodes) (szConfig x.config left)) ≤ left) := (pays_then (pays_then (pays_szConfig x.config) (pays_szNodeS x.nodes)) (pays_szTaskS x.tasks)) left h0
  have s0 := small_szConfig h0 h1 e0
  have s1 := small_szNodeS e0 (by omega) g1
  have s2 := small_szTaskS e1 (by omega) g2
  have s3 := small_szUseS e2 (by omega) g3
  exact ⟨s0, s1, s2, s3⟩

def szNoteS (l : List Note) (left : Int) : Int := pay l.length left
theorem pays_szNoteS (l : List Note) : Pays (szNoteS l) := pays_pay _
theorem small_szNoteS {l : List Note} {left : Int} (_h0 : 0 ≤ left) (h1 : left ≤ 1048576) (h : 0 ≤ szNoteS l left) : SmNoteS l := ⟨by have := (pay_ok h).1; omega, fun _ _ => trivial⟩

def szBox (x : Box) (left : Int) : Int := payThen (szNoteS x.log) (payThen (szInt64S x.here) (szInt64S x.next left))
theorem pays_szBox (x : Box) : Pays (szBox x) := pays_then (pays_then (pays_szInt64S _) (pays_szInt64S _)) (pays_szNoteS _)
theorem small_szBox {x : Box} {left : Int} (h0 : 0 ≤ left) (h1 : left ≤ 1048576) (h : 0 ≤ szBox x left) : SmBox x := by
  unfold szBox at h
  have e2 := h
  obtain ⟨e1, g2⟩ := then_ok e2
  obtain ⟨e0, g1⟩ := then_ok e1
  have p0 : szInt64S x.next left = -1 ∨ (0 ≤ szInt64S x.next left ∧ szInt64S x.next left ≤ left) := (pays_szInt64S x.next) left h0
  have p1 : payThen (szInt64S x.here) (szInt64S x.next left) = -1 ∨ (0 ≤ payThen (szInt64S x.here) (szInt64S x.next left) ∧ payThen (szInt64S x.here) (szInt64S x.next left) ≤ left) := (pays_then (pays_szInt64S x.next) (pays_szInt64S x.here)) left h0
  have s0 := small_szInt64S h0 h1 e0
  have s1 := small_szInt64S e0 (by omega) g1
  have s2 := small_szNoteS e1 (by omega) g2
  exact ⟨s0, s1, s2⟩

def szBoxS (l : List Box) (left : Int) : Int := payThen (payList szBox l) (pay l.length left)
theorem pays_szBoxS (l : List Box) : Pays (szBoxS l) := pays_then (pays_pay _) (pays_list l fun x _ => pays_szBox x)
theorem small_szBoxS {l : List Box} {left : Int} (h0 : 0 ≤ left) (h1 : left ≤ 1048576) (h : 0 ≤ szBoxS l left) : SmBoxS l := by
  obtain ⟨h2, h3⟩ := then_ok h
  obtain ⟨h4, h5⟩ := pay_ok h2
  rw [h5] at h2 h3
  exact ⟨by omega, list_ok l (fun x _ => pays_szBox x) (fun x left h6 h7 h8 => small_szBox h7 h6 h8) _ h2 (by omega) h3⟩

def szMail (x : Mail) (left : Int) : Int := szBoxS x.boxes left
theorem pays_szMail (x : Mail) : Pays (szMail x) := pays_szBoxS _
theorem small_szMail {x : Mail} {left : Int} (h0 : 0 ≤ left) (h1 : left ≤ 1048576) (h : 0 ≤ szMail x left) : SmMail x := by
  unfold szMail at h
  have e0 := h
  have s0 := small_szBoxS h0 h1 e0
  exact s0

def szPlace (x : Place) (left : Int) : Int := szInt64S x.nodes left
theorem pays_szPlace (x : Place) : Pays (szPlace x) := pays_szInt64S _
theorem small_szPlace {x : Place} {left : Int} (h0 : 0 ≤ left) (h1 : left ≤ 1048576) (h : 0 ≤ szPlace x left) : SmPlace x := by
  unfold szPlace at h
  have e0 := h
  have s0 := small_szInt64S h0 h1 e0
  exact ⟨trivial, s0⟩

def szNodesOut (x : NodesOut) (left : Int) : Int := szNodeS x.nodes left
theorem pays_szNodesOut (x : NodesOut) : Pays (szNodesOut x) := pays_szNodeS _
theorem small_szNodesOut {x : NodesOut} {left : Int} (h0 : 0 ≤ left) (h1 : left ≤ 1048576) (h : 0 ≤ szNodesOut x left) : SmNodesOut x := by
  unfold szNodesOut at h
  have e0 := h
  have s0 := small_szNodeS h0 h1 e0
  exact s0

def szTaskOut (x : TaskOut) (left : Int) : Int := szTask x.task left
theorem pays_szTaskOut (x : TaskOut) : Pays (szTaskOut x) := pays_szTask _
theorem small_szTaskOut {x : TaskOut} {left : Int} (h0 : 0 ≤ left) (h1 : left ≤ 1048576) (h : 0 ≤ szTaskOut x left) : SmTaskOut x := by
  unfold szTaskOut at h
  have e0 := h
  have s0 := small_szTask h0 h1 e0
  exact s0

def szYardOut (x : YardOut) (left : Int) : Int := szYard x.yard left
theorem pays_szYardOut (x : YardOut) : Pays (szYardOut x) := pays_szYard _
theorem small_szYardOut {x : YardOut} {left : Int} (h0 : 0 ≤ left) (h1 : left ≤ 1048576) (h : 0 ≤ szYardOut x left) : SmYardOut x := by
  unfold szYardOut at h
  have e0 := h
  have s0 := small_szYard h0 h1 e0
  exact s0

def szConfigOut (x : ConfigOut) (left : Int) : Int := szConfig x.config left
theorem pays_szConfigOut (x : ConfigOut) : Pays (szConfigOut x) := pays_szConfig _
theorem small_szConfigOut {x : ConfigOut} {left : Int} (h0 : 0 ≤ left) (h1 : left ≤ 1048576) (h : 0 ≤ szConfigOut x left) : SmConfigOut x := by
  unfold szConfigOut at h
  have e0 := h
  have s0 := small_szConfig h0 h1 e0
  exact s0

def szMailOut (x : MailOut) (left : Int) : Int := szMail x.mail left
theorem pays_szMailOut (x : MailOut) : Pays (szMailOut x) := pays_szMail _
theorem small_szMailOut {x : MailOut} {left : Int} (h0 : 0 ≤ left) (h1 : left ≤ 1048576) (h : 0 ≤ szMailOut x left) : SmMailOut x := by
  unfold szMailOut at h
  have e0 := h
  have s0 := small_szMail h0 h1 e0
  exact s0

def szPlaceS (l : List Place) (left : Int) : Int := payThen (payList szPlace l) (pay l.length left)
theorem pays_szPlaceS (l : List Place) : Pays (szPlaceS l) := pays_then (pays_pay _) (pays_list l fun x _ => pays_szPlace x)
theorem small_szPlaceS {l : List Place} {left : Int} (h0 : 0 ≤ left) (h1 : left ≤ 1048576) (h : 0 ≤ szPlaceS l left) : SmPlaceS l := by
  obtain ⟨h2, h3⟩ := then_ok h
  obtain ⟨h4, h5⟩ := pay_ok h2
  rw [h5] at h2 h3
  exact ⟨by omega, list_ok l (fun x _ => pays_szPlace x) (fun x left h6 h7 h8 => small_szPlace h7 h6 h8) _ h2 (by omega) h3⟩

def szSpanSS (l : List (List Span)) (left : Int) : Int := payThen (payList szSpanS l) (pay l.length left)
theorem pays_szSpanSS (l : List (List Span)) : Pays (szSpanSS l) := pays_then (pays_pay _) (pays_list l fun x _ => pays_szSpanS x)
theorem small_szSpanSS {l : List (List Span)} {left : Int} (h0 : 0 ≤ left) (h1 : left ≤ 1048576) (h : 0 ≤ szSpanSS l left) : SmSpanSS l := by
  obtain ⟨h2, h3⟩ := then_ok h
  obtain ⟨h4, h5⟩ := pay_ok h2
  rw [h5] at h2 h3
  exact ⟨by omega, list_ok l (fun x _ => pays_szSpanS x) (fun x left h6 h7 h8 => small_szSpanS h7 h6 h8) _ h2 (by omega) h3⟩

end Go.Proofs.Ytbdicafambkhdaa

namespace Go.Proofs.Ytbdicafambkhdaa
open Go.RowKit
attribute [local irreducible] wpQuiet

end Go.Proofs.Ytbdicafambkhdaa

namespace Go.Proofs.Ytbdicafambkhdaa
open Go.RowKit Go.ChangeShapes Go.WideShapes Go.Deep

/-- Whatever can be read as data of type t reads as an element. -/
def Opens {α : Type} (P : Program) (t : TypeId) (E : Elem α) : Prop :=
  ∀ {H : Type} {enc : TypeId × Value → H} {w : World} {base : Nat} {spare : Nat → Bool} {held : Bool} {fuel : Nat} {cs : List Value} {x : DataW H × List MemPlace},
    DataW.trod enc P w base spare held fuel t cs = .some x → ∃ y, E.rel (fun _ => True) w cs y

def EStr : Elem ByteArray where
  size := 1
  rel := fun _ _ cs x => cs = [.string x] ∧ Str x
  len := by rintro _ _ _ _ ⟨rfl, _⟩; rfl
  keep := fun _ h => h
  sub := fun _ h => h
  one := by rintro _ _ _ _ ⟨rfl, _⟩; simp [Value.oneCell']

theorem len_succ {cs : List Value} {n : Nat} (h : cs.length = n + 1) : ∃ c r, cs = c :: r ∧ r.length = n := by
  cases cs with
  | nil => cases h
  | cons c r => exact ⟨c, r, rfl, by simpa using h⟩
theorem i64_of_wf {n : Int} (h : (Lit.int .i64 n).wf = true) : I64 n := by
  simp [Lit.wf, IntKind.min, IntKind.max, IntKind.signed, IntKind.bits] at h
  exact ⟨by omega, by omega⟩
theorem opens_int64 {P : Program} {t : TypeId} (ht : P.underlying t = .some (.int .i64)) : Opens P t EInt := by
  intro H enc w base spare held fuel cs x h
  obtain ⟨n, rfl, _, hw⟩ := DataW.trod_int ht h
  exact ⟨n, rfl, i64_of_wf hw⟩
theorem opens_str {P : Program} {t : TypeId} (ht : P.underlying t = .some .string) : Opens P t EStr := by
  intro H enc w base spare held fuel cs x h
  obtain ⟨s, rfl, _, hw⟩ := DataW.trod_string ht h
  exact ⟨s, rfl, hw⟩
theorem cells_range {w : World} {base : Nat} {a : Addr} {n : Nat} {cs : List Value} (h : w.cells? base a n = .some cs) : cs.length = n ∧ ∀ j, j < n → w.cell? (a.add j) = cs[j]? := by
  obtain ⟨_, h1, h2⟩ := World.cells?_some h
  exact ⟨h1, h2⟩
theorem opens_row {α : Type} {P : Program} {t e : TypeId} {E : Elem α} (ht : P.underlying t = .some (.slice e)) (hC : P.cellsOf e = E.size) (hz : 0 < E.size) (ho : Opens P e E) : Opens P t (ERow E) := by
  intro H enc w base spare held fuel cs x h
  rcases open_slice ht h with ⟨rfl, _⟩ | ⟨a, len, cap, m, n, D, Pl, rfl, _, hl, hm, hmm, hxx, hi⟩
  · exact ⟨[], _, rfl, none, 0, rfl, Nat.le_refl _, Nat.zero_le _, fun k x hk => by simp at hk⟩
  · have hlm : len ≤ m := by subst hmm; split <;> omega
    have hel : ∀ i, i < len → ∃ y : α, ∃ cs', E.rel (fun _ => True) w cs' y ∧ cs'.length = E.size ∧ ∀ j, j < E.size → w.cell? ((a.add (i * E.size)).add j) = cs'[j]? := fun i hlt => by
      obtain ⟨cs', hc, hd⟩ := hi i (by omega)
      obtain ⟨y, hy⟩ := ho hd
      rw [hC] at hc
      obtain ⟨h1, h2⟩ := cells_range hc
      exact ⟨y, cs', hy, h1, h2⟩
    have hex : ∃ l : List α, l.length = len ∧ ∀ i y, l[i]? = .some y → ∃ cs', E.rel (fun _ => True) w cs' y ∧ cs'.length = E.size ∧ ∀ j, j < E.size → w.cell? ((a.add (i * E.size)).add j) = cs'[j]? := by
      clear hi hl hm hmm hlm h hxx
      induction len with
      | zero => exact ⟨[], rfl, fun i y hy => by simp at hy⟩
      | succ len ih =>
        obtain ⟨l, h1, h2⟩ := ih (fun i hlt => hel i (by omega))
        obtain ⟨y, hy⟩ := hel len (by omega)
        refine ⟨l ++ [y], by simp [h1], fun i z hz => ?_⟩
        by_cases hi : i < l.length
        · rw [List.getElem?_append_left hi] at hz
          exact h2 i z hz
        · rw [List.getElem?_append_right (by omega)] at hz
          obtain ⟨hlt, rfl⟩ : i - l.length = 0 ∧ y = z := by
            rcases Nat.eq_zero_or_pos (i - l.length) with h0 | h0
            · rw [h0] at hz; exact ⟨h0, by simpa using hz⟩
            · rw [List.getElem?_eq_none (by simp; omega)] at hz; cases hz
          obtain rfl : i = len := by omega
          exact hy
    obtain ⟨l, h1, h2⟩ := hex
    subst h1
    refine ⟨l, _, rfl, some a, cap, rfl, hl, hm, fun k y hk => ?_⟩
    obtain ⟨cs', hy, hcl, hc⟩ := h2 k y hk
    have hs : a.spot = none := by
      have hkl : k < l.length := (List.getElem?_eq_some_iff.1 hk).1
      obtain ⟨cs0, _, hcl0, hc0⟩ := h2 0 (l[0]'(by omega)) (List.getElem?_eq_getElem (by omega))
      have h0 := hc0 0 hz
      rw [List.getElem?_eq_getElem (by omega), Nat.zero_mul] at h0
      have := World.cell?_spot h0
      simpa [Addr.add] using this
    obtain ⟨b, o, s⟩ := a
    obtain rfl : s = none := hs
    refine ⟨b, o, cs', rfl, trivial, hy, fun j v hj => ?_⟩
    have hjl : j < cs'.length := (List.getElem?_eq_some_iff.1 hj).1
    have := hc j (by omega)
    rw [hj] at this
    rw [← this, Addr.add_mid, Addr.add_mid]

section
variable {H : Type} {enc : TypeId × Value → H} {P : Program}
/-- Each of some arguments, in memory that has grown. -/
theorem trodAll_stays (hl : laidOutB P = true) {W W' : World} (hb : Ext W W') {sp : Nat → Bool} : ∀ {ts : List TypeId} {vs : List Value} {ds : List (DataW H)} {ps : List MemPlace}, (∀ t ∈ ts, P.readableRec t = true ∧ t < P.types.size) →
    DataW.TrodAll enc P W 0 (fun _ => true) true ts vs ds ps → (∀ p ∈ ps, p.block < W.heap.size) → (∀ p ∈ ps, sp p.block = true) → DataW.TrodAll enc P W' 0 sp true ts vs ds ps
  | [], [], [], _, _, h, _, _ => h
  | _ :: _, _ :: _, _ :: _, _, hT, ⟨p, q, h1, h2, e⟩, hlt, hs => by
    subst e
    refine ⟨p, q, ?_, trodAll_stays hl hb (fun t ht => hT t (List.mem_cons_of_mem _ ht)) h2 (fun x hx => hlt x (List.mem_append_right _ hx)) (fun x hx => hs x (List.mem_append_right _ hx)), rfl⟩
    exact WideElems.Trod_stays hl (hT _ (List.mem_cons_self ..)).1 (hT _ (List.mem_cons_self ..)).2 h1 (fun x hx => Below.same hb (hlt x (List.mem_append_left _ hx))) (fun x hx => hs x (List.mem_append_left _ hx))

/-- The last step of a law's row: it has answered true, and memory has only grown. -/
theorem law_post {f : Func} {s : ChangeSpec} {apart fresh handsOn again : Bool} {W W' : World} {args : Array Value} {ds : List (DataW H)} {before : List MemPlace} {tb : TypeId}
    (hl : laidOutB P = true) (hr : f.resultTypes = #[tb]) (hb : P.underlying tb = .some .bool) (hT : ∀ t ∈ f.params.toList, P.readableRec t = true ∧ t < P.types.size)
    (hsv : s.vars = []) (hfn : s.fn H (ds ++ []) = { results := [.lit (.bool true)], args := ds })
    (hW : DataW.Whole enc P f.params.toList s.vars apart W args.toList ds [] before) (hx : Ext W W') :
    s.post enc P f apart fresh handsOn again W args (.bool true) W' := by
  have hlt : ∀ p ∈ before, p.block < W.heap.size := fun p hp => hW.lt p hp
  have hold : ∀ p ∈ before, (fun b => decide (b < W.heap.size)) p.block = true := fun p hp => by simpa using hlt p hp
  have hW' := hW
  obtain ⟨pa, pv, hA, hV, rfl, hz, hn⟩ := hW
  rw [hsv] at hV
  obtain rfl : pv = [] := hV
  rw [List.append_nil] at hlt hold hz hn hW'
  have hargs : ∀ sp : Nat → Bool, (∀ p ∈ pa, sp p.block = true) → DataW.TrodAll enc P W' 0 sp true f.params.toList args.toList (s.fn H (ds ++ [])).args pa := fun sp hs => by
    rw [hfn]
    exact trodAll_stays hl hx hT hA hlt hs
  have hres : ∀ (b : Nat) (sp : Nat → Bool) (hd : Bool), DataW.TrodAll enc P W' b sp hd f.resultTypes.toList ((Value.bool true).resultList f.resultTypes.size) (s.fn H (ds ++ [])).results [] := fun b sp hd => by
    rw [hfn, hr]
    exact trodAll_mk1 (shut_bool hb true)
  have hvars : ∀ sp : Nat → Bool, DataW.TrodVars enc P W' sp s.vars (s.fn H (ds ++ [])).vars [] := fun sp => by
    rw [hfn, hsv]
    exact rfl
  refine ⟨ds, [], pa, [], pa, [], hW', hres _ _ _, hargs _ hold, hvars _, World.keptBut_mono (fun p hp => ⟨hp, Or.inr (Or.inl hp)⟩) (Below.frame hx (· ∈ pa)), fun _ => ?_⟩
  refine ⟨ok_one hr rfl (okWide_bool_mk hb true), _, _, ([] ++ pa) ++ [], ⟨[] ++ pa, [], trodAll_append (hargs _ (fun _ _ => rfl)) (hres _ _ _), hvars _, rfl, ?_, ?_⟩, ?_⟩
  · intro b off hp
    have hin : MemPlace.cell b off ∈ pa := by simpa using hp
    rw [Below.frozen hx (hlt _ hin)]
    exact hz b off hin
  · intro ha
    simpa using hn ha
  · intro p hp _
    simpa using hp
end
end Go.Proofs.Ytbdicafambkhdaa

namespace Go.Proofs.Ytbdicafambkhdaa
open Go.RowKit Go.ChangeShapes Go.WideShapes Go.Deep

theorem opens_int : Opens Try.prog 2 EInt := opens_int64 Try.underlying2
theorem opens_string : Opens Try.prog 9 EStr := opens_str Try.underlying9
theorem opens_Int64S : Opens Try.prog 47 (ERow EInt) := opens_row Try.underlying47 (by kernel_rfl) (by decide) opens_int
end Go.Proofs.Ytbdicafambkhdaa

namespace Go.Proofs.Ytbdicafambkhdaa
open Go.RowKit
attribute [local irreducible] wpQuiet

end Go.Proofs.Ytbdicafambkhdaa
