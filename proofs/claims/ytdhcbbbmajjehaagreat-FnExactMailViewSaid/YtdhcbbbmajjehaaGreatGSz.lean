/- How the laws count the size of their data. What the sizes count. Printed by wip/gen.py. How large data are: sz... Printed by wip/gen.py. -/
import Derived.Test.YtdhcbbbmajjehaaGreatTypes
import Derived.Test.YtdhcbbbmajjehaaGreatGSmall
import Derived.Test.YtdhcbbbmajjehaaGreatRows
import Derived.Test.YtdhcbbbmajjehaaGreatGElems
namespace Go.Proofs.YtdhcbbbmajjehaaGreat

/-- What is left of a purse once n has been paid; -1: it did not suffice. -/
def pay (n : Nat) (left : Int) : Int := if left - n < 0 then -1 else left - n
/-- One payment behind another. -/
def payThen (f : Int → Int) (left : Int) : Int := if left < 0 then -1 else f left
def payList {α : Type} (f : α → Int → Int) : List α → Int → Int
  | [], left => left
  | x :: l, left => if f x left < 0 then -1 else payList f l (f x left)
/-- A payment is one that says -1, or something from 0 to what there was. -/
def Pays (f : Int → Int) : Prop := ∀ left, 0 ≤ left → f left = -1 ∨ (0 ≤ f left ∧ f left ≤ left)
theorem pays_pay (n : Nat) : Pays (pay n) := fun left h => by unfold pay; split <;> omega
theorem pays_then {f g : Int → Int} (hf : Pays f) (hg : Pays g) : Pays (fun left => payThen g (f left)) := fun left h => by
  show payThen g (f left) = -1 ∨ 0 ≤ payThen g (f left) ∧ payThen g (f left) ≤ left
  unfold payThen
  rcases hf left h with h1 | ⟨h1, h2⟩
  · simp [h1]
  · rw [if_neg (by omega)]
    rcases hg _ h1 with h3 | ⟨h3, h4⟩
    · exact .inl h3
    · exact .inr ⟨h3, by omega⟩
theorem pays_list {α : Type} {f : α → Int → Int} : ∀ (l : List α), (∀ x ∈ l, Pays (f x)) → Pays (payList f l)
  | [], _ => fun left h => .inr ⟨h, Int.le_refl _⟩
  | x :: l, hf => fun left h => by
    unfold payList
    rcases hf x (List.mem_cons_self ..) left h with h1 | ⟨h1, h2⟩
    · simp [h1]
    · rw [if_neg (by omega)]
      rcases pays_list l (fun y hy => hf y (List.mem_cons_of_mem _ hy)) _ h1 with h3 | ⟨h3, h4⟩
      · exact .inl h3
      · exact .inr ⟨h3, by omega⟩
theorem pay_neg {n : Nat} {left : Int} (h : left - n < 0) : pay n left = -1 := by unfold pay; rw [if_pos h]
theorem pay_pos {n : Nat} {left : Int} (h : 0 ≤ left - n) : pay n left = left - n := by unfold pay; rw [if_neg (by omega)]
theorem then_neg {f : Int → Int} : payThen f (-1) = -1 := rfl
theorem then_pos {f : Int → Int} {left : Int} (h : 0 ≤ left) : payThen f left = f left := by unfold payThen; rw [if_neg (by omega)]
/-- Behind k payments q is left, and all goes on as if it had begun here. -/
def PaidTo {α : Type} (f : α → Int → Int) (l : List α) (top q : Int) (k : Nat) : Prop := payList f (l.drop k) q = payList f l top
/-- Where all was paid, each part was. -/
theorem pay_ok {n : Nat} {left : Int} (h : 0 ≤ pay n left) : (n : Int) ≤ left ∧ pay n left = left - n := by
  unfold pay at h ⊢
  split at h <;> rename_i h' <;> simp [h'] at h ⊢
  omega
theorem then_ok {f : Int → Int} {left : Int} (h : 0 ≤ payThen f left) : 0 ≤ left ∧ 0 ≤ f left := by
  unfold payThen at h
  split at h
  · omega
  · exact ⟨by omega, h⟩
theorem list_ok {α : Type} {f : α → Int → Int} {P : α → Prop} {top : Int} : ∀ (l : List α), (∀ x ∈ l, Pays (f x)) → (∀ x left, left ≤ top → 0 ≤ left → 0 ≤ f x left → P x) → ∀ left, 0 ≤ left → left ≤ top → 0 ≤ payList f l left → ∀ x ∈ l, P x
  | [], _, _ => fun _ _ _ _ x hx => by cases hx
  | x :: l, hf, hP => fun left h0 h1 h2 y hy => by
    unfold payList at h2
    split at h2
    · omega
    · rename_i h3
      rcases hf x (List.mem_cons_self ..) left h0 with h4 | ⟨h4, h5⟩
      · omega
      · rcases List.mem_cons.1 hy with rfl | hy
        · exact hP _ left h1 h0 h4
        · exact list_ok l (fun y hy => hf y (List.mem_cons_of_mem _ hy)) hP _ h4 (by omega) h2 y hy

end Go.Proofs.YtdhcbbbmajjehaaGreat

namespace Go.Proofs.YtdhcbbbmajjehaaGreat

def szSpanS (l : List Span) (left : Int) : Int := pay l.length left
theorem pays_szSpanS (l : List Span) : Pays (szSpanS l) := pays_pay _
theorem small_szSpanS {l : List Span} {left : Int} (_h0 : 0 ≤ left) (h1 : left ≤ 1048576) (h : 0 ≤ szSpanS l left) : SmSpanS l := ⟨by have := (pay_ok h).1; omega, fun _ _ => trivial⟩

def szNode (x : Node) (left : Int) : Int := szSpanS x.books left
theorem pays_szNode (x : Node) : Pays (szNode x) := pays_szSpanS _
theorem small_szNode {x : Node} {left : Int} (h0 : 0 ≤ left) (h1 : left ≤ 1048576) (h : 0 ≤ szNode x left) : SmNode x := by
  unfold szNode at h
  have e0 := h
  have s0 := small_szSpanS h0 h1 e0
  exact s0

def szUse (x : Use) (left : Int) : Int := pay x.owner.size left
theorem pays_szUse (x : Use) : Pays (szUse x) := pays_pay _
theorem small_szUse {x : Use} {left : Int} (_h0 : 0 ≤ left) (_h1 : left ≤ 1048576) (_h : 0 ≤ szUse x left) : SmUse x := trivial

def szInt64S (l : List Int) (left : Int) : Int := pay l.length left
theorem pays_szInt64S (l : List Int) : Pays (szInt64S l) := pays_pay _
theorem small_szInt64S {l : List Int} {left : Int} (_h0 : 0 ≤ left) (h1 : left ≤ 1048576) (h : 0 ≤ szInt64S l left) : SmInt64S l := ⟨by have := (pay_ok h).1; omega, fun _ _ => trivial⟩

def szTask (x : Task) (left : Int) : Int := payThen (szInt64S x.nodes) (pay x.owner.size left)
theorem pays_szTask (x : Task) : Pays (szTask x) := pays_then (pays_pay _) (pays_szInt64S _)
theorem small_szTask {x : Task} {left : Int} (h0 : 0 ≤ left) (h1 : left ≤ 1048576) (h : 0 ≤ szTask x left) : SmTask x := by
  unfold szTask at h
  have e1 := h
  obtain ⟨e0, g1⟩ := then_ok e1
  have p0 : pay x.owner.size left = -1 ∨ (0 ≤ pay x.owner.size left ∧ pay x.owner.size left ≤ left) := (pays_pay x.owner.size) left h0
  have s1 := small_szInt64S e0 (by omega) g1
  exact ⟨trivial, trivial, s1⟩

def szWish (x : Wish) (left : Int) : Int := pay x.owner.size left
theorem pays_szWish (x : Wish) : Pays (szWish x) := pays_pay _
theorem small_szWish {x : Wish} {left : Int} (_h0 : 0 ≤ left) (_h1 : left ≤ 1048576) (_h : 0 ≤ szWish x left) : SmWish x := trivial

def szLabelS (l : List Label) (left : Int) : Int := pay l.length left
theorem pays_szLabelS (l : List Label) : Pays (szLabelS l) := pays_pay _
theorem small_szLabelS {l : List Label} {left : Int} (_h0 : 0 ≤ left) (h1 : left ≤ 1048576) (h : 0 ≤ szLabelS l left) : SmLabelS l := ⟨by have := (pay_ok h).1; omega, fun _ _ => trivial⟩

def szLabelSS (l : List (List Label)) (left : Int) : Int := payThen (payList szLabelS l) (pay l.length left)
theorem pays_szLabelSS (l : List (List Label)) : Pays (szLabelSS l) := pays_then (pays_pay _) (pays_list l fun x _ => pays_szLabelS x)
theorem small_szLabelSS {l : List (List Label)} {left : Int} (h0 : 0 ≤ left) (h1 : left ≤ 1048576) (h : 0 ≤ szLabelSS l left) : SmLabelSS l := by
  obtain ⟨h2, h3⟩ := then_ok h
  obtain ⟨h4, h5⟩ := pay_ok h2
  rw [h5] at h2 h3
  exact ⟨by omega, list_ok l (fun x _ => pays_szLabelS x) (fun x left h6 h7 h8 => small_szLabelS h7 h6 h8) _ h2 (by omega) h3⟩

def szPairS (l : List Pair) (left : Int) : Int := pay l.length left
theorem pays_szPairS (l : List Pair) : Pays (szPairS l) := pays_pay _
theorem small_szPairS {l : List Pair} {left : Int} (_h0 : 0 ≤ left) (h1 : left ≤ 1048576) (h : 0 ≤ szPairS l left) : SmPairS l := ⟨by have := (pay_ok h).1; omega, fun _ _ => ⟨trivial, trivial⟩⟩

def szQuotaS (l : List Quota) (left : Int) : Int := pay l.length left
theorem pays_szQuotaS (l : List Quota) : Pays (szQuotaS l) := pays_pay _
theorem small_szQuotaS {l : List Quota} {left : Int} (_h0 : 0 ≤ left) (h1 : left ≤ 1048576) (h : 0 ≤ szQuotaS l left) : SmQuotaS l := ⟨by have := (pay_ok h).1; omega, fun _ _ => trivial⟩

def szConfig (x : Config) (left : Int) : Int := payThen (szQuotaS x.quotas) (payThen (szPairS x.pairs) (szLabelSS x.nodes left))
theorem pays_szConfig (x : Config) : Pays (szConfig x) := pays_then (pays_then (pays_szLabelSS _) (pays_szPairS _)) (pays_szQuotaS _)
theorem small_szConfig {x : Config} {left : Int} (h0 : 0 ≤ left) (h1 : left ≤ 1048576) (h : 0 ≤ szConfig x left) : SmConfig x := by
  unfold szConfig at h
  have e2 := h
  obtain ⟨e1, g2⟩ := then_ok e2
  obtain ⟨e0, g1⟩ := then_ok e1
  have p0 : szLabelSS x.nodes left = -1 ∨ (0 ≤ szLabelSS x.nodes left ∧ szLabelSS x.nodes left ≤ left) := (pays_szLabelSS x.nodes) left h0
  have p1 : payThen (szPairS x.pairs) (szLabelSS x.nodes left) = -1 ∨ (0 ≤ payThen (szPairS x.pairs) (szLabelSS x.nodes left) ∧ payThen (szPairS x.pairs) (szLabelSS x.nodes left) ≤ left) := (pays_then (pays_szLabelSS x.nodes) (pays_szPairS x.pairs)) left h0
  have s0 := small_szLabelSS h0 h1 e0
  have s1 := small_szPairS e0 (by omega) g1
  have s2 := small_szQuotaS e1 (by omega) g2
  exact ⟨s0, s1, s2⟩

def szNodeS (l : List Node) (left : Int) : Int := payThen (payList szNode l) (pay l.length left)
theorem pays_szNodeS (l : List Node) : Pays (szNodeS l) := pays_then (pays_pay _) (pays_list l fun x _ => pays_szNode x)
theorem small_szNodeS {l : List Node} {left : Int} (h0 : 0 ≤ left) (h1 : left ≤ 1048576) (h : 0 ≤ szNodeS l left) : SmNodeS l := by
  obtain ⟨h2, h3⟩ := then_ok h
  obtain ⟨h4, h5⟩ := pay_ok h2
  rw [h5] at h2 h3
  exact ⟨by omega, list_ok l (fun x _ => pays_szNode x) (fun x left h6 h7 h8 => small_szNode h7 h6 h8) _ h2 (by omega) h3⟩

def szTaskS (l : List Task) (left : Int) : Int := payThen (payList szTask l) (pay l.length left)
theorem pays_szTaskS (l : List Task) : Pays (szTaskS l) := pays_then (pays_pay _) (pays_list l fun x _ => pays_szTask x)
theorem small_szTaskS {l : List Task} {left : Int} (h0 : 0 ≤ left) (h1 : left ≤ 1048576) (h : 0 ≤ szTaskS l left) : SmTaskS l := by
  obtain ⟨h2, h3⟩ := then_ok h
  obtain ⟨h4, h5⟩ := pay_ok h2
  rw [h5] at h2 h3
  exact ⟨by omega, list_ok l (fun x _ => pays_szTask x) (fun x left h6 h7 h8 => small_szTask h7 h6 h8) _ h2 (by omega) h3⟩

def szUseS (l : List Use) (left : Int) : Int := payThen (payList szUse l) (pay l.length left)
theorem pays_szUseS (l : List Use) : Pays (szUseS l) := pays_then (pays_pay _) (pays_list l fun x _ => pays_szUse x)
theorem small_szUseS {l : List Use} {left : Int} (h0 : 0 ≤ left) (h1 : left ≤ 1048576) (h : 0 ≤ szUseS l left) : SmUseS l := by
  obtain ⟨h2, h3⟩ := then_ok h
  obtain ⟨h4, h5⟩ := pay_ok h2
  rw [h5] at h2 h3
  exact ⟨by omega, list_ok l (fun x _ => pays_szUse x) (fun x left h6 h7 h8 => small_szUse h7 h6 h8) _ h2 (by omega) h3⟩

def szYard (x : Yard) (left : Int) : Int := payThen (szUseS x.uses) (payThen (szTaskS x.tasks) (payThen (szNodeS x.nodes) (szConfig x.config left)))
theorem pays_szYard (x : Yard) : Pays (szYard x) := pays_then (pays_then (pays_then (pays_szConfig _) (pays_szNodeS _)) (pays_szTaskS _)) (pays_szUseS _)
theorem small_szYard {x : Yard} {left : Int} (h0 : 0 ≤ left) (h1 : left ≤ 1048576) (h : 0 ≤ szYard x left) : SmYard x := by
  unfold szYard at h
  have e3 := h
  obtain ⟨e2, g3⟩ := then_ok e3
  obtain ⟨e1, g2⟩ := then_ok e2
  obtain ⟨e0, g1⟩ := then_ok e1
  have p0 : szConfig x.config left = -1 ∨ (0 ≤ szConfig x.config left ∧ szConfig x.config left ≤ left) := (pays_szConfig x.config) left h0
  have p1 : payThen (szNodeS x.nodes) (szConfig x.config left) = -1 ∨ (0 ≤ payThen (szNodeS x.nodes) (szConfig x.config left) ∧ payThen (szNodeS x.nodes) (szConfig x.config left) ≤ left) := (pays_then (pays_szConfig x.config) (pays_szNodeS x.nodes)) left h0
  have p2 : payThen (szTaskS x.tasks) (payThen (szNodeS x.nodes) (szConfig x.config left)) = -1 ∨ (0 ≤ payThen (szTaskS x.tasks) (payThen (szNodeS x.nodes) (szConfig x.config left)) ∧ payThen (szTaskS x.tasks) (payThen (szNodeS x.nodes) (szConfig x.config left)) ≤ left) := (pays_then (pays_then (pays_szConfig x.config) (pays_szNodeS x.nodes)) (pays_szTaskS x.tasks)) left h0
  have s0 := small_szConfig h0 h1 e0
  have s1 := small_szNodeS e0 (by omega) g1
  have s2 := small_szTaskS e1 (by omega) g2
  have s3 := small_szUseS e2 (by omega) g3
  exact ⟨s0, s1, s2, s3⟩

def szNoteS (l : List Note) (left : Int) : Int := pay l.length left
theorem pays_szNoteS (l : List Note) : Pays (szNoteS l) := pays_pay _
theorem small_szNoteS {l : List Note} {left : Int} (_h0 : 0 ≤ left) (h1 : left ≤ 1048576) (h : 0 ≤ szNoteS l left) : SmNoteS l := ⟨by have := (pay_ok h).1; omega, fun _ _ => trivial⟩

def szBox (x : Box) (left : Int) : Int := payThen (szNoteS x.log) (payThen (szInt64S x.here) (szInt64S x.next left))
theorem pays_szBox (x : Box) : Pays (szBox x) := pays_then (pays_then (pays_szInt64S _) (pays_szInt64S _)) (pays_szNoteS _)
theorem small_szBox {x : Box} {left : Int} (h0 : 0 ≤ left) (h1 : left ≤ 1048576) (h : 0 ≤ szBox x left) : SmBox x := by
  unfold szBox at h
  have e2 := h
  obtain ⟨e1, g2⟩ := then_ok e2
  obtain ⟨e0, g1⟩ := then_ok e1
  have p0 : szInt64S x.next left = -1 ∨ (0 ≤ szInt64S x.next left ∧ szInt64S x.next left ≤ left) := (pays_szInt64S x.next) left h0
  have p1 : payThen (szInt64S x.here) (szInt64S x.next left) = -1 ∨ (0 ≤ payThen (szInt64S x.here) (szInt64S x.next left) ∧ payThen (szInt64S x.here) (szInt64S x.next left) ≤ left) := (pays_then (pays_szInt64S x.next) (pays_szInt64S x.here)) left h0
  have s0 := small_szInt64S h0 h1 e0
  have s1 := small_szInt64S e0 (by omega) g1
  have s2 := small_szNoteS e1 (by omega) g2
  exact ⟨s0, s1, s2⟩

def szBoxS (l : List Box) (left : Int) : Int := payThen (payList szBox l) (pay l.length left)
theorem pays_szBoxS (l : List Box) : Pays (szBoxS l) := pays_then (pays_pay _) (pays_list l fun x _ => pays_szBox x)
theorem small_szBoxS {l : List Box} {left : Int} (h0 : 0 ≤ left) (h1 : left ≤ 1048576) (h : 0 ≤ szBoxS l left) : SmBoxS l := by
  obtain ⟨h2, h3⟩ := then_ok h
  obtain ⟨h4, h5⟩ := pay_ok h2
  rw [h5] at h2 h3
  exact ⟨by omega, list_ok l (fun x _ => pays_szBox x) (fun x left h6 h7 h8 => small_szBox h7 h6 h8) _ h2 (by omega) h3⟩

def szMail (x : Mail) (left : Int) : Int := szBoxS x.boxes left
theorem pays_szMail (x : Mail) : Pays (szMail x) := pays_szBoxS _
theorem small_szMail {x : Mail} {left : Int} (h0 : 0 ≤ left) (h1 : left ≤ 1048576) (h : 0 ≤ szMail x left) : SmMail x := by
  unfold szMail at h
  have e0 := h
  have s0 := small_szBoxS h0 h1 e0
  exact s0

def szPlace (x : Place) (left : Int) : Int := szInt64S x.nodes left
theorem pays_szPlace (x : Place) : Pays (szPlace x) := pays_szInt64S _
theorem small_szPlace {x : Place} {left : Int} (h0 : 0 ≤ left) (h1 : left ≤ 1048576) (h : 0 ≤ szPlace x left) : SmPlace x := by
  unfold szPlace at h
  have e0 := h
  have s0 := small_szInt64S h0 h1 e0
  exact ⟨trivial, s0⟩

def szNodesOut (x : NodesOut) (left : Int) : Int := szNodeS x.nodes left
theorem pays_szNodesOut (x : NodesOut) : Pays (szNodesOut x) := pays_szNodeS _
theorem small_szNodesOut {x : NodesOut} {left : Int} (h0 : 0 ≤ left) (h1 : left ≤ 1048576) (h : 0 ≤ szNodesOut x left) : SmNodesOut x := by
  unfold szNodesOut at h
  have e0 := h
  have s0 := small_szNodeS h0 h1 e0
  exact s0

def szTaskOut (x : TaskOut) (left : Int) : Int := szTask x.task left
theorem pays_szTaskOut (x : TaskOut) : Pays (szTaskOut x) := pays_szTask _
theorem small_szTaskOut {x : TaskOut} {left : Int} (h0 : 0 ≤ left) (h1 : left ≤ 1048576) (h : 0 ≤ szTaskOut x left) : SmTaskOut x := by
  unfold szTaskOut at h
  have e0 := h
  have s0 := small_szTask h0 h1 e0
  exact s0

def szYardOut (x : YardOut) (left : Int) : Int := szYard x.yard left
theorem pays_szYardOut (x : YardOut) : Pays (szYardOut x) := pays_szYard _
theorem small_szYardOut {x : YardOut} {left : Int} (h0 : 0 ≤ left) (h1 : left ≤ 1048576) (h : 0 ≤ szYardOut x left) : SmYardOut x := by
  unfold szYardOut at h
  have e0 := h
  have s0 := small_szYard h0 h1 e0
  exact s0

def szConfigOut (x : ConfigOut) (left : Int) : Int := szConfig x.config left
theorem pays_szConfigOut (x : ConfigOut) : Pays (szConfigOut x) := pays_szConfig _
theorem small_szConfigOut {x : ConfigOut} {left : Int} (h0 : 0 ≤ left) (h1 : left ≤ 1048576) (h : 0 ≤ szConfigOut x left) : SmConfigOut x := by
  unfold szConfigOut at h
  have e0 := h
  have s0 := small_szConfig h0 h1 e0
  exact s0

def szMailOut (x : MailOut) (left : Int) : Int := szMail x.mail left
theorem pays_szMailOut (x : MailOut) : Pays (szMailOut x) := pays_szMail _
theorem small_szMailOut {x : MailOut} {left : Int} (h0 : 0 ≤ left) (h1 : left ≤ 1048576) (h : 0 ≤ szMailOut x left) : SmMailOut x := by
  unfold szMailOut at h
  have e0 := h
  have s0 := small_szMail h0 h1 e0
  exact s0

def szPlaceS (l : List Place) (left : Int) : Int := payThen (payList szPlace l) (pay l.length left)
theorem pays_szPlaceS (l : List Place) : Pays (szPlaceS l) := pays_then (pays_pay _) (pays_list l fun x _ => pays_szPlace x)
theorem small_szPlaceS {l : List Place} {left : Int} (h0 : 0 ≤ left) (h1 : left ≤ 1048576) (h : 0 ≤ szPlaceS l left) : SmPlaceS l := by
  obtain ⟨h2, h3⟩ := then_ok h
  obtain ⟨h4, h5⟩ := pay_ok h2
  rw [h5] at h2 h3
  exact ⟨by omega, list_ok l (fun x _ => pays_szPlace x) (fun x left h6 h7 h8 => small_szPlace h7 h6 h8) _ h2 (by omega) h3⟩

def szSpanSS (l : List (List Span)) (left : Int) : Int := payThen (payList szSpanS l) (pay l.length left)
theorem pays_szSpanSS (l : List (List Span)) : Pays (szSpanSS l) := pays_then (pays_pay _) (pays_list l fun x _ => pays_szSpanS x)
theorem small_szSpanSS {l : List (List Span)} {left : Int} (h0 : 0 ≤ left) (h1 : left ≤ 1048576) (h : 0 ≤ szSpanSS l left) : SmSpanSS l := by
  obtain ⟨h2, h3⟩ := then_ok h
  obtain ⟨h4, h5⟩ := pay_ok h2
  rw [h5] at h2 h3
  exact ⟨by omega, list_ok l (fun x _ => pays_szSpanS x) (fun x left h6 h7 h8 => small_szSpanS h7 h6 h8) _ h2 (by omega) h3⟩

end Go.Proofs.YtdhcbbbmajjehaaGreat

namespace Go.Proofs.YtdhcbbbmajjehaaGreat
open Go.RowKit
attribute [local irreducible] wpQuiet

set_option maxHeartbeats 4000000 in
set_option maxRecDepth 50000 in
theorem szInt64S_any {S : Nat → Prop} (l : List Int) (v : Value) (left : Int) (w : World) (h : Rd EInt S w v l) (h0 : 0 ≤ left) (h1 : left ≤ 1048576) :
    Calls Tryz.prog 51 #[v, .int .i64 left] w fun e w' => e = .returned (.int .i64 (szInt64S l left)) ∧ Ext w w' := by
  obtain ⟨A, c, rfl, h2, h3, hk⟩ := h.open_
  unfold maxLen at h3
  have HK := Lib.hid hk
  clear hk h
  go_enter Tryz.func51, Tryz.ntmps51
  go_wp2
  all_goals (go_ret; refine ⟨ret_int ?_, Ext.refl _⟩; simp only [szInt64S, pay]; split <;> omega)

set_option maxHeartbeats 4000000 in
set_option maxRecDepth 50000 in
theorem szLabelS_any {S : Nat → Prop} (l : List Label) (v : Value) (left : Int) (w : World) (h : Rd ELabel S w v l) (h0 : 0 ≤ left) (h1 : left ≤ 1048576) :
    Calls Tryz.prog 33 #[v, .int .i64 left] w fun e w' => e = .returned (.int .i64 (szLabelS l left)) ∧ Ext w w' := by
  obtain ⟨A, c, rfl, h2, h3, hk⟩ := h.open_
  unfold maxLen at h3
  have HK := Lib.hid hk
  clear hk h
  go_enter Tryz.func33, Tryz.ntmps33
  go_wp2
  all_goals (go_ret; refine ⟨ret_int ?_, Ext.refl _⟩; simp only [szLabelS, pay]; split <;> omega)

set_option maxHeartbeats 4000000 in
set_option maxRecDepth 50000 in
theorem szLabelSS_any {S : Nat → Prop} (l : List (List Label)) (v : Value) (left : Int) (w : World) (h : Rd (ERow ELabel) S w v l) (h0 : 0 ≤ left) (h1 : left ≤ 1048576) :
    Calls Tryz.prog 13 #[v, .int .i64 left] w fun e w' => e = .returned (.int .i64 (szLabelSS l left)) ∧ Ext w w' := by
  obtain ⟨A, c, rfl, h2, h3, hk⟩ := h.open_
  unfold maxLen at h3
  have HK := Lib.hid hk
  clear hk h
  by_cases hp : left - (l.length : Int) < 0
  · go_enter Tryz.func13, Tryz.ntmps13
    go_wp2_with fail
    go_ret
    exact ⟨ret_int (by rw [szLabelSS, pay_neg hp, then_neg]), Ext.refl _⟩
  · have hq : 0 ≤ left - (l.length : Int) := by omega
    clear hp
    have HF : Hid (szLabelSS l left = payList szLabelS l (left - l.length)) := Lib.hid (by rw [szLabelSS, pay_pos hq, then_pos hq])
    go_enter Tryz.func13, Tryz.ntmps13
    go_wp2_with fail
    go_loopw [1, 5] (fun r i w' => ∃ (k : Nat) (q : Int), k ≤ l.length ∧ i = .int .i64 k ∧ r = .int .i64 q ∧ 0 ≤ q ∧ q ≤ 1048576 ∧ PaidTo szLabelS l (left - l.length) q k ∧ Ext w w') (fun _ i _ => l.length - (intOf i).toNat)
    case atStart => exact ⟨0, left - l.length, by omega, rfl, rfl, hq, by omega, by rw [PaidTo, List.drop_zero], Ext.refl _⟩
    case round =>
      obtain ⟨k, q, hk1, rfl, rfl, q0, q1, hd, hx⟩ := hrel
      have HD : Hid (payList szLabelS (l.drop k) q = payList szLabelS l (left - l.length)) := Lib.hid hd
      have HX := Lib.hid hx
      clear hd
      by_cases hlt : k < l.length
      · obtain ⟨b, o, cs, rfl, hb, hr, hc⟩ := HK.out k hlt
        obtain ⟨v, rfl, hr⟩ := hr
        have c0 := Ext.some hx (hc 0 _ rfl)
        have HR := Lib.hid (hr.ext hx)
        simp only [ERow, Nat.mul_one, Nat.add_zero] at c0
        clear hc hr hx
        have HP := Lib.hid (pays_szLabelS (nth l k) q q0)
        by_cases hneg : szLabelS (nth l k) q < 0
        · have HN : Hid (payList szLabelS l (left - l.length) = -1) := Lib.hid (by rw [← HD.out, drop_nth hlt]; simp only [payList]; rw [if_pos hneg])
          go_wp2_with (first | (go_at_call 33; refine (szLabelS_any (nth l k) v q _ HR.out q0 q1).mono ?_; rintro e w1 ⟨rfl, hx1⟩; have HX1 := Lib.hid hx1; clear hx1))
          go_ret
          exact ⟨ret_int (by rw [HF.out, HN.out]), HX.out.trans HX1.out⟩
        · have hpos : 0 ≤ szLabelS (nth l k) q := by omega
          clear hneg
          have HN : Hid (payList szLabelS (l.drop (k + 1)) (szLabelS (nth l k) q) = payList szLabelS l (left - l.length)) := Lib.hid (by rw [← HD.out, drop_nth hlt]; simp only [payList]; rw [if_neg (by omega)])
          go_wp2_with (first | (go_at_call 33; refine (szLabelS_any (nth l k) v q _ HR.out q0 q1).mono ?_; rintro e w1 ⟨rfl, hx1⟩; have HX1 := Lib.hid hx1; clear hx1))
          go_roundw
          case rel => exact ⟨k + 1, _, by omega, by go_num, rfl, hpos, by have := HP.out; omega, HN.out, HX.out.trans HX1.out⟩
          case measure => simp [intOf]; omega
      · obtain rfl : k = l.length := by omega
        have HE : Hid (payList szLabelS l (left - l.length) = q) := Lib.hid (by rw [← HD.out, List.drop_length]; rfl)
        go_wp2_with fail
        go_ret
        exact ⟨ret_int (by rw [HF.out, HE.out]), HX.out⟩

set_option maxHeartbeats 4000000 in
set_option maxRecDepth 50000 in
theorem szPairS_any {S : Nat → Prop} (l : List Pair) (v : Value) (left : Int) (w : World) (h : Rd EPair S w v l) (h0 : 0 ≤ left) (h1 : left ≤ 1048576) :
    Calls Tryz.prog 14 #[v, .int .i64 left] w fun e w' => e = .returned (.int .i64 (szPairS l left)) ∧ Ext w w' := by
  obtain ⟨A, c, rfl, h2, h3, hk⟩ := h.open_
  unfold maxLen at h3
  have HK := Lib.hid hk
  clear hk h
  go_enter Tryz.func14, Tryz.ntmps14
  go_wp2
  all_goals (go_ret; refine ⟨ret_int ?_, Ext.refl _⟩; simp only [szPairS, pay]; split <;> omega)

set_option maxHeartbeats 4000000 in
set_option maxRecDepth 50000 in
theorem szQuotaS_any {S : Nat → Prop} (l : List Quota) (v : Value) (left : Int) (w : World) (h : Rd EQuota S w v l) (h0 : 0 ≤ left) (h1 : left ≤ 1048576) :
    Calls Tryz.prog 15 #[v, .int .i64 left] w fun e w' => e = .returned (.int .i64 (szQuotaS l left)) ∧ Ext w w' := by
  obtain ⟨A, c, rfl, h2, h3, hk⟩ := h.open_
  unfold maxLen at h3
  have HK := Lib.hid hk
  clear hk h
  go_enter Tryz.func15, Tryz.ntmps15
  go_wp2
  all_goals (go_ret; refine ⟨ret_int ?_, Ext.refl _⟩; simp only [szQuotaS, pay]; split <;> omega)

set_option maxHeartbeats 4000000 in
theorem szConfig_any {S : Nat → Prop} (x : Config) (cs : List Value) (left : Int) (w : World) (h : EConfig.rel S w cs x) (h0 : 0 ≤ left) (h1 : left ≤ 1048576) :
    Calls Tryz.prog 4 #[.agg cs.toArray, .int .i64 left] w fun e w' => e = .returned (.int .i64 (szConfig x left)) ∧ Ext w w' := by
  obtain ⟨v1, v2, v3, rfl, hi, h_1, h_2, h_3⟩ := h
  have H1 := Lib.hid h_1
  have H2 := Lib.hid h_2
  have H3 := Lib.hid h_3
  clear h_1 h_2 h_3
  have HI := Lib.hid hi
  clear hi
  simp only [cellsConfig]
  go_enter Tryz.func4, Tryz.ntmps4
  go_upto_region 1 with (fail)
  obtain ⟨W, B, hW, hB, hx0, hbox⟩ := box_new w #[v1, v2, v3, .int .i64 x.half] 26
  rw [← hW, ← hB]
  have A0 : Hid (Blk W B 26 #[v1, v2, v3, .int .i64 x.half]) := Lib.hid (by rw [hW, hB]; exact Blk.new w _ _)
  have X0 := Lib.hid hx0
  clear hW hB hbox hx0
  have ac := A0.out.cell
  go_wp2_with (first
    | (go_at_call 13; (with_reducible refine (szLabelSS_any x.nodes v1 left _ (H1.out.ext X0.out) (by omega) (by omega)).mono ?_); rintro e w1 ⟨rfl, hx⟩; have P1 := Lib.hid (pays_szLabelSS x.nodes left (by omega)); have X1 := Lib.hid (X0.out.trans hx); have A1 := Lib.hid (A0.out.ext hx); clear hx X0 A0 ac; have ac := A1.out.cell)
    | (go_at_call 14; (with_reducible refine (szPairS_any x.pairs v2 (szLabelSS x.nodes left) _ (H2.out.ext X1.out) (by have q1 := P1.out; omega) (by have q1 := P1.out; omega)).mono ?_); rintro e w2 ⟨rfl, hx⟩; have P2 := Lib.hid (pays_szPairS x.pairs (szLabelSS x.nodes left) (by have q1 := P1.out; omega)); have X2 := Lib.hid (X1.out.trans hx); have A2 := Lib.hid (A1.out.ext hx); clear hx X1 A1 ac; have ac := A2.out.cell)
    | (go_at_call 15; (with_reducible refine (szQuotaS_any x.quotas v3 (szPairS x.pairs (szLabelSS x.nodes left)) _ (H3.out.ext X2.out) (by have q1 := P1.out; have q2 := P2.out; omega) (by have q1 := P1.out; have q2 := P2.out; omega)).mono ?_); rintro e w3 ⟨rfl, hx⟩; have P3 := Lib.hid (pays_szQuotaS x.quotas (szPairS x.pairs (szLabelSS x.nodes left)) (by have q1 := P1.out; have q2 := P2.out; omega)); have X3 := Lib.hid (X2.out.trans hx); have A3 := Lib.hid (A2.out.ext hx); clear hx X2 A2 ac; have ac := A3.out.cell))
  all_goals (go_ret; refine ⟨ret_int ?_, by first | exact X3.out | exact X2.out | exact X1.out | exact X0.out⟩; (try have q1 := P1.out); (try have q2 := P2.out); (try have q3 := P3.out); simp only [szConfig, payThen]; all_goals (repeat' split); all_goals omega)

set_option maxHeartbeats 4000000 in
set_option maxRecDepth 50000 in
theorem szNoteS_any {S : Nat → Prop} (l : List Note) (v : Value) (left : Int) (w : World) (h : Rd ENote S w v l) (h0 : 0 ≤ left) (h1 : left ≤ 1048576) :
    Calls Tryz.prog 52 #[v, .int .i64 left] w fun e w' => e = .returned (.int .i64 (szNoteS l left)) ∧ Ext w w' := by
  obtain ⟨A, c, rfl, h2, h3, hk⟩ := h.open_
  unfold maxLen at h3
  have HK := Lib.hid hk
  clear hk h
  go_enter Tryz.func52, Tryz.ntmps52
  go_wp2
  all_goals (go_ret; refine ⟨ret_int ?_, Ext.refl _⟩; simp only [szNoteS, pay]; split <;> omega)

set_option maxHeartbeats 4000000 in
theorem szBox_any {S : Nat → Prop} (x : Box) (cs : List Value) (left : Int) (w : World) (h : EBox.rel S w cs x) (h0 : 0 ≤ left) (h1 : left ≤ 1048576) :
    Calls Tryz.prog 34 #[.agg cs.toArray, .int .i64 left] w fun e w' => e = .returned (.int .i64 (szBox x left)) ∧ Ext w w' := by
  obtain ⟨v1, v2, v3, rfl, hi, h_1, h_2, h_3⟩ := h
  have H1 := Lib.hid h_1
  have H2 := Lib.hid h_2
  have H3 := Lib.hid h_3
  clear h_1 h_2 h_3
  have HI := Lib.hid hi
  clear hi
  simp only [cellsBox]
  go_enter Tryz.func34, Tryz.ntmps34
  go_upto_region 1 with (fail)
  obtain ⟨W, B, hW, hB, hx0, hbox⟩ := box_new w #[v1, v2, v3] 78
  rw [← hW, ← hB]
  have A0 : Hid (Blk W B 78 #[v1, v2, v3]) := Lib.hid (by rw [hW, hB]; exact Blk.new w _ _)
  have X0 := Lib.hid hx0
  clear hW hB hbox hx0
  have ac := A0.out.cell
  go_wp2_with (first
    | (go_at_call 51; (with_reducible refine (szInt64S_any x.next v1 left _ (H1.out.ext X0.out) (by omega) (by omega)).mono ?_); rintro e w1 ⟨rfl, hx⟩; have P1 := Lib.hid (pays_szInt64S x.next left (by omega)); have X1 := Lib.hid (X0.out.trans hx); have A1 := Lib.hid (A0.out.ext hx); clear hx X0 A0 ac; have ac := A1.out.cell)
    | (go_at_call 51; (with_reducible refine (szInt64S_any x.here v2 (szInt64S x.next left) _ (H2.out.ext X1.out) (by have q1 := P1.out; omega) (by have q1 := P1.out; omega)).mono ?_); rintro e w2 ⟨rfl, hx⟩; have P2 := Lib.hid (pays_szInt64S x.here (szInt64S x.next left) (by have q1 := P1.out; omega)); have X2 := Lib.hid (X1.out.trans hx); have A2 := Lib.hid (A1.out.ext hx); clear hx X1 A1 ac; have ac := A2.out.cell)
    | (go_at_call 52; (with_reducible refine (szNoteS_any x.log v3 (szInt64S x.here (szInt64S x.next left)) _ (H3.out.ext X2.out) (by have q1 := P1.out; have q2 := P2.out; omega) (by have q1 := P1.out; have q2 := P2.out; omega)).mono ?_); rintro e w3 ⟨rfl, hx⟩; have P3 := Lib.hid (pays_szNoteS x.log (szInt64S x.here (szInt64S x.next left)) (by have q1 := P1.out; have q2 := P2.out; omega)); have X3 := Lib.hid (X2.out.trans hx); have A3 := Lib.hid (A2.out.ext hx); clear hx X2 A2 ac; have ac := A3.out.cell))
  all_goals (go_ret; refine ⟨ret_int ?_, by first | exact X3.out | exact X2.out | exact X1.out | exact X0.out⟩; (try have q1 := P1.out); (try have q2 := P2.out); (try have q3 := P3.out); simp only [szBox, payThen]; all_goals (repeat' split); all_goals omega)

set_option maxHeartbeats 4000000 in
set_option maxRecDepth 50000 in
theorem szBoxS_any {S : Nat → Prop} (l : List Box) (v : Value) (left : Int) (w : World) (h : Rd EBox S w v l) (h0 : 0 ≤ left) (h1 : left ≤ 1048576) :
    Calls Tryz.prog 16 #[v, .int .i64 left] w fun e w' => e = .returned (.int .i64 (szBoxS l left)) ∧ Ext w w' := by
  obtain ⟨A, c, rfl, h2, h3, hk⟩ := h.open_
  unfold maxLen at h3
  have HK := Lib.hid hk
  clear hk h
  by_cases hp : left - (l.length : Int) < 0
  · go_enter Tryz.func16, Tryz.ntmps16
    go_wp2_with fail
    go_ret
    exact ⟨ret_int (by rw [szBoxS, pay_neg hp, then_neg]), Ext.refl _⟩
  · have hq : 0 ≤ left - (l.length : Int) := by omega
    clear hp
    have HF : Hid (szBoxS l left = payList szBox l (left - l.length)) := Lib.hid (by rw [szBoxS, pay_pos hq, then_pos hq])
    go_enter Tryz.func16, Tryz.ntmps16
    go_wp2_with fail
    go_loopw [1, 5] (fun r i w' => ∃ (k : Nat) (q : Int), k ≤ l.length ∧ i = .int .i64 k ∧ r = .int .i64 q ∧ 0 ≤ q ∧ q ≤ 1048576 ∧ PaidTo szBox l (left - l.length) q k ∧ Ext w w') (fun _ i _ => l.length - (intOf i).toNat)
    case atStart => exact ⟨0, left - l.length, by omega, rfl, rfl, hq, by omega, by rw [PaidTo, List.drop_zero], Ext.refl _⟩
    case round =>
      obtain ⟨k, q, hk1, rfl, rfl, q0, q1, hd, hx⟩ := hrel
      have HD : Hid (payList szBox (l.drop k) q = payList szBox l (left - l.length)) := Lib.hid hd
      have HX := Lib.hid hx
      clear hd
      by_cases hlt : k < l.length
      · obtain ⟨b, o, cs, rfl, hb, hr, hc⟩ := HK.out k hlt
        have HR := Lib.hid (EBox.keep (hx.same S) hr)
        have HC := Lib.hid (hx.range hc)
        have HI : Hid ((Tryz.prog.info? 78).map (·.size) = some cs.length) := Lib.hid (by rw [EBox.len hr]; kernel_rfl)
        clear hr hc hx
        have HP := Lib.hid (pays_szBox (nth l k) q q0)
        by_cases hneg : szBox (nth l k) q < 0
        · have HN : Hid (payList szBox l (left - l.length) = -1) := Lib.hid (by rw [← HD.out, drop_nth hlt]; simp only [payList]; rw [if_pos hneg])
          go_wp2_with (first | (go_at_call 34; refine (szBox_any (nth l k) cs q _ HR.out q0 q1).mono ?_; rintro e w1 ⟨rfl, hx1⟩; have HX1 := Lib.hid hx1; clear hx1) | (refine wpList_load_mid rfl 78 _ rfl b (o + k * 3) rfl cs _ HC.out Tryz.underlying78 rfl HI.out ?_))
          go_ret
          exact ⟨ret_int (by rw [HF.out, HN.out]), HX.out.trans HX1.out⟩
        · have hpos : 0 ≤ szBox (nth l k) q := by omega
          clear hneg
          have HN : Hid (payList szBox (l.drop (k + 1)) (szBox (nth l k) q) = payList szBox l (left - l.length)) := Lib.hid (by rw [← HD.out, drop_nth hlt]; simp only [payList]; rw [if_neg (by omega)])
          go_wp2_with (first | (go_at_call 34; refine (szBox_any (nth l k) cs q _ HR.out q0 q1).mono ?_; rintro e w1 ⟨rfl, hx1⟩; have HX1 := Lib.hid hx1; clear hx1) | (refine wpList_load_mid rfl 78 _ rfl b (o + k * 3) rfl cs _ HC.out Tryz.underlying78 rfl HI.out ?_))
          go_roundw
          case rel => exact ⟨k + 1, _, by omega, by go_num, rfl, hpos, by have := HP.out; omega, HN.out, HX.out.trans HX1.out⟩
          case measure => simp [intOf]; omega
      · obtain rfl : k = l.length := by omega
        have HE : Hid (payList szBox l (left - l.length) = q) := Lib.hid (by rw [← HD.out, List.drop_length]; rfl)
        go_wp2_with fail
        go_ret
        exact ⟨ret_int (by rw [HF.out, HE.out]), HX.out⟩

set_option maxHeartbeats 4000000 in
theorem szMail_any {S : Nat → Prop} (x : Mail) (cs : List Value) (left : Int) (w : World) (h : EMail.rel S w cs x) (h0 : 0 ≤ left) (h1 : left ≤ 1048576) :
    Calls Tryz.prog 5 #[.agg cs.toArray, .int .i64 left] w fun e w' => e = .returned (.int .i64 (szMail x left)) ∧ Ext w w' := by
  obtain ⟨v1, rfl, hi, h_1⟩ := h
  have H1 := Lib.hid h_1
  clear h_1
  have HI := Lib.hid hi
  clear hi
  simp only [cellsMail]
  go_enter Tryz.func5, Tryz.ntmps5
  go_upto_region 1 with (fail)
  obtain ⟨W, B, hW, hB, hx0, hbox⟩ := box_new w #[v1] 29
  rw [← hW, ← hB]
  have A0 : Hid (Blk W B 29 #[v1]) := Lib.hid (by rw [hW, hB]; exact Blk.new w _ _)
  have X0 := Lib.hid hx0
  clear hW hB hbox hx0
  have ac := A0.out.cell
  go_wp2_with (first
    | (go_at_call 16; (with_reducible refine (szBoxS_any x.boxes v1 left _ (H1.out.ext X0.out) (by omega) (by omega)).mono ?_); rintro e w1 ⟨rfl, hx⟩; have P1 := Lib.hid (pays_szBoxS x.boxes left (by omega)); have X1 := Lib.hid (X0.out.trans hx); have A1 := Lib.hid (A0.out.ext hx); clear hx X0 A0 ac; have ac := A1.out.cell))
  all_goals (go_ret; refine ⟨ret_int ?_, by first | exact X1.out | exact X0.out⟩; (try have q1 := P1.out); simp only [szMail]; all_goals (repeat' split); all_goals omega)

end Go.Proofs.YtdhcbbbmajjehaaGreat
