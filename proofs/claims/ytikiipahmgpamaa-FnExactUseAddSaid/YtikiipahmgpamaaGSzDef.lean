/- What the sizes count. Printed by wip/gen.py. -/
import Derived.Test.YtikiipahmgpamaaPurse
import Derived.Test.YtikiipahmgpamaaGSmall
namespace Go.Proofs.Ytikiipahmgpamaa

def szSpanS (l : List Span) (left : Int) : Int := pay l.length left
theorem pays_szSpanS (l : List Span) : Pays (szSpanS l) := pays_pay _
theorem small_szSpanS {l : List Span} {left : Int} (_h0 : 0 ≤ left) (h1 : left ≤ 1048576) (h : 0 ≤ szSpanS l left) : SmSpanS l := ⟨by have := (pay_ok h).1; omega, fun _ _ => trivial⟩

def szNode (x : Node) (left : Int) : Int := szSpanS x.books left
theorem pays_szNode (x : Node) : Pays (szNode x) := pays_szSpanS _
theorem small_szNode {x : Node} {left : Int} (h0 : 0 ≤ left) (h1 : left ≤ 1048576) (h : 0 ≤ szNode x left) : SmNode x := by
  unfold szNode at h
  have e0 := h
  have s0 := small_szSpanS h0 h1 e0
  exact s0

def szUse (x : Use) (left : Int) : Int := pay x.owner.size left
theorem pays_szUse (x : Use) : Pays (szUse x) := pays_pay _
theorem small_szUse {x : Use} {left : Int} (_h0 : 0 ≤ left) (_h1 : left ≤ 1048576) (_h : 0 ≤ szUse x left) : SmUse x := trivial

def szInt64S (l : List Int) (left : Int) : Int := pay l.length left
theorem pays_szInt64S (l : List Int) : Pays (szInt64S l) := pays_pay _
theorem small_szInt64S {l : List Int} {left : Int} (_h0 : 0 ≤ left) (h1 : left ≤ 1048576) (h : 0 ≤ szInt64S l left) : SmInt64S l := ⟨by have := (pay_ok h).1; omega, fun _ _ => trivial⟩

def szTask (x : Task) (left : Int) : Int := payThen (szInt64S x.nodes) (pay x.owner.size left)
theorem pays_szTask (x : Task) : Pays (szTask x) := pays_then (pays_pay _) (pays_szInt64S _)
theorem small_szTask {x : Task} {left : Int} (h0 : 0 ≤ left) (h1 : left ≤ 1048576) (h : 0 ≤ szTask x left) : SmTask x := by
  unfold szTask at h
  have e1 := h
  obtain ⟨e0, g1⟩ := then_ok e1
  have p0 : pay x.owner.size left = -1 ∨ (0 ≤ pay x.owner.size left ∧ pay x.owner.size left ≤ left) := (pays_pay x.owner.size) left h0
  have s1 := small_szInt64S e0 (by omega) g1
  exact ⟨trivial, trivial, s1⟩

def szWish (x : Wish) (left : Int) : Int := pay x.owner.size left
theorem pays_szWish (x : Wish) : Pays (szWish x) := pays_pay _
theorem small_szWish {x : Wish} {left : Int} (_h0 : 0 ≤ left) (_h1 : left ≤ 1048576) (_h : 0 ≤ szWish x left) : SmWish x := trivial

def szLabelS (l : List Label) (left : Int) : Int := pay l.length left
theorem pays_szLabelS (l : List Label) : Pays (szLabelS l) := pays_pay _
theorem small_szLabelS {l : List Label} {left : Int} (_h0 : 0 ≤ left) (h1 : left ≤ 1048576) (h : 0 ≤ szLabelS l left) : SmLabelS l := ⟨by have := (pay_ok h).1; omega, fun _ _ => trivial⟩

def szLabelSS (l : List (List Label)) (left : Int) : Int := payThen (payList szLabelS l) (pay l.length left)
theorem pays_szLabelSS (l : List (List Label)) : Pays (szLabelSS l) := pays_then (pays_pay _) (pays_list l fun x _ => pays_szLabelS x)
theorem small_szLabelSS {l : List (List Label)} {left : Int} (h0 : 0 ≤ left) (h1 : left ≤ 1048576) (h : 0 ≤ szLabelSS l left) : SmLabelSS l := by
  obtain ⟨h2, h3⟩ := then_ok h
  obtain ⟨h4, h5⟩ := pay_ok h2
  rw [h5] at h2 h3
  exact ⟨by omega, list_ok l (fun x _ => pays_szLabelS x) (fun x left h6 h7 h8 => small_szLabelS h7 h6 h8) _ h2 (by omega) h3⟩

def szPairS (l : List Pair) (left : Int) : Int := pay l.length left
theorem pays_szPairS (l : List Pair) : Pays (szPairS l) := pays_pay _
theorem small_szPairS {l : List Pair} {left : Int} (_h0 : 0 ≤ left) (h1 : left ≤ 1048576) (h : 0 ≤ szPairS l left) : SmPairS l := ⟨by have := (pay_ok h).1; omega, fun _ _ => ⟨trivial, trivial⟩⟩

def szQuotaS (l : List Quota) (left : Int) : Int := pay l.length left
theorem pays_szQuotaS (l : List Quota) : Pays (szQuotaS l) := pays_pay _
theorem small_szQuotaS {l : List Quota} {left : Int} (_h0 : 0 ≤ left) (h1 : left ≤ 1048576) (h : 0 ≤ szQuotaS l left) : SmQuotaS l := ⟨by have := (pay_ok h).1; omega, fun _ _ => trivial⟩

def szConfig (x : Config) (left : Int) : Int := payThen (szQuotaS x.quotas) (payThen (szPairS x.pairs) (szLabelSS x.nodes left))
theorem pays_szConfig (x : Config) : Pays (szConfig x) := pays_then (pays_then (pays_szLabelSS _) (pays_szPairS _)) (pays_szQuotaS _)
theorem small_szConfig {x : Config} {left : Int} (h0 : 0 ≤ left) (h1 : left ≤ 1048576) (h : 0 ≤ szConfig x left) : SmConfig x := by
  unfold szConfig at h
  have e2 := h
  obtain ⟨e1, g2⟩ := then_ok e2
  obtain ⟨e0, g1⟩ := then_ok e1
  have p0 : szLabelSS x.nodes left = -1 ∨ (0 ≤ szLabelSS x.nodes left ∧ szLabelSS x.nodes left ≤ left) := (pays_szLabelSS x.nodes) left h0
  have p1 : payThen (szPairS x.pairs) (szLabelSS x.nodes left) = -1 ∨ (0 ≤ payThen (szPairS x.pairs) (szLabelSS x.nodes left) ∧ payThen (szPairS x.pairs) (szLabelSS x.nodes left) ≤ left) := (pays_then (pays_szLabelSS x.nodes) (pays_szPairS x.pairs)) left h0
  have s0 := small_szLabelSS h0 h1 e0
  have s1 := small_szPairS e0 (by omega) g1
  have s2 := small_szQuotaS e1 (by omega) g2
  exact ⟨s0, s1, s2⟩

def szNodeS (l : List Node) (left : Int) : Int := payThen (payList szNode l) (pay l.length left)
theorem pays_szNodeS (l : List Node) : Pays (szNodeS l) := pays_then (pays_pay _) (pays_list l fun x _ => pays_szNode x)
theorem small_szNodeS {l : List Node} {left : Int} (h0 : 0 ≤ left) (h1 : left ≤ 1048576) (h : 0 ≤ szNodeS l left) : SmNodeS l := by
  obtain ⟨h2, h3⟩ := then_ok h
  obtain ⟨h4, h5⟩ := pay_ok h2
  rw [h5] at h2 h3
  exact ⟨by omega, list_ok l (fun x _ => pays_szNode x) (fun x left h6 h7 h8 => small_szNode h7 h6 h8) _ h2 (by omega) h3⟩

def szTaskS (l : List Task) (left : Int) : Int := payThen (payList szTask l) (pay l.length left)
theorem pays_szTaskS (l : List Task) : Pays (szTaskS l) := pays_then (pays_pay _) (pays_list l fun x _ => pays_szTask x)
theorem small_szTaskS {l : List Task} {left : Int} (h0 : 0 ≤ left) (h1 : left ≤ 1048576) (h : 0 ≤ szTaskS l left) : SmTaskS l := by
  obtain ⟨h2, h3⟩ := then_ok h
  obtain ⟨h4, h5⟩ := pay_ok h2
  rw [h5] at h2 h3
  exact ⟨by omega, list_ok l (fun x _ => pays_szTask x) (fun x left h6 h7 h8 => small_szTask h7 h6 h8) _ h2 (by omega) h3⟩

def szUseS (l : List Use) (left : Int) : Int := payThen (payList szUse l) (pay l.length left)
theorem pays_szUseS (l : List Use) : Pays (szUseS l) := pays_then (pays_pay _) (pays_list l fun x _ => pays_szUse x)
theorem small_szUseS {l : List Use} {left : Int} (h0 : 0 ≤ left) (h1 : left ≤ 1048576) (h : 0 ≤ szUseS l left) : SmUseS l := by
  obtain ⟨h2, h3⟩ := then_ok h
  obtain ⟨h4, h5⟩ := pay_ok h2
  rw [h5] at h2 h3
  exact ⟨by omega, list_ok l (fun x _ => pays_szUse x) (fun x left h6 h7 h8 => small_szUse h7 h6 h8) _ h2 (by omega) h3⟩

def szYard (x : Yard) (left : Int) : Int := payThen (szUseS x.uses) (payThen (szTaskS x.tasks) (payThen (szNodeS x.nodes) (szConfig x.config left)))
theorem pays_szYard (x : Yard) : Pays (szYard x) := pays_then (pays_then (pays_then (pays_szConfig _) (pays_szNodeS _)) (pays_szTaskS _)) (pays_szUseS _)
theorem small_szYard {x : Yard} {left : Int} (h0 : 0 ≤ left) (h1 : left ≤ 1048576) (h : 0 ≤ szYard x left) : SmYard x := by
  unfold szYard at h
  have e3 := h
  obtain ⟨e2, g3⟩ := then_ok e3
  obtain ⟨e1, g2⟩ := then_ok e2
  obtain ⟨e0, g1⟩ := then_ok e1
  have p0 : szConfig x.config left = -1 ∨ (0 ≤ szConfig x.config left ∧ szConfig x.config left ≤ left) := (pays_szConfig x.config) left h0
  have p1 : payThen (szNodeS x.nodes) (szConfig x.config left) = -1 ∨ (0 ≤ payThen (szNodeS x.nodes) (szConfig x.config left) ∧ payThen (szNodeS x.nodes) (szConfig x.config left) ≤ left) := (pays_then (pays_szConfig x.config) (pays_szNodeS x.nodes)) left h0
  have p2 : payThen (szTaskS x.tasks) (payThen (szNodeS x.nodes) (szConfig x.config left)) = -1 ∨ (0 ≤ payThen (szTaskS x.tasks) (payThen (szNodeS x.nodes) (szConfig x.config left)) ∧ payThen (szTaskS x.tasks) (payThen (szNodeS x.nodes) (szConfig x.config left)) ≤ left) := (pays_then (pays_then (pays_szConfig x.config) (pays_szNodeS x.nodes)) (pays_szTaskS x.tasks)) left h0
  have s0 := small_szConfig h0 h1 e0
  have s1 := small_szNodeS e0 (by omega) g1
  have s2 := small_szTaskS e1 (by omega) g2
  have s3 := small_szUseS e2 (by omega) g3
  exact ⟨s0, s1, s2, s3⟩

def szNoteS (l : List Note) (left : Int) : Int := pay l.length left
theorem pays_szNoteS (l : List Note) : Pays (szNoteS l) := pays_pay _
theorem small_szNoteS {l : List Note} {left : Int} (_h0 : 0 ≤ left) (h1 : left ≤ 1048576) (h : 0 ≤ szNoteS l left) : SmNoteS l := ⟨by have := (pay_ok h).1; omega, fun _ _ => trivial⟩

def szBox (x : Box) (left : Int) : Int := payThen (szNoteS x.log) (payThen (szInt64S x.here) (szInt64S x.next left))
theorem pays_szBox (x : Box) : Pays (szBox x) := pays_then (pays_then (pays_szInt64S _) (pays_szInt64S _)) (pays_szNoteS _)
theorem small_szBox {x : Box} {left : Int} (h0 : 0 ≤ left) (h1 : left ≤ 1048576) (h : 0 ≤ szBox x left) : SmBox x := by
  unfold szBox at h
  have e2 := h
  obtain ⟨e1, g2⟩ := then_ok e2
  obtain ⟨e0, g1⟩ := then_ok e1
  have p0 : szInt64S x.next left = -1 ∨ (0 ≤ szInt64S x.next left ∧ szInt64S x.next left ≤ left) := (pays_szInt64S x.next) left h0
  have p1 : payThen (szInt64S x.here) (szInt64S x.next left) = -1 ∨ (0 ≤ payThen (szInt64S x.here) (szInt64S x.next left) ∧ payThen (szInt64S x.here) (szInt64S x.next left) ≤ left) := (pays_then (pays_szInt64S x.next) (pays_szInt64S x.here)) left h0
  have s0 := small_szInt64S h0 h1 e0
  have s1 := small_szInt64S e0 (by omega) g1
  have s2 := small_szNoteS e1 (by omega) g2
  exact ⟨s0, s1, s2⟩

def szBoxS (l : List Box) (left : Int) : Int := payThen (payList szBox l) (pay l.length left)
theorem pays_szBoxS (l : List Box) : Pays (szBoxS l) := pays_then (pays_pay _) (pays_list l fun x _ => pays_szBox x)
theorem small_szBoxS {l : List Box} {left : Int} (h0 : 0 ≤ left) (h1 : left ≤ 1048576) (h : 0 ≤ szBoxS l left) : SmBoxS l := by
  obtain ⟨h2, h3⟩ := then_ok h
  obtain ⟨h4, h5⟩ := pay_ok h2
  rw [h5] at h2 h3
  exact ⟨by omega, list_ok l (fun x _ => pays_szBox x) (fun x left h6 h7 h8 => small_szBox h7 h6 h8) _ h2 (by omega) h3⟩

def szMail (x : Mail) (left : Int) : Int := szBoxS x.boxes left
theorem pays_szMail (x : Mail) : Pays (szMail x) := pays_szBoxS _
theorem small_szMail {x : Mail} {left : Int} (h0 : 0 ≤ left) (h1 : left ≤ 1048576) (h : 0 ≤ szMail x left) : SmMail x := by
  unfold szMail at h
  have e0 := h
  have s0 := small_szBoxS h0 h1 e0
  exact s0

def szPlace (x : Place) (left : Int) : Int := szInt64S x.nodes left
theorem pays_szPlace (x : Place) : Pays (szPlace x) := pays_szInt64S _
theorem small_szPlace {x : Place} {left : Int} (h0 : 0 ≤ left) (h1 : left ≤ 1048576) (h : 0 ≤ szPlace x left) : SmPlace x := by
  unfold szPlace at h
  have e0 := h
  have s0 := small_szInt64S h0 h1 e0
  exact ⟨trivial, s0⟩

def szNodesOut (x : NodesOut) (left : Int) : Int := szNodeS x.nodes left
theorem pays_szNodesOut (x : NodesOut) : Pays (szNodesOut x) := pays_szNodeS _
theorem small_szNodesOut {x : NodesOut} {left : Int} (h0 : 0 ≤ left) (h1 : left ≤ 1048576) (h : 0 ≤ szNodesOut x left) : SmNodesOut x := by
  unfold szNodesOut at h
  have e0 := h
  have s0 := small_szNodeS h0 h1 e0
  exact s0

def szTaskOut (x : TaskOut) (left : Int) : Int := szTask x.task left
theorem pays_szTaskOut (x : TaskOut) : Pays (szTaskOut x) := pays_szTask _
theorem small_szTaskOut {x : TaskOut} {left : Int} (h0 : 0 ≤ left) (h1 : left ≤ 1048576) (h : 0 ≤ szTaskOut x left) : SmTaskOut x := by
  unfold szTaskOut at h
  have e0 := h
  have s0 := small_szTask h0 h1 e0
  exact s0

def szYardOut (x : YardOut) (left : Int) : Int := szYard x.yard left
theorem pays_szYardOut (x : YardOut) : Pays (szYardOut x) := pays_szYard _
theorem small_szYardOut {x : YardOut} {left : Int} (h0 : 0 ≤ left) (h1 : left ≤ 1048576) (h : 0 ≤ szYardOut x left) : SmYardOut x := by
  unfold szYardOut at h
  have e0 := h
  have s0 := small_szYard h0 h1 e0
  exact s0

def szConfigOut (x : ConfigOut) (left : Int) : Int := szConfig x.config left
theorem pays_szConfigOut (x : ConfigOut) : Pays (szConfigOut x) := pays_szConfig _
theorem small_szConfigOut {x : ConfigOut} {left : Int} (h0 : 0 ≤ left) (h1 : left ≤ 1048576) (h : 0 ≤ szConfigOut x left) : SmConfigOut x := by
  unfold szConfigOut at h
  have e0 := h
  have s0 := small_szConfig h0 h1 e0
  exact s0

def szMailOut (x : MailOut) (left : Int) : Int := szMail x.mail left
theorem pays_szMailOut (x : MailOut) : Pays (szMailOut x) := pays_szMail _
theorem small_szMailOut {x : MailOut} {left : Int} (h0 : 0 ≤ left) (h1 : left ≤ 1048576) (h : 0 ≤ szMailOut x left) : SmMailOut x := by
  unfold szMailOut at h
  have e0 := h
  have s0 := small_szMail h0 h1 e0
  exact s0

def szPlaceS (l : List Place) (left : Int) : Int := payThen (payList szPlace l) (pay l.length left)
theorem pays_szPlaceS (l : List Place) : Pays (szPlaceS l) := pays_then (pays_pay _) (pays_list l fun x _ => pays_szPlace x)
theorem small_szPlaceS {l : List Place} {left : Int} (h0 : 0 ≤ left) (h1 : left ≤ 1048576) (h : 0 ≤ szPlaceS l left) : SmPlaceS l := by
  obtain ⟨h2, h3⟩ := then_ok h
  obtain ⟨h4, h5⟩ := pay_ok h2
  rw [h5] at h2 h3
  exact ⟨by omega, list_ok l (fun x _ => pays_szPlace x) (fun x left h6 h7 h8 => small_szPlace h7 h6 h8) _ h2 (by omega) h3⟩

def szSpanSS (l : List (List Span)) (left : Int) : Int := payThen (payList szSpanS l) (pay l.length left)
theorem pays_szSpanSS (l : List (List Span)) : Pays (szSpanSS l) := pays_then (pays_pay _) (pays_list l fun x _ => pays_szSpanS x)
theorem small_szSpanSS {l : List (List Span)} {left : Int} (h0 : 0 ≤ left) (h1 : left ≤ 1048576) (h : 0 ≤ szSpanSS l left) : SmSpanSS l := by
  obtain ⟨h2, h3⟩ := then_ok h
  obtain ⟨h4, h5⟩ := pay_ok h2
  rw [h5] at h2 h3
  exact ⟨by omega, list_ok l (fun x _ => pays_szSpanS x) (fun x left h6 h7 h8 => small_szSpanS h7 h6 h8) _ h2 (by omega) h3⟩

end Go.Proofs.Ytikiipahmgpamaa
