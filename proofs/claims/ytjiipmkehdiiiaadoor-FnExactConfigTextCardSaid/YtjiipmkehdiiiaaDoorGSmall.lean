/- Which data are small enough to be copied. Printed by wip/gen.py. -/
import Derived.Test.YtjiipmkehdiiiaaDoorLib
namespace Go.Proofs.YtjiipmkehdiiiaaDoor
/-- At most 1048576 elements, each of them small. -/
def SmL {α : Type} (P : α → Prop) (l : List α) : Prop := l.length ≤ 1048576 ∧ ∀ x ∈ l, P x

def SmSpan (_x : Span) : Prop := True
def SmLabel (_x : Label) : Prop := True
def SmSpanS (l : List Span) : Prop := SmL SmSpan l
def SmNode (x : Node) : Prop := SmSpanS x.books
def SmUse (x : Use) : Prop := SmLabel x.label
def SmInt64S (l : List Int) : Prop := SmL (fun _ => True) l
def SmTask (x : Task) : Prop := SmLabel x.label ∧ SmLabel x.under ∧ SmInt64S x.nodes
def SmWish (x : Wish) : Prop := SmLabel x.under
def SmPair (x : Pair) : Prop := SmLabel x.from_ ∧ SmLabel x.to_
def SmQuota (x : Quota) : Prop := SmLabel x.label
def SmLabelS (l : List Label) : Prop := SmL SmLabel l
def SmLabelSS (l : List (List Label)) : Prop := SmL SmLabelS l
def SmPairS (l : List Pair) : Prop := SmL SmPair l
def SmQuotaS (l : List Quota) : Prop := SmL SmQuota l
def SmConfig (x : Config) : Prop := SmLabelSS x.nodes ∧ SmPairS x.pairs ∧ SmQuotaS x.quotas
def SmNodeS (l : List Node) : Prop := SmL SmNode l
def SmTaskS (l : List Task) : Prop := SmL SmTask l
def SmUseS (l : List Use) : Prop := SmL SmUse l
def SmYard (x : Yard) : Prop := SmConfig x.config ∧ SmNodeS x.nodes ∧ SmTaskS x.tasks ∧ SmUseS x.uses
def SmNote (_x : Note) : Prop := True
def SmNoteS (l : List Note) : Prop := SmL SmNote l
def SmBox (x : Box) : Prop := SmInt64S x.next ∧ SmInt64S x.here ∧ SmNoteS x.log
def SmBoxS (l : List Box) : Prop := SmL SmBox l
def SmMail (x : Mail) : Prop := SmBoxS x.boxes
def SmPlace (x : Place) : Prop := SmLabel x.label ∧ SmInt64S x.nodes
def SmNodesOut (x : NodesOut) : Prop := SmNodeS x.nodes
def SmTaskOut (x : TaskOut) : Prop := SmTask x.task
def SmYardOut (x : YardOut) : Prop := SmYard x.yard
def SmConfigOut (x : ConfigOut) : Prop := SmConfig x.config
def SmMailOut (x : MailOut) : Prop := SmMail x.mail
def SmPlaceS (l : List Place) : Prop := SmL SmPlace l
def SmSpanSS (l : List (List Span)) : Prop := SmL SmSpanS l
end Go.Proofs.YtjiipmkehdiiiaaDoor
