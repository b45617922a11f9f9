/- Data that bear numbers in a row. Printed by wip/gen2.py. -/
import Derived.Test.YtdhcbbbmajjehaaMark
import Derived.Test.YtdhcbbbmajjehaaMarkTextW
namespace Go.Proofs.Ytdhcbbbmajjehaa

def cntInt (_x : Int) : Nat := 1
def mkInt (q : Int) (_x : Int) : Int := q
def cntSpan (_x : Span) : Nat := 2
def mkSpan (q : Int) (_x : Span) : Span := ⟨q, (q + 1)⟩
def cntLabel (_x : Label) : Nat := 2
def mkLabel (q : Int) (_x : Label) : Label := ⟨q, (q + 1)⟩
def cntNode (x : Node) : Nat := 1 + (cntL cntSpan x.books)
def mkNode (q : Int) (x : Node) : Node := ⟨q, markL mkSpan cntSpan (q + 1) x.books⟩
def cntUse (_x : Use) : Nat := 4
def mkUse (q : Int) (_x : Use) : Use := ⟨⟨q, (q + 1)⟩, mtext (q + 1 + 1), (q + 1 + 1 + 1)⟩
def cntTask (x : Task) : Nat := 13 + (cntL cntInt x.nodes)
def mkTask (q : Int) (x : Task) : Task := ⟨⟨q, (q + 1)⟩, (q + 1 + 1), mtext (q + 1 + 1 + 1), (q + 1 + 1 + 1 + 1), (q + 1 + 1 + 1 + 1 + 1), (q + 1 + 1 + 1 + 1 + 1 + 1), ⟨(q + 1 + 1 + 1 + 1 + 1 + 1 + 1), (q + 1 + 1 + 1 + 1 + 1 + 1 + 1 + 1)⟩, (q + 1 + 1 + 1 + 1 + 1 + 1 + 1 + 1 + 1), (q + 1 + 1 + 1 + 1 + 1 + 1 + 1 + 1 + 1 + 1), (q + 1 + 1 + 1 + 1 + 1 + 1 + 1 + 1 + 1 + 1 + 1), (q + 1 + 1 + 1 + 1 + 1 + 1 + 1 + 1 + 1 + 1 + 1 + 1), markL mkInt cntInt (q + 1 + 1 + 1 + 1 + 1 + 1 + 1 + 1 + 1 + 1 + 1 + 1 + 1) x.nodes⟩
def cntPair (_x : Pair) : Nat := 5
def mkPair (q : Int) (_x : Pair) : Pair := ⟨⟨q, (q + 1)⟩, ⟨(q + 1 + 1), (q + 1 + 1 + 1)⟩, (q + 1 + 1 + 1 + 1)⟩
def cntQuota (_x : Quota) : Nat := 3
def mkQuota (q : Int) (_x : Quota) : Quota := ⟨⟨q, (q + 1)⟩, (q + 1 + 1)⟩
def cntConfig (x : Config) : Nat := 1 + (cntL (cntL cntLabel) x.nodes) + (cntL cntPair x.pairs) + (cntL cntQuota x.quotas)
def mkConfig (q : Int) (x : Config) : Config := ⟨markL (markL mkLabel cntLabel) (cntL cntLabel) q x.nodes, markL mkPair cntPair (q + (cntL (cntL cntLabel) x.nodes : Nat)) x.pairs, markL mkQuota cntQuota (q + (cntL (cntL cntLabel) x.nodes : Nat) + (cntL cntPair x.pairs : Nat)) x.quotas, (q + (cntL (cntL cntLabel) x.nodes : Nat) + (cntL cntPair x.pairs : Nat) + (cntL cntQuota x.quotas : Nat))⟩
/-- What a struct leads to is marked, not the struct itself. -/
def cntsConfig (x : Config) : Nat := 0 + (cntL (cntL cntLabel) x.nodes) + (cntL cntPair x.pairs) + (cntL cntQuota x.quotas)
def mksConfig (q : Int) (x : Config) : Config := ⟨markL (markL mkLabel cntLabel) (cntL cntLabel) q x.nodes, markL mkPair cntPair (q + (cntL (cntL cntLabel) x.nodes : Nat)) x.pairs, markL mkQuota cntQuota (q + (cntL (cntL cntLabel) x.nodes : Nat) + (cntL cntPair x.pairs : Nat)) x.quotas, x.half⟩
def cntNote (_x : Note) : Nat := 2
def mkNote (q : Int) (_x : Note) : Note := ⟨q, (q + 1)⟩
def cntBox (x : Box) : Nat := 0 + (cntL cntInt x.next) + (cntL cntInt x.here) + (cntL cntNote x.log)
def mkBox (q : Int) (x : Box) : Box := ⟨markL mkInt cntInt q x.next, markL mkInt cntInt (q + (cntL cntInt x.next : Nat)) x.here, markL mkNote cntNote (q + (cntL cntInt x.next : Nat) + (cntL cntInt x.here : Nat)) x.log⟩
def cntMail (x : Mail) : Nat := 0 + (cntL cntBox x.boxes)
def mkMail (q : Int) (x : Mail) : Mail := ⟨markL mkBox cntBox q x.boxes⟩
/-- What a struct leads to is marked, not the struct itself. -/
def cntsMail (x : Mail) : Nat := 0 + (cntL cntBox x.boxes)
def mksMail (q : Int) (x : Mail) : Mail := ⟨markL mkBox cntBox q x.boxes⟩
def cntNodesOut (x : NodesOut) : Nat := 1 + (cntL cntNode x.nodes)
def mkNodesOut (q : Int) (x : NodesOut) : NodesOut := ⟨markL mkNode cntNode q x.nodes, (q + (cntL cntNode x.nodes : Nat))⟩
def cntTaskOut (x : TaskOut) : Nat := 15 + (cntL cntInt x.task.nodes)
def mkTaskOut (q : Int) (x : TaskOut) : TaskOut := ⟨⟨⟨q, (q + 1)⟩, (q + 1 + 1), mtext (q + 1 + 1 + 1), (q + 1 + 1 + 1 + 1), (q + 1 + 1 + 1 + 1 + 1), (q + 1 + 1 + 1 + 1 + 1 + 1), ⟨(q + 1 + 1 + 1 + 1 + 1 + 1 + 1), (q + 1 + 1 + 1 + 1 + 1 + 1 + 1 + 1)⟩, (q + 1 + 1 + 1 + 1 + 1 + 1 + 1 + 1 + 1), (q + 1 + 1 + 1 + 1 + 1 + 1 + 1 + 1 + 1 + 1), (q + 1 + 1 + 1 + 1 + 1 + 1 + 1 + 1 + 1 + 1 + 1), (q + 1 + 1 + 1 + 1 + 1 + 1 + 1 + 1 + 1 + 1 + 1 + 1), markL mkInt cntInt (q + 1 + 1 + 1 + 1 + 1 + 1 + 1 + 1 + 1 + 1 + 1 + 1 + 1) x.task.nodes⟩, (q + 1 + 1 + 1 + 1 + 1 + 1 + 1 + 1 + 1 + 1 + 1 + 1 + 1 + (cntL cntInt x.task.nodes : Nat)), (q + 1 + 1 + 1 + 1 + 1 + 1 + 1 + 1 + 1 + 1 + 1 + 1 + 1 + 1 + (cntL cntInt x.task.nodes : Nat))⟩
end Go.Proofs.Ytdhcbbbmajjehaa
