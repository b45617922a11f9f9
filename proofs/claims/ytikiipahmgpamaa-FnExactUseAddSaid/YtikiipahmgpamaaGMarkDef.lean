/- Data that bear numbers in a row. Printed by wip/gen2.py. -/
import Derived.Test.YtikiipahmgpamaaMark
import Derived.Test.YtikiipahmgpamaaMarkText
namespace Go.Proofs.Ytikiipahmgpamaa

def cntInt (_x : Int) : Nat := 1
def mkInt (q : Int) (_x : Int) : Int := q
def cntSpan (_x : Span) : Nat := 2
def mkSpan (q : Int) (_x : Span) : Span := ⟨q, (q + 1)⟩
def cntLabel (_x : Label) : Nat := 2
def mkLabel (q : Int) (_x : Label) : Label := ⟨q, (q + 1)⟩
def cntNode (x : Node) : Nat := 1 + (cntL cntSpan x.books)
def mkNode (q : Int) (x : Node) : Node := ⟨q, markL mkSpan cntSpan (q + 1) x.books⟩
def cntUse (_x : Use) : Nat := 4
def mkUse (q : Int) (_x : Use) : Use := ⟨⟨q, (q + 1)⟩, mtext (q + 1 + 1), (q + 1 + 1 + 1)⟩
def cntTask (x : Task) : Nat := 13 + (cntL cntInt x.nodes)
def mkTask (q : Int) (x : Task) : Task := ⟨⟨q, (q + 1)⟩, (q + 1 + 1), mtext (q + 1 + 1 + 1), (q + 1 + 1 + 1 + 1), (q + 1 + 1 + 1 + 1 + 1), (q + 1 + 1 + 1 + 1 + 1 + 1), ⟨(q + 1 + 1 + 1 + 1 + 1 + 1 + 1), (q + 1 + 1 + 1 + 1 + 1 + 1 + 1 + 1)⟩, (q + 1 + 1 + 1 + 1 + 1 + 1 + 1 + 1 + 1), (q + 1 + 1 + 1 + 1 + 1 + 1 + 1 + 1 + 1 + 1), (q + 1 + 1 + 1 + 1 + 1 + 1 + 1 + 1 + 1 + 1 + 1), (q + 1 + 1 + 1 + 1 + 1 + 1 + 1 + 1 + 1 + 1 + 1 + 1), markL mkInt cntInt (q + 1 + 1 + 1 + 1 + 1 + 1 + 1 + 1 + 1 + 1 + 1 + 1 + 1) x.nodes⟩
/-- What a struct leads to is marked, not the struct itself. -/
def cntsTask (x : Task) : Nat := 0 + (cntL cntInt x.nodes)
def mksTask (q : Int) (x : Task) : Task := ⟨⟨x.label.level, x.label.set⟩, x.id, x.owner, x.need, x.long, x.prio, ⟨x.under.level, x.under.set⟩, x.after, x.born, x.state, x.start, markL mkInt cntInt q x.nodes⟩
def cntNodesOut (x : NodesOut) : Nat := 1 + (cntL cntNode x.nodes)
def mkNodesOut (q : Int) (x : NodesOut) : NodesOut := ⟨markL mkNode cntNode q x.nodes, (q + (cntL cntNode x.nodes : Nat))⟩
/-- What a struct leads to is marked, not the struct itself. -/
def cntsNodesOut (x : NodesOut) : Nat := 0 + (cntL cntNode x.nodes)
def mksNodesOut (q : Int) (x : NodesOut) : NodesOut := ⟨markL mkNode cntNode q x.nodes, x.code⟩
def cntTaskOut (x : TaskOut) : Nat := 15 + (cntL cntInt x.task.nodes)
def mkTaskOut (q : Int) (x : TaskOut) : TaskOut := ⟨⟨⟨q, (q + 1)⟩, (q + 1 + 1), mtext (q + 1 + 1 + 1), (q + 1 + 1 + 1 + 1), (q + 1 + 1 + 1 + 1 + 1), (q + 1 + 1 + 1 + 1 + 1 + 1), ⟨(q + 1 + 1 + 1 + 1 + 1 + 1 + 1), (q + 1 + 1 + 1 + 1 + 1 + 1 + 1 + 1)⟩, (q + 1 + 1 + 1 + 1 + 1 + 1 + 1 + 1 + 1), (q + 1 + 1 + 1 + 1 + 1 + 1 + 1 + 1 + 1 + 1), (q + 1 + 1 + 1 + 1 + 1 + 1 + 1 + 1 + 1 + 1 + 1), (q + 1 + 1 + 1 + 1 + 1 + 1 + 1 + 1 + 1 + 1 + 1 + 1), markL mkInt cntInt (q + 1 + 1 + 1 + 1 + 1 + 1 + 1 + 1 + 1 + 1 + 1 + 1 + 1) x.task.nodes⟩, (q + 1 + 1 + 1 + 1 + 1 + 1 + 1 + 1 + 1 + 1 + 1 + 1 + 1 + (cntL cntInt x.task.nodes : Nat)), (q + 1 + 1 + 1 + 1 + 1 + 1 + 1 + 1 + 1 + 1 + 1 + 1 + 1 + 1 + (cntL cntInt x.task.nodes : Nat))⟩
/-- What a struct leads to is marked, not the struct itself. -/
def cntsTaskOut (x : TaskOut) : Nat := 0 + (cntL cntInt x.task.nodes)
def mksTaskOut (q : Int) (x : TaskOut) : TaskOut := ⟨⟨⟨x.task.label.level, x.task.label.set⟩, x.task.id, x.task.owner, x.task.need, x.task.long, x.task.prio, ⟨x.task.under.level, x.task.under.set⟩, x.task.after, x.task.born, x.task.state, x.task.start, markL mkInt cntInt q x.task.nodes⟩, x.at_, x.code⟩
end Go.Proofs.Ytikiipahmgpamaa
