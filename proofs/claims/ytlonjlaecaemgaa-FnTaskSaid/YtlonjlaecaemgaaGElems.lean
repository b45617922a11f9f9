/- How each of the program's types of data lies in memory. Printed by wip/gen.py. -/
import Derived.Test.YtlonjlaecaemgaaLib
namespace Go.Proofs.Ytlonjlaecaemgaa
open Go.RowKit
def Str (s:ByteArray):Prop:=s.size≤maxLen
def EInt:Elem Int where
 size:=1
 rel:=fun _ _ cs x=>cs = [.int .i64 x]∧I64 x
 len:=by rintro _ _ _ _ ⟨rfl,_⟩;rfl
 keep:=fun _ h=>h
 sub:=fun _ h=>h
 one:=by rintro _ _ _ _ ⟨rfl,_⟩;simp [Value.oneCell']
def ERow {α:Type} (E:Elem α):Elem (List α) where
 size:=1
 rel:=fun S w cs x=>∃ v,cs = [v]∧Rd E S w v x
 len:=by rintro _ _ _ _ ⟨v,rfl,_⟩;rfl
 keep:=by rintro _ _ _ _ _ hs ⟨v,rfl,h⟩;exact ⟨v,rfl,h.keep hs⟩
 sub:=by rintro _ _ _ _ _ hs ⟨v,rfl,h⟩;exact ⟨v,rfl,h.sub hs⟩
 one:=by
  rintro _ _ _ _ ⟨v,rfl,h⟩ u hu
  simp only [List.mem_cons,List.not_mem_nil,or_false] at hu
  rw [hu];exact h.one
def cellsLabel (x:Label):List Value:=[.int .i64 x.level,.int .i64 x.set]
def FitLabel (x:Label):Prop:=I64 x.level∧I64 x.set
def ELabel:Elem Label where
 size:=2
 rel:=fun _ _ cs x=>cs=cellsLabel x∧FitLabel x
 len:=by rintro _ _ _ _ ⟨rfl,_⟩;rfl
 keep:=fun _ h=>h
 sub:=fun _ h=>h
 one:=by rintro _ _ _ _ ⟨rfl,_⟩;simp [cellsLabel,Value.oneCell']
theorem rel_Label {S:Nat→Prop} {w:World} {x:Label} (hf:FitLabel x):ELabel.rel S w [.int .i64 x.level,.int .i64 x.set] x:=⟨rfl,hf⟩
def cellsTask (x:Task) (v1:Value):List Value:=[.int .i64 x.label.level,.int .i64 x.label.set,.int .i64 x.id,.string x.owner,.int .i64 x.need,.int .i64 x.long,.int .i64 x.prio,.int .i64 x.under.level,.int .i64 x.under.set,.int .i64 x.after,.int .i64 x.born,.int .i64 x.state,.int .i64 x.start,v1]
def FitTask (x:Task):Prop:=I64 x.label.level∧I64 x.label.set∧I64 x.id∧Str x.owner∧I64 x.need∧I64 x.long∧I64 x.prio∧I64 x.under.level∧I64 x.under.set∧I64 x.after∧I64 x.born∧I64 x.state∧I64 x.start
def ETask:Elem Task where
 size:=14
 rel:=fun S w cs x=>∃ v1,cs=cellsTask x v1∧FitTask x∧Rd EInt S w v1 x.nodes
 len:=by rintro _ _ _ _ ⟨v1,rfl,_⟩;rfl
 keep:=by rintro _ _ _ _ _ hs ⟨v1,rfl,hf,h1⟩;exact ⟨v1,rfl,hf,h1.keep hs⟩
 sub:=by rintro _ _ _ _ _ hs ⟨v1,rfl,hf,h1⟩;exact ⟨v1,rfl,hf,h1.sub hs⟩
 one:=by
  rintro _ _ _ _ ⟨v1,rfl,_,h1⟩ u hu
  have o1:=h1.one
  simp only [cellsTask,List.mem_cons,List.not_mem_nil,or_false] at hu
  rcases hu with rfl | rfl | rfl | rfl | rfl | rfl | rfl | rfl | rfl | rfl | rfl | rfl | rfl | rfl <;> first | rfl | assumption
theorem rel_Task {S:Nat→Prop} {w:World} {x:Task} {v1:Value} (hf:FitTask x) (h1:Rd EInt S w v1 x.nodes):ETask.rel S w [.int .i64 x.label.level,.int .i64 x.label.set,.int .i64 x.id,.string x.owner,.int .i64 x.need,.int .i64 x.long,.int .i64 x.prio,.int .i64 x.under.level,.int .i64 x.under.set,.int .i64 x.after,.int .i64 x.born,.int .i64 x.state,.int .i64 x.start,v1] x:=⟨_,rfl,hf,h1⟩
def cellsTaskOut (x:TaskOut) (v1:Value):List Value:=[.int .i64 x.task.label.level,.int .i64 x.task.label.set,.int .i64 x.task.id,.string x.task.owner,.int .i64 x.task.need,.int .i64 x.task.long,.int .i64 x.task.prio,.int .i64 x.task.under.level,.int .i64 x.task.under.set,.int .i64 x.task.after,.int .i64 x.task.born,.int .i64 x.task.state,.int .i64 x.task.start,v1,.int .i64 x.at_,.int .i64 x.code]
def FitTaskOut (x:TaskOut):Prop:=I64 x.task.label.level∧I64 x.task.label.set∧I64 x.task.id∧Str x.task.owner∧I64 x.task.need∧I64 x.task.long∧I64 x.task.prio∧I64 x.task.under.level∧I64 x.task.under.set∧I64 x.task.after∧I64 x.task.born∧I64 x.task.state∧I64 x.task.start∧I64 x.at_∧I64 x.code
def ETaskOut:Elem TaskOut where
 size:=16
 rel:=fun S w cs x=>∃ v1,cs=cellsTaskOut x v1∧FitTaskOut x∧Rd EInt S w v1 x.task.nodes
 len:=by rintro _ _ _ _ ⟨v1,rfl,_⟩;rfl
 keep:=by rintro _ _ _ _ _ hs ⟨v1,rfl,hf,h1⟩;exact ⟨v1,rfl,hf,h1.keep hs⟩
 sub:=by rintro _ _ _ _ _ hs ⟨v1,rfl,hf,h1⟩;exact ⟨v1,rfl,hf,h1.sub hs⟩
 one:=by
  rintro _ _ _ _ ⟨v1,rfl,_,h1⟩ u hu
  have o1:=h1.one
  simp only [cellsTaskOut,List.mem_cons,List.not_mem_nil,or_false] at hu
  rcases hu with rfl | rfl | rfl | rfl | rfl | rfl | rfl | rfl | rfl | rfl | rfl | rfl | rfl | rfl | rfl | rfl <;> first | rfl | assumption
end Go.Proofs.Ytlonjlaecaemgaa
