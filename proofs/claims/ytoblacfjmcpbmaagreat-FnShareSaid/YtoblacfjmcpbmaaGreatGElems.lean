/- How each of the program's types of data lies in memory. Printed by wip/gen.py. -/
import Derived.Test.YtoblacfjmcpbmaaGreatLib
namespace Go.Proofs.YtoblacfjmcpbmaaGreat
open Go.RowKit
def Str (s:ByteArray):Prop:=s.size≤maxLen
def EInt:Elem Int where
 size:=1
 rel:=fun _ _ cs x=>cs = [.int .i64 x]∧I64 x
 len:=by rintro _ _ _ _ ⟨rfl,_⟩;rfl
 keep:=fun _ h=>h
 sub:=fun _ h=>h
 one:=by rintro _ _ _ _ ⟨rfl,_⟩;simp [Value.oneCell']
def ERow {α:Type} (E:Elem α):Elem (List α) where
 size:=1
 rel:=fun S w cs x=>∃ v,cs = [v]∧Rd E S w v x
 len:=by rintro _ _ _ _ ⟨v,rfl,_⟩;rfl
 keep:=by rintro _ _ _ _ _ hs ⟨v,rfl,h⟩;exact ⟨v,rfl,h.keep hs⟩
 sub:=by rintro _ _ _ _ _ hs ⟨v,rfl,h⟩;exact ⟨v,rfl,h.sub hs⟩
 one:=by
  rintro _ _ _ _ ⟨v,rfl,h⟩ u hu
  simp only [List.mem_cons,List.not_mem_nil,or_false] at hu
  rw [hu];exact h.one
def cellsSpan (x:Span):List Value:=[.int .i64 x.from_,.int .i64 x.to_]
def FitSpan (x:Span):Prop:=I64 x.from_∧I64 x.to_
def ESpan:Elem Span where
 size:=2
 rel:=fun _ _ cs x=>cs=cellsSpan x∧FitSpan x
 len:=by rintro _ _ _ _ ⟨rfl,_⟩;rfl
 keep:=fun _ h=>h
 sub:=fun _ h=>h
 one:=by rintro _ _ _ _ ⟨rfl,_⟩;simp [cellsSpan,Value.oneCell']
theorem rel_Span {S:Nat→Prop} {w:World} {x:Span} (hf:FitSpan x):ESpan.rel S w [.int .i64 x.from_,.int .i64 x.to_] x:=⟨rfl,hf⟩
def cellsLabel (x:Label):List Value:=[.int .i64 x.level,.int .i64 x.set]
def FitLabel (x:Label):Prop:=I64 x.level∧I64 x.set
def ELabel:Elem Label where
 size:=2
 rel:=fun _ _ cs x=>cs=cellsLabel x∧FitLabel x
 len:=by rintro _ _ _ _ ⟨rfl,_⟩;rfl
 keep:=fun _ h=>h
 sub:=fun _ h=>h
 one:=by rintro _ _ _ _ ⟨rfl,_⟩;simp [cellsLabel,Value.oneCell']
theorem rel_Label {S:Nat→Prop} {w:World} {x:Label} (hf:FitLabel x):ELabel.rel S w [.int .i64 x.level,.int .i64 x.set] x:=⟨rfl,hf⟩
def cellsNode (x:Node) (v1:Value):List Value:=[.int .i64 x.state,v1]
def FitNode (x:Node):Prop:=I64 x.state
def ENode:Elem Node where
 size:=2
 rel:=fun S w cs x=>∃ v1,cs=cellsNode x v1∧FitNode x∧Rd ESpan S w v1 x.books
 len:=by rintro _ _ _ _ ⟨v1,rfl,_⟩;rfl
 keep:=by rintro _ _ _ _ _ hs ⟨v1,rfl,hf,h1⟩;exact ⟨v1,rfl,hf,h1.keep hs⟩
 sub:=by rintro _ _ _ _ _ hs ⟨v1,rfl,hf,h1⟩;exact ⟨v1,rfl,hf,h1.sub hs⟩
 one:=by
  rintro _ _ _ _ ⟨v1,rfl,_,h1⟩ u hu
  have o1:=h1.one
  simp only [cellsNode,List.mem_cons,List.not_mem_nil,or_false] at hu
  rcases hu with rfl | rfl <;> first | rfl | assumption
def cellsUse (x:Use):List Value:=[.int .i64 x.label.level,.int .i64 x.label.set,.string x.owner,.int .i64 x.used]
def FitUse (x:Use):Prop:=I64 x.label.level∧I64 x.label.set∧Str x.owner∧I64 x.used
def EUse:Elem Use where
 size:=4
 rel:=fun _ _ cs x=>cs=cellsUse x∧FitUse x
 len:=by rintro _ _ _ _ ⟨rfl,_⟩;rfl
 keep:=fun _ h=>h
 sub:=fun _ h=>h
 one:=by rintro _ _ _ _ ⟨rfl,_⟩;simp [cellsUse,Value.oneCell']
theorem rel_Use {S:Nat→Prop} {w:World} {x:Use} (hf:FitUse x):EUse.rel S w [.int .i64 x.label.level,.int .i64 x.label.set,.string x.owner,.int .i64 x.used] x:=⟨rfl,hf⟩
def cellsTask (x:Task) (v1:Value):List Value:=[.int .i64 x.label.level,.int .i64 x.label.set,.int .i64 x.id,.string x.owner,.int .i64 x.need,.int .i64 x.long,.int .i64 x.prio,.int .i64 x.under.level,.int .i64 x.under.set,.int .i64 x.after,.int .i64 x.born,.int .i64 x.state,.int .i64 x.start,v1]
def FitTask (x:Task):Prop:=I64 x.label.level∧I64 x.label.set∧I64 x.id∧Str x.owner∧I64 x.need∧I64 x.long∧I64 x.prio∧I64 x.under.level∧I64 x.under.set∧I64 x.after∧I64 x.born∧I64 x.state∧I64 x.start
def ETask:Elem Task where
 size:=14
 rel:=fun S w cs x=>∃ v1,cs=cellsTask x v1∧FitTask x∧Rd EInt S w v1 x.nodes
 len:=by rintro _ _ _ _ ⟨v1,rfl,_⟩;rfl
 keep:=by rintro _ _ _ _ _ hs ⟨v1,rfl,hf,h1⟩;exact ⟨v1,rfl,hf,h1.keep hs⟩
 sub:=by rintro _ _ _ _ _ hs ⟨v1,rfl,hf,h1⟩;exact ⟨v1,rfl,hf,h1.sub hs⟩
 one:=by
  rintro _ _ _ _ ⟨v1,rfl,_,h1⟩ u hu
  have o1:=h1.one
  simp only [cellsTask,List.mem_cons,List.not_mem_nil,or_false] at hu
  rcases hu with rfl | rfl | rfl | rfl | rfl | rfl | rfl | rfl | rfl | rfl | rfl | rfl | rfl | rfl <;> first | rfl | assumption
theorem rel_Task {S:Nat→Prop} {w:World} {x:Task} {v1:Value} (hf:FitTask x) (h1:Rd EInt S w v1 x.nodes):ETask.rel S w [.int .i64 x.label.level,.int .i64 x.label.set,.int .i64 x.id,.string x.owner,.int .i64 x.need,.int .i64 x.long,.int .i64 x.prio,.int .i64 x.under.level,.int .i64 x.under.set,.int .i64 x.after,.int .i64 x.born,.int .i64 x.state,.int .i64 x.start,v1] x:=⟨_,rfl,hf,h1⟩
def cellsWish (x:Wish):List Value:=[.string x.owner,.int .i64 x.need,.int .i64 x.long,.int .i64 x.prio,.int .i64 x.under.level,.int .i64 x.under.set,.int .i64 x.after,.int .i64 x.count]
def FitWish (x:Wish):Prop:=Str x.owner∧I64 x.need∧I64 x.long∧I64 x.prio∧I64 x.under.level∧I64 x.under.set∧I64 x.after∧I64 x.count
def EWish:Elem Wish where
 size:=8
 rel:=fun _ _ cs x=>cs=cellsWish x∧FitWish x
 len:=by rintro _ _ _ _ ⟨rfl,_⟩;rfl
 keep:=fun _ h=>h
 sub:=fun _ h=>h
 one:=by rintro _ _ _ _ ⟨rfl,_⟩;simp [cellsWish,Value.oneCell']
theorem rel_Wish {S:Nat→Prop} {w:World} {x:Wish} (hf:FitWish x):EWish.rel S w [.string x.owner,.int .i64 x.need,.int .i64 x.long,.int .i64 x.prio,.int .i64 x.under.level,.int .i64 x.under.set,.int .i64 x.after,.int .i64 x.count] x:=⟨rfl,hf⟩
def cellsPair (x:Pair):List Value:=[.int .i64 x.from_.level,.int .i64 x.from_.set,.int .i64 x.to_.level,.int .i64 x.to_.set,.int .i64 x.rate]
def FitPair (x:Pair):Prop:=I64 x.from_.level∧I64 x.from_.set∧I64 x.to_.level∧I64 x.to_.set∧I64 x.rate
def EPair:Elem Pair where
 size:=5
 rel:=fun _ _ cs x=>cs=cellsPair x∧FitPair x
 len:=by rintro _ _ _ _ ⟨rfl,_⟩;rfl
 keep:=fun _ h=>h
 sub:=fun _ h=>h
 one:=by rintro _ _ _ _ ⟨rfl,_⟩;simp [cellsPair,Value.oneCell']
def cellsQuota (x:Quota):List Value:=[.int .i64 x.label.level,.int .i64 x.label.set,.int .i64 x.most]
def FitQuota (x:Quota):Prop:=I64 x.label.level∧I64 x.label.set∧I64 x.most
def EQuota:Elem Quota where
 size:=3
 rel:=fun _ _ cs x=>cs=cellsQuota x∧FitQuota x
 len:=by rintro _ _ _ _ ⟨rfl,_⟩;rfl
 keep:=fun _ h=>h
 sub:=fun _ h=>h
 one:=by rintro _ _ _ _ ⟨rfl,_⟩;simp [cellsQuota,Value.oneCell']
def cellsConfig (x:Config) (v1 v2 v3:Value):List Value:=[v1,v2,v3,.int .i64 x.half]
def FitConfig (x:Config):Prop:=I64 x.half
def EConfig:Elem Config where
 size:=4
 rel:=fun S w cs x=>∃ v1 v2 v3,cs=cellsConfig x v1 v2 v3∧FitConfig x∧Rd (ERow ELabel) S w v1 x.nodes∧Rd EPair S w v2 x.pairs∧Rd EQuota S w v3 x.quotas
 len:=by rintro _ _ _ _ ⟨v1,v2,v3,rfl,_⟩;rfl
 keep:=by rintro _ _ _ _ _ hs ⟨v1,v2,v3,rfl,hf,h1,h2,h3⟩;exact ⟨v1,v2,v3,rfl,hf,h1.keep hs,h2.keep hs,h3.keep hs⟩
 sub:=by rintro _ _ _ _ _ hs ⟨v1,v2,v3,rfl,hf,h1,h2,h3⟩;exact ⟨v1,v2,v3,rfl,hf,h1.sub hs,h2.sub hs,h3.sub hs⟩
 one:=by
  rintro _ _ _ _ ⟨v1,v2,v3,rfl,_,h1,h2,h3⟩ u hu
  have o1:=h1.one
  have o2:=h2.one
  have o3:=h3.one
  simp only [cellsConfig,List.mem_cons,List.not_mem_nil,or_false] at hu
  rcases hu with rfl | rfl | rfl | rfl <;> first | rfl | assumption
theorem rel_Config {S:Nat→Prop} {w:World} {x:Config} {v1 v2 v3:Value} (hf:FitConfig x) (h1:Rd (ERow ELabel) S w v1 x.nodes) (h2:Rd EPair S w v2 x.pairs) (h3:Rd EQuota S w v3 x.quotas):EConfig.rel S w [v1,v2,v3,.int .i64 x.half] x:=⟨_,_,_,rfl,hf,h1,h2,h3⟩
def cellsYard (x:Yard) (v1 v2 v3 v4 v5 v6:Value):List Value:=[v1,v2,v3,.int .i64 x.config.half,v4,v5,v6,.int .i64 x.now]
def FitYard (x:Yard):Prop:=I64 x.config.half∧I64 x.now
def EYard:Elem Yard where
 size:=8
 rel:=fun S w cs x=>∃ v1 v2 v3 v4 v5 v6,cs=cellsYard x v1 v2 v3 v4 v5 v6∧FitYard x∧Rd (ERow ELabel) S w v1 x.config.nodes∧Rd EPair S w v2 x.config.pairs∧Rd EQuota S w v3 x.config.quotas∧Rd ENode S w v4 x.nodes∧Rd ETask S w v5 x.tasks∧Rd EUse S w v6 x.uses
 len:=by rintro _ _ _ _ ⟨v1,v2,v3,v4,v5,v6,rfl,_⟩;rfl
 keep:=by rintro _ _ _ _ _ hs ⟨v1,v2,v3,v4,v5,v6,rfl,hf,h1,h2,h3,h4,h5,h6⟩;exact ⟨v1,v2,v3,v4,v5,v6,rfl,hf,h1.keep hs,h2.keep hs,h3.keep hs,h4.keep hs,h5.keep hs,h6.keep hs⟩
 sub:=by rintro _ _ _ _ _ hs ⟨v1,v2,v3,v4,v5,v6,rfl,hf,h1,h2,h3,h4,h5,h6⟩;exact ⟨v1,v2,v3,v4,v5,v6,rfl,hf,h1.sub hs,h2.sub hs,h3.sub hs,h4.sub hs,h5.sub hs,h6.sub hs⟩
 one:=by
  rintro _ _ _ _ ⟨v1,v2,v3,v4,v5,v6,rfl,_,h1,h2,h3,h4,h5,h6⟩ u hu
  have o1:=h1.one
  have o2:=h2.one
  have o3:=h3.one
  have o4:=h4.one
  have o5:=h5.one
  have o6:=h6.one
  simp only [cellsYard,List.mem_cons,List.not_mem_nil,or_false] at hu
  rcases hu with rfl | rfl | rfl | rfl | rfl | rfl | rfl | rfl <;> first | rfl | assumption
theorem rel_Yard {S:Nat→Prop} {w:World} {x:Yard} {v1 v2 v3 v4 v5 v6:Value} (hf:FitYard x) (h1:Rd (ERow ELabel) S w v1 x.config.nodes) (h2:Rd EPair S w v2 x.config.pairs) (h3:Rd EQuota S w v3 x.config.quotas) (h4:Rd ENode S w v4 x.nodes) (h5:Rd ETask S w v5 x.tasks) (h6:Rd EUse S w v6 x.uses):EYard.rel S w [v1,v2,v3,.int .i64 x.config.half,v4,v5,v6,.int .i64 x.now] x:=⟨_,_,_,_,_,_,rfl,hf,h1,h2,h3,h4,h5,h6⟩
def cellsPlace (x:Place) (v1:Value):List Value:=[.int .i64 x.label.level,.int .i64 x.label.set,.int .i64 x.id,.int .i64 x.from_,.int .i64 x.to_,.bool x.runs,v1]
def FitPlace (x:Place):Prop:=I64 x.label.level∧I64 x.label.set∧I64 x.id∧I64 x.from_∧I64 x.to_
def EPlace:Elem Place where
 size:=7
 rel:=fun S w cs x=>∃ v1,cs=cellsPlace x v1∧FitPlace x∧Rd EInt S w v1 x.nodes
 len:=by rintro _ _ _ _ ⟨v1,rfl,_⟩;rfl
 keep:=by rintro _ _ _ _ _ hs ⟨v1,rfl,hf,h1⟩;exact ⟨v1,rfl,hf,h1.keep hs⟩
 sub:=by rintro _ _ _ _ _ hs ⟨v1,rfl,hf,h1⟩;exact ⟨v1,rfl,hf,h1.sub hs⟩
 one:=by
  rintro _ _ _ _ ⟨v1,rfl,_,h1⟩ u hu
  have o1:=h1.one
  simp only [cellsPlace,List.mem_cons,List.not_mem_nil,or_false] at hu
  rcases hu with rfl | rfl | rfl | rfl | rfl | rfl | rfl <;> first | rfl | assumption
theorem rel_Place {S:Nat→Prop} {w:World} {x:Place} {v1:Value} (hf:FitPlace x) (h1:Rd EInt S w v1 x.nodes):EPlace.rel S w [.int .i64 x.label.level,.int .i64 x.label.set,.int .i64 x.id,.int .i64 x.from_,.int .i64 x.to_,.bool x.runs,v1] x:=⟨_,rfl,hf,h1⟩
def cellsYardOut (x:YardOut) (v1 v2 v3 v4 v5 v6:Value):List Value:=[v1,v2,v3,.int .i64 x.yard.config.half,v4,v5,v6,.int .i64 x.yard.now,.int .i64 x.id,.int .i64 x.code]
def FitYardOut (x:YardOut):Prop:=I64 x.yard.config.half∧I64 x.yard.now∧I64 x.id∧I64 x.code
def EYardOut:Elem YardOut where
 size:=10
 rel:=fun S w cs x=>∃ v1 v2 v3 v4 v5 v6,cs=cellsYardOut x v1 v2 v3 v4 v5 v6∧FitYardOut x∧Rd (ERow ELabel) S w v1 x.yard.config.nodes∧Rd EPair S w v2 x.yard.config.pairs∧Rd EQuota S w v3 x.yard.config.quotas∧Rd ENode S w v4 x.yard.nodes∧Rd ETask S w v5 x.yard.tasks∧Rd EUse S w v6 x.yard.uses
 len:=by rintro _ _ _ _ ⟨v1,v2,v3,v4,v5,v6,rfl,_⟩;rfl
 keep:=by rintro _ _ _ _ _ hs ⟨v1,v2,v3,v4,v5,v6,rfl,hf,h1,h2,h3,h4,h5,h6⟩;exact ⟨v1,v2,v3,v4,v5,v6,rfl,hf,h1.keep hs,h2.keep hs,h3.keep hs,h4.keep hs,h5.keep hs,h6.keep hs⟩
 sub:=by rintro _ _ _ _ _ hs ⟨v1,v2,v3,v4,v5,v6,rfl,hf,h1,h2,h3,h4,h5,h6⟩;exact ⟨v1,v2,v3,v4,v5,v6,rfl,hf,h1.sub hs,h2.sub hs,h3.sub hs,h4.sub hs,h5.sub hs,h6.sub hs⟩
 one:=by
  rintro _ _ _ _ ⟨v1,v2,v3,v4,v5,v6,rfl,_,h1,h2,h3,h4,h5,h6⟩ u hu
  have o1:=h1.one
  have o2:=h2.one
  have o3:=h3.one
  have o4:=h4.one
  have o5:=h5.one
  have o6:=h6.one
  simp only [cellsYardOut,List.mem_cons,List.not_mem_nil,or_false] at hu
  rcases hu with rfl | rfl | rfl | rfl | rfl | rfl | rfl | rfl | rfl | rfl <;> first | rfl | assumption
theorem rel_YardOut {S:Nat→Prop} {w:World} {x:YardOut} {v1 v2 v3 v4 v5 v6:Value} (hf:FitYardOut x) (h1:Rd (ERow ELabel) S w v1 x.yard.config.nodes) (h2:Rd EPair S w v2 x.yard.config.pairs) (h3:Rd EQuota S w v3 x.yard.config.quotas) (h4:Rd ENode S w v4 x.yard.nodes) (h5:Rd ETask S w v5 x.yard.tasks) (h6:Rd EUse S w v6 x.yard.uses):EYardOut.rel S w [v1,v2,v3,.int .i64 x.yard.config.half,v4,v5,v6,.int .i64 x.yard.now,.int .i64 x.id,.int .i64 x.code] x:=⟨_,_,_,_,_,_,rfl,hf,h1,h2,h3,h4,h5,h6⟩
end Go.Proofs.YtoblacfjmcpbmaaGreat
