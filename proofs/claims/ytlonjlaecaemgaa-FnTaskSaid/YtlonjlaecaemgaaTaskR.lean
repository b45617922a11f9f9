/- The walks of Below and TaskRight, the program's and the reference's. -/
import Derived.Test.YtlonjlaecaemgaaLabels
import Derived.Test.YtlonjlaecaemgaaNums
import Derived.Test.YtlonjlaecaemgaaBits
set_option maxHeartbeats 4000000
namespace Go.Proofs.Ytlonjlaecaemgaa
open Go.RowKit
attribute [local irreducible] wpQuiet
def belowB (a b:Label):Bool:=decide (a.level≤b.level) && (bits .and .i64 a.set b.set == a.set)
def belowOk (a b:Label):Bool:=labelRight a && labelRight b && belowB a b
theorem l02Below_any {S S':Nat→Prop} (a b:Label) (cs ds:List Value) (w:World) (h:ELabel.rel S w cs a) (g:ELabel.rel S' w ds b) :
 Calls Try.prog 71 #[.agg cs.toArray,.agg ds.toArray] w fun e w'=>e=.returned (.bool (belowB a b))∧Ext w w':=by
 obtain ⟨rfl,hi⟩:=h
 obtain ⟨rfl,gi⟩:=g
 clear hi gi
 simp only [cellsLabel]
 go_enter Try.func71,Try.ntmps71
 go_wp2
 all_goals (go_ret;exact ⟨ret_bool (by simp_all [belowB];try (intro _;omega)),((Ext.refl _).alloc _).alloc _⟩)
theorem below_any {S S':Nat→Prop} (a b:Label) (cs ds:List Value) (w:World) (h:ELabel.rel S w cs a) (g:ELabel.rel S' w ds b) :
 Calls Try.prog 70 #[.agg cs.toArray,.agg ds.toArray] w fun e w'=>e=.returned (.bool (belowB a b))∧Ext w w':=by
 obtain ⟨rfl,hi⟩:=h
 obtain ⟨rfl,gi⟩:=g
 have HB:=Lib.hid (bits_sub (b:=a.set) (d:=b.set) (by simp only [FitLabel] at hi;exact hi.2))
 clear hi gi
 simp only [cellsLabel]
 go_enter Try.func70,Try.ntmps70
 go_wp2
 all_goals (go_ret;exact ⟨ret_bool (by have hb:=HB.out;go_light;simp_all [belowB];try (intro _;omega)),((Ext.refl _).alloc _).alloc _⟩)
theorem specBelow_any {S S':Nat→Prop} (a b:Label) (cs ds:List Value) (w:World) (h:ELabel.rel S w cs a) (g:ELabel.rel S' w ds b) :
 Calls Try.prog 48 #[.agg cs.toArray,.agg ds.toArray] w fun e w'=>e=.returned (.bool (belowOk a b))∧Ext w w':=by
 obtain ⟨rfl,hi⟩:=h
 obtain ⟨rfl,gi⟩:=g
 have HI:=Lib.hid hi
 have GI:=Lib.hid gi
 clear hi gi
 simp only [cellsLabel]
 go_enter Try.func48,Try.ntmps48
 go_upto_region 1 with (fail)
 obtain ⟨W,B,hW,hB,hx0,a0,b0⟩:=boxes2 w #[.int .i64 a.level,.int .i64 a.set] #[.int .i64 b.level,.int .i64 b.set] 24 24
 rw [← hW,← hB]
 clear hW hB
 have XX:=Lib.hid hx0
 have AX:=Lib.hid a0
 have BX:=Lib.hid b0
 clear hx0 a0 b0
 have ac:=AX.out.cell
 have bc:=BX.out.cell
 go_wp2_with (first | (go_at_call 45;(with_reducible refine (specLabelRight_any (S:=S) a [.int .i64 a.level,.int .i64 a.set] _ (rel_Label HI.out)).mono ?_);rintro e w1 ⟨rfl,hx⟩;replace AX:=Lib.hid (AX.out.ext hx);replace BX:=Lib.hid (BX.out.ext hx);replace XX:=Lib.hid (XX.out.trans hx);clear hx ac bc;have ac:=AX.out.cell;have bc:=BX.out.cell) | (go_at_call 45;(with_reducible refine (specLabelRight_any (S:=S) b [.int .i64 b.level,.int .i64 b.set] _ (rel_Label GI.out)).mono ?_);rintro e w1 ⟨rfl,hx⟩;replace AX:=Lib.hid (AX.out.ext hx);replace BX:=Lib.hid (BX.out.ext hx);replace XX:=Lib.hid (XX.out.trans hx);clear hx ac bc;have ac:=AX.out.cell;have bc:=BX.out.cell) | (go_at_call 71;(with_reducible refine (l02Below_any (S:=S) (S':=S') a b [.int .i64 a.level,.int .i64 a.set] [.int .i64 b.level,.int .i64 b.set] _ (rel_Label HI.out) (rel_Label GI.out)).mono ?_);rintro e w1 ⟨rfl,hx⟩;replace XX:=Lib.hid (XX.out.trans hx);clear hx ac bc AX BX))
 all_goals (go_ret;exact ⟨ret_bool (by go_light;(try clear ac bc);simp_all [belowOk]),XX.out⟩)
theorem implBelow_any {S S':Nat→Prop} (a b:Label) (cs ds:List Value) (w:World) (h:ELabel.rel S w cs a) (g:ELabel.rel S' w ds b) :
 Calls Try.prog 41 #[.agg cs.toArray,.agg ds.toArray] w fun e w'=>e=.returned (.bool (belowOk a b))∧Ext w w':=by
 obtain ⟨rfl,hi⟩:=h
 obtain ⟨rfl,gi⟩:=g
 have HI:=Lib.hid hi
 have GI:=Lib.hid gi
 clear hi gi
 simp only [cellsLabel]
 go_enter Try.func41,Try.ntmps41
 go_upto_region 1 with (fail)
 obtain ⟨W,B,hW,hB,hx0,a0,b0⟩:=boxes2 w #[.int .i64 a.level,.int .i64 a.set] #[.int .i64 b.level,.int .i64 b.set] 24 24
 rw [← hW,← hB]
 clear hW hB
 have XX:=Lib.hid hx0
 have AX:=Lib.hid a0
 have BX:=Lib.hid b0
 clear hx0 a0 b0
 have ac:=AX.out.cell
 have bc:=BX.out.cell
 go_wp2_with (first | (go_at_call 36;(with_reducible refine (labelRight_any (S:=S) a [.int .i64 a.level,.int .i64 a.set] _ (rel_Label HI.out)).mono ?_);rintro e w1 ⟨rfl,hx⟩;replace AX:=Lib.hid (AX.out.ext hx);replace BX:=Lib.hid (BX.out.ext hx);replace XX:=Lib.hid (XX.out.trans hx);clear hx ac bc;have ac:=AX.out.cell;have bc:=BX.out.cell) | (go_at_call 36;(with_reducible refine (labelRight_any (S:=S) b [.int .i64 b.level,.int .i64 b.set] _ (rel_Label GI.out)).mono ?_);rintro e w1 ⟨rfl,hx⟩;replace AX:=Lib.hid (AX.out.ext hx);replace BX:=Lib.hid (BX.out.ext hx);replace XX:=Lib.hid (XX.out.trans hx);clear hx ac bc;have ac:=AX.out.cell;have bc:=BX.out.cell) | (go_at_call 70;(with_reducible refine (below_any (S:=S) (S':=S') a b [.int .i64 a.level,.int .i64 a.set] [.int .i64 b.level,.int .i64 b.set] _ (rel_Label HI.out) (rel_Label GI.out)).mono ?_);rintro e w1 ⟨rfl,hx⟩;replace XX:=Lib.hid (XX.out.trans hx);clear hx ac bc AX BX))
 all_goals (go_ret;exact ⟨ret_bool (by go_light;(try clear ac bc);simp_all [belowOk]),XX.out⟩)
theorem len_beq {α:Type} {l:List α}:((l.length:Int) == 0)=decide (l = []):=by cases l <;> simp <;> omega
def underOk (x:Task):Bool:=if x.after=0 then decide (x.under=⟨0,0⟩) else isB x.after 1 12 && belowOk x.under x.label && !(decide (x.under=x.label) && decide (x.id≤x.after))
def placeOk (x:Task):Bool:=if x.state=2∨(x.state=1∧0 < x.nodes.length) then timeOk x.start && decide ((x.nodes.length:Int)=x.need) && numsOk x.nodes else decide (x.start=0) && decide (x.nodes.length=0)
def taskRight (x:Task):Bool :=
 labelRight x.label && isB x.id 1 12 && nameRight x.owner && isWorkB x.need x.long x.prio && nowOk x.born && isB x.state 1 6 && underOk x && placeOk x
end Go.Proofs.Ytlonjlaecaemgaa
