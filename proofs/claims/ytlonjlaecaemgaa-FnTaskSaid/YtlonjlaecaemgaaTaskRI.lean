/- The walk of TaskRight, the program's: it answers taskRight. -/
import Derived.Test.YtlonjlaecaemgaaTaskR
namespace Go.Proofs.Ytlonjlaecaemgaa
open Go.RowKit
attribute [local irreducible] wpQuiet
theorem len_pos {α:Type} {l:List α}:decide (0 < l.length) = !decide (l = []):=by cases l <;> simp
theorem hasPlace_any (c0 c1 c2 c3 c4 c5 c6 c7 c8 c9 c10 c11 c12:Value) (A:Option Addr) (n c:Nat) (w:World) :
 Calls Try.prog 42 #[.agg #[c0,c1,c2,c3,c4,c5,c6,c7,c8,c9,c10,c11,c12,.slice A n c]] w fun e w'=>e=.returned (.bool (decide (0 < n)))∧Ext w w':=by
 go_enter Try.func42,Try.ntmps42
 go_wp2
 go_ret
 exact ⟨ret_bool (by simp),(Ext.refl _).alloc _⟩
set_option maxHeartbeats 8000000 in
set_option maxRecDepth 50000 in
theorem taskRight_any {S:Nat→Prop} (x:Task) (cs:List Value) (w:World) (h:ETask.rel S w cs x) :
 Calls Try.prog 11 #[.agg cs.toArray] w fun e w'=>e=.returned (.bool (taskRight x))∧Ext w w':=by
 obtain ⟨v,rfl,hi,hr⟩:=h
 obtain ⟨A,c,rfl,g1,g2⟩:=hr.form
 unfold maxLen at g2
 have HR:=Lib.hid hr
 have HI:=Lib.hid hi
 clear hr hi
 have HO:Hid (Str x.owner):=Lib.hid (by have hf:=HI.out;simp only [FitTask] at hf;simp only [hf])
 simp only [cellsTask]
 go_enter Try.func11,Try.ntmps11
 go_upto_region 1 with (fail)
 obtain ⟨W,B,hW,hB,hx0,hbox⟩:=box_new w #[.int .i64 x.label.level,.int .i64 x.label.set,.int .i64 x.id,.string x.owner,.int .i64 x.need,.int .i64 x.long,.int .i64 x.prio,.int .i64 x.under.level,.int .i64 x.under.set,.int .i64 x.after,.int .i64 x.born,.int .i64 x.state,.int .i64 x.start,.slice A x.nodes.length c] 27
 rw [← hW,← hB]
 have AX:Hid (Blk W B 27 #[.int .i64 x.label.level,.int .i64 x.label.set,.int .i64 x.id,.string x.owner,.int .i64 x.need,.int .i64 x.long,.int .i64 x.prio,.int .i64 x.under.level,.int .i64 x.under.set,.int .i64 x.after,.int .i64 x.born,.int .i64 x.state,.int .i64 x.start,.slice A x.nodes.length c]):=Lib.hid (by rw [hW,hB];exact Blk.new w _ _)
 have XX:=Lib.hid hx0
 clear hW hB hbox hx0
 have ac:=AX.out.cell
 go_wp2_with (first | (go_at_call 37;refine (within_any _ _ _ _).mono ?_;rintro e w' ⟨rfl,rfl⟩) | (go_at_call 43;refine (isTime_any _ _).mono ?_;rintro e w' ⟨rfl,rfl⟩) | (go_at_call 40;refine (isNow_any _ _).mono ?_;rintro e w' ⟨rfl,rfl⟩) | (go_at_call 39;refine (isWork_any _ _ _ _).mono ?_;rintro e w' ⟨rfl,rfl⟩) | (go_at_call 38;refine (nameRight_any _ _ HO.out).mono ?_;rintro e w' ⟨rfl,rfl⟩) | (go_at_call 36;(with_reducible refine (labelRight_any (S:=S) x.label [.int .i64 x.label.level,.int .i64 x.label.set] _ (rel_Label (by have hf:=HI.out;simp only [FitTask] at hf;simp only [FitLabel,hf,and_self]))).mono ?_);rintro e w1 ⟨rfl,hx⟩;replace AX:=Lib.hid (AX.out.ext hx);replace XX:=Lib.hid (XX.out.trans hx);clear hx ac;have ac:=AX.out.cell) | (go_at_call 41;(with_reducible refine (implBelow_any (S:=S) (S':=S) x.under x.label [.int .i64 x.under.level,.int .i64 x.under.set] [.int .i64 x.label.level,.int .i64 x.label.set] _ (rel_Label (by have hf:=HI.out;simp only [FitTask] at hf;simp only [FitLabel,hf,and_self])) (rel_Label (by have hf:=HI.out;simp only [FitTask] at hf;simp only [FitLabel,hf,and_self]))).mono ?_);rintro e w1 ⟨rfl,hx⟩;replace AX:=Lib.hid (AX.out.ext hx);replace XX:=Lib.hid (XX.out.trans hx);clear hx ac;have ac:=AX.out.cell) | (go_at_call 42;(with_reducible refine (hasPlace_any _ _ _ _ _ _ _ _ _ _ _ _ _ A x.nodes.length c _).mono ?_);rintro e w1 ⟨rfl,hx⟩;replace AX:=Lib.hid (AX.out.ext hx);replace XX:=Lib.hid (XX.out.trans hx);clear hx ac;have ac:=AX.out.cell) | (go_at_call 44;(with_reducible refine (nodesRight1_any x.nodes _ _ _ (HR.out.ext XX.out)).mono ?_);rintro e w1 ⟨rfl,hx⟩;replace XX:=Lib.hid (XX.out.trans hx);clear hx ac AX))
 all_goals (go_ret;exact ⟨ret_bool (by go_light;(try clear ac);(try clear AX);clear XX HI HO HR;simp_all [taskRight,underOk,placeOk,Label.ext_iff,len_pos];try first | omega | exact Bool.and_comm _ _ | (rw [decide_eq_false (show ¬ x.id≤x.after by omega),Bool.not_false,Bool.true_and];exact Bool.and_comm _ _)),XX.out⟩)
end Go.Proofs.Ytlonjlaecaemgaa
