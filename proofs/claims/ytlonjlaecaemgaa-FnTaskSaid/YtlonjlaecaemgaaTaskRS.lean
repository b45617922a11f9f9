/- The walk of TaskRight, the reference's: it answers taskRight. -/
import Derived.Test.YtlonjlaecaemgaaTaskR
namespace Go.Proofs.Ytlonjlaecaemgaa
open Go.RowKit
attribute [local irreducible] wpQuiet
set_option maxHeartbeats 8000000 in
set_option maxRecDepth 50000 in
theorem specTaskRight_any {S:Nat→Prop} (x:Task) (cs:List Value) (w:World) (h:ETask.rel S w cs x) :
 Calls Try.prog 12 #[.agg cs.toArray] w fun e w'=>e=.returned (.bool (taskRight x))∧Ext w w':=by
 obtain ⟨v,rfl,hi,hr⟩:=h
 obtain ⟨A,c,rfl,g1,g2⟩:=hr.form
 unfold maxLen at g2
 have HR:=Lib.hid hr
 have HI:=Lib.hid hi
 clear hr hi
 have HO:Hid (Str x.owner):=Lib.hid (by have hf:=HI.out;simp only [FitTask] at hf;simp only [hf])
 simp only [cellsTask]
 go_enter Try.func12,Try.ntmps12
 go_upto_region 1 with (fail)
 obtain ⟨W,B,hW,hB,hx0,hbox⟩:=box_new w #[.int .i64 x.label.level,.int .i64 x.label.set,.int .i64 x.id,.string x.owner,.int .i64 x.need,.int .i64 x.long,.int .i64 x.prio,.int .i64 x.under.level,.int .i64 x.under.set,.int .i64 x.after,.int .i64 x.born,.int .i64 x.state,.int .i64 x.start,.slice A x.nodes.length c] 27
 rw [← hW,← hB]
 have AX:Hid (Blk W B 27 #[.int .i64 x.label.level,.int .i64 x.label.set,.int .i64 x.id,.string x.owner,.int .i64 x.need,.int .i64 x.long,.int .i64 x.prio,.int .i64 x.under.level,.int .i64 x.under.set,.int .i64 x.after,.int .i64 x.born,.int .i64 x.state,.int .i64 x.start,.slice A x.nodes.length c]):=Lib.hid (by rw [hW,hB];exact Blk.new w _ _)
 have XX:=Lib.hid hx0
 clear hW hB hbox hx0
 have ac:=AX.out.cell
 go_wp2_with (first | (go_at_call 32;refine (l02Is_any _ _ _ _).mono ?_;rintro e w' ⟨rfl,rfl⟩) | (go_at_call 49;refine (l02Time_any _ _).mono ?_;rintro e w' ⟨rfl,rfl⟩) | (go_at_call 47;refine (l03Now_any _ _).mono ?_;rintro e w' ⟨rfl,rfl⟩) | (go_at_call 46;refine (specNameRight_any _ _ HO.out).mono ?_;rintro e w' ⟨rfl,rfl⟩) | (go_at_call 45;(with_reducible refine (specLabelRight_any (S:=S) x.label [.int .i64 x.label.level,.int .i64 x.label.set] _ (rel_Label (by have hf:=HI.out;simp only [FitTask] at hf;simp only [FitLabel,hf,and_self]))).mono ?_);rintro e w1 ⟨rfl,hx⟩;replace AX:=Lib.hid (AX.out.ext hx);replace XX:=Lib.hid (XX.out.trans hx);clear hx ac;have ac:=AX.out.cell) | (go_at_call 48;(with_reducible refine (specBelow_any (S:=S) (S':=S) x.under x.label [.int .i64 x.under.level,.int .i64 x.under.set] [.int .i64 x.label.level,.int .i64 x.label.set] _ (rel_Label (by have hf:=HI.out;simp only [FitTask] at hf;simp only [FitLabel,hf,and_self])) (rel_Label (by have hf:=HI.out;simp only [FitTask] at hf;simp only [FitLabel,hf,and_self]))).mono ?_);rintro e w1 ⟨rfl,hx⟩;replace AX:=Lib.hid (AX.out.ext hx);replace XX:=Lib.hid (XX.out.trans hx);clear hx ac;have ac:=AX.out.cell) | (go_at_call 50;(with_reducible refine (l04Nodes_any x.nodes _ _ (HR.out.ext XX.out)).mono ?_);rintro e w1 ⟨rfl,hx⟩;replace XX:=Lib.hid (XX.out.trans hx);clear hx ac AX))
 all_goals (go_ret;exact ⟨ret_bool (by go_light;(try clear ac);(try clear AX);clear XX HI HO HR;simp_all [taskRight,underOk,placeOk,isWorkB,Label.ext_iff,len_beq];try omega),XX.out⟩)
end Go.Proofs.Ytlonjlaecaemgaa
