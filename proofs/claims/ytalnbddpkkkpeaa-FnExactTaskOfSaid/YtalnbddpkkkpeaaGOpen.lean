/- The laws' arguments, opened to plain data. Printed by wip/gen.py. -/
import Derived.Test.YtalnbddpkkkpeaaRows
import Derived.Test.YtalnbddpkkkpeaaGElems
import Derived.Test.YtalnbddpkkkpeaaLaw
namespace Go.Proofs.Ytalnbddpkkkpeaa
open Go.RowKit Go.ChangeShapes Go.WideShapes Go.Deep

theorem opens_int : Opens Try.prog 2 EInt := opens_int64 Try.underlying2
theorem opens_Span : Opens Try.prog 74 ESpan := by
  intro H enc w base spare held fuel cs x h
  obtain ⟨xs, n, _, _, hlen, hxl, hf⟩ := DataW.trod_struct Try.underlying74 h
  have hlen2 : cs.length = 2 := hlen.trans (by kernel_rfl)
  clear hlen
  obtain ⟨c0, r0, rfl, k0⟩ := len_succ hlen2
  obtain ⟨c1, r1, rfl, k1⟩ := len_succ k0
  obtain rfl := List.eq_nil_of_length_eq_zero k1
  clear hlen2 k0 k1
  have f0 : DataW.trod enc Try.prog w base spare held n 2 (([c0, c1].drop 0).take (Try.prog.cellsOf 2)) = xs[0]? := hf 0 _ rfl
  have z0 : Try.prog.cellsOf 2 = 1 := by kernel_rfl
  rw [z0, List.getElem?_eq_getElem (show 0 < xs.length from by rw [hxl]; decide)] at f0
  have f1 : DataW.trod enc Try.prog w base spare held n 2 (([c0, c1].drop 1).take (Try.prog.cellsOf 2)) = xs[1]? := hf 1 _ rfl
  have z1 : Try.prog.cellsOf 2 = 1 := by kernel_rfl
  rw [z1, List.getElem?_eq_getElem (show 1 < xs.length from by rw [hxl]; decide)] at f1
  obtain ⟨y0, g0⟩ := opens_int f0
  clear f0
  obtain ⟨e0, i0⟩ := g0
  obtain rfl : c0 = .int .i64 y0 := by simpa using e0
  obtain ⟨y1, g1⟩ := opens_int f1
  clear f1
  obtain ⟨e1, i1⟩ := g1
  obtain rfl : c1 = .int .i64 y1 := by simpa using e1
  refine ⟨⟨y0, y1⟩, rfl, ?_⟩
  simp only [FitSpan] at *
  simp only [i0, i1, and_self]

theorem opens_Label : Opens Try.prog 38 ELabel := by
  intro H enc w base spare held fuel cs x h
  obtain ⟨xs, n, _, _, hlen, hxl, hf⟩ := DataW.trod_struct Try.underlying38 h
  have hlen2 : cs.length = 2 := hlen.trans (by kernel_rfl)
  clear hlen
  obtain ⟨c0, r0, rfl, k0⟩ := len_succ hlen2
  obtain ⟨c1, r1, rfl, k1⟩ := len_succ k0
  obtain rfl := List.eq_nil_of_length_eq_zero k1
  clear hlen2 k0 k1
  have f0 : DataW.trod enc Try.prog w base spare held n 2 (([c0, c1].drop 0).take (Try.prog.cellsOf 2)) = xs[0]? := hf 0 _ rfl
  have z0 : Try.prog.cellsOf 2 = 1 := by kernel_rfl
  rw [z0, List.getElem?_eq_getElem (show 0 < xs.length from by rw [hxl]; decide)] at f0
  have f1 : DataW.trod enc Try.prog w base spare held n 2 (([c0, c1].drop 1).take (Try.prog.cellsOf 2)) = xs[1]? := hf 1 _ rfl
  have z1 : Try.prog.cellsOf 2 = 1 := by kernel_rfl
  rw [z1, List.getElem?_eq_getElem (show 1 < xs.length from by rw [hxl]; decide)] at f1
  obtain ⟨y0, g0⟩ := opens_int f0
  clear f0
  obtain ⟨e0, i0⟩ := g0
  obtain rfl : c0 = .int .i64 y0 := by simpa using e0
  obtain ⟨y1, g1⟩ := opens_int f1
  clear f1
  obtain ⟨e1, i1⟩ := g1
  obtain rfl : c1 = .int .i64 y1 := by simpa using e1
  refine ⟨⟨y0, y1⟩, rfl, ?_⟩
  simp only [FitLabel] at *
  simp only [i0, i1, and_self]

theorem opens_SpanS : Opens Try.prog 119 (ERow ESpan) := opens_row Try.underlying119 (by kernel_rfl) (by decide) opens_Span
theorem opens_Node : Opens Try.prog 121 ENode := by
  intro H enc w base spare held fuel cs x h
  obtain ⟨xs, n, _, _, hlen, hxl, hf⟩ := DataW.trod_struct Try.underlying121 h
  have hlen2 : cs.length = 2 := hlen.trans (by kernel_rfl)
  clear hlen
  obtain ⟨c0, r0, rfl, k0⟩ := len_succ hlen2
  obtain ⟨c1, r1, rfl, k1⟩ := len_succ k0
  obtain rfl := List.eq_nil_of_length_eq_zero k1
  clear hlen2 k0 k1
  have f0 : DataW.trod enc Try.prog w base spare held n 2 (([c0, c1].drop 0).take (Try.prog.cellsOf 2)) = xs[0]? := hf 0 _ rfl
  have z0 : Try.prog.cellsOf 2 = 1 := by kernel_rfl
  rw [z0, List.getElem?_eq_getElem (show 0 < xs.length from by rw [hxl]; decide)] at f0
  have f1 : DataW.trod enc Try.prog w base spare held n 119 (([c0, c1].drop 1).take (Try.prog.cellsOf 119)) = xs[1]? := hf 1 _ rfl
  have z1 : Try.prog.cellsOf 119 = 1 := by kernel_rfl
  rw [z1, List.getElem?_eq_getElem (show 1 < xs.length from by rw [hxl]; decide)] at f1
  obtain ⟨y0, g0⟩ := opens_int f0
  clear f0
  obtain ⟨e0, i0⟩ := g0
  obtain rfl : c0 = .int .i64 y0 := by simpa using e0
  obtain ⟨y1, g1⟩ := opens_SpanS f1
  clear f1
  obtain ⟨v1, e1, i1⟩ := g1
  obtain rfl : c1 = v1 := by simpa using e1
  refine ⟨⟨y0, y1⟩, _, rfl, ?_, i1⟩
  simp only [FitNode] at *
  simp only [i0]

theorem opens_string : Opens Try.prog 9 EStr := opens_str Try.underlying9
theorem opens_Use : Opens Try.prog 161 EUse := by
  intro H enc w base spare held fuel cs x h
  obtain ⟨xs, n, _, _, hlen, hxl, hf⟩ := DataW.trod_struct Try.underlying161 h
  have hlen2 : cs.length = 4 := hlen.trans (by kernel_rfl)
  clear hlen
  obtain ⟨c0, r0, rfl, k0⟩ := len_succ hlen2
  obtain ⟨c1, r1, rfl, k1⟩ := len_succ k0
  obtain ⟨c2, r2, rfl, k2⟩ := len_succ k1
  obtain ⟨c3, r3, rfl, k3⟩ := len_succ k2
  obtain rfl := List.eq_nil_of_length_eq_zero k3
  clear hlen2 k0 k1 k2 k3
  have f0 : DataW.trod enc Try.prog w base spare held n 38 (([c0, c1, c2, c3].drop 0).take (Try.prog.cellsOf 38)) = xs[0]? := hf 0 _ rfl
  have z0 : Try.prog.cellsOf 38 = 2 := by kernel_rfl
  rw [z0, List.getElem?_eq_getElem (show 0 < xs.length from by rw [hxl]; decide)] at f0
  have f1 : DataW.trod enc Try.prog w base spare held n 9 (([c0, c1, c2, c3].drop 2).take (Try.prog.cellsOf 9)) = xs[1]? := hf 1 _ rfl
  have z1 : Try.prog.cellsOf 9 = 1 := by kernel_rfl
  rw [z1, List.getElem?_eq_getElem (show 1 < xs.length from by rw [hxl]; decide)] at f1
  have f2 : DataW.trod enc Try.prog w base spare held n 2 (([c0, c1, c2, c3].drop 3).take (Try.prog.cellsOf 2)) = xs[2]? := hf 2 _ rfl
  have z2 : Try.prog.cellsOf 2 = 1 := by kernel_rfl
  rw [z2, List.getElem?_eq_getElem (show 2 < xs.length from by rw [hxl]; decide)] at f2
  obtain ⟨y0, g0⟩ := opens_Label f0
  clear f0
  obtain ⟨e0, i0⟩ := g0
  simp only [cellsLabel, List.drop_zero, List.take_succ_cons, List.take_zero, List.cons.injEq, and_true] at e0
  obtain ⟨rfl, rfl⟩ := e0
  obtain ⟨y1, g1⟩ := opens_string f1
  clear f1
  obtain ⟨e1, i1⟩ := g1
  obtain rfl : c2 = .string y1 := by simpa using e1
  obtain ⟨y2, g2⟩ := opens_int f2
  clear f2
  obtain ⟨e2, i2⟩ := g2
  obtain rfl : c3 = .int .i64 y2 := by simpa using e2
  refine ⟨⟨y0, y1, y2⟩, rfl, ?_⟩
  simp only [FitUse, FitLabel] at *
  simp only [i0, i1, i2, and_self]

theorem opens_Int64S : Opens Try.prog 39 (ERow EInt) := opens_row Try.underlying39 (by kernel_rfl) (by decide) opens_int
theorem opens_Task : Opens Try.prog 41 ETask := by
  intro H enc w base spare held fuel cs x h
  obtain ⟨xs, n, _, _, hlen, hxl, hf⟩ := DataW.trod_struct Try.underlying41 h
  have hlen2 : cs.length = 14 := hlen.trans (by kernel_rfl)
  clear hlen
  obtain ⟨c0, r0, rfl, k0⟩ := len_succ hlen2
  obtain ⟨c1, r1, rfl, k1⟩ := len_succ k0
  obtain ⟨c2, r2, rfl, k2⟩ := len_succ k1
  obtain ⟨c3, r3, rfl, k3⟩ := len_succ k2
  obtain ⟨c4, r4, rfl, k4⟩ := len_succ k3
  obtain ⟨c5, r5, rfl, k5⟩ := len_succ k4
  obtain ⟨c6, r6, rfl, k6⟩ := len_succ k5
  obtain ⟨c7, r7, rfl, k7⟩ := len_succ k6
  obtain ⟨c8, r8, rfl, k8⟩ := len_succ k7
  obtain ⟨c9, r9, rfl, k9⟩ := len_succ k8
  obtain ⟨c10, r10, rfl, k10⟩ := len_succ k9
  obtain ⟨c11, r11, rfl, k11⟩ := len_succ k10
  obtain ⟨c12, r12, rfl, k12⟩ := len_succ k11
  obtain ⟨c13, r13, rfl, k13⟩ := len_succ k12
  obtain rfl := List.eq_nil_of_length_eq_zero k13
  clear hlen2 k0 k1 k2 k3 k4 k5 k6 k7 k8 k9 k10 k11 k12 k13
  have f0 : DataW.trod enc Try.prog w base spare held n 38 (([c0, c1, c2, c3, c4, c5, c6, c7, c8, c9, c10, c11, c12, c13].drop 0).take (Try.prog.cellsOf 38)) = xs[0]? := hf 0 _ rfl
  have z0 : Try.prog.cellsOf 38 = 2 := by kernel_rfl
  rw [z0, List.getElem?_eq_getElem (show 0 < xs.length from by rw [hxl]; decide)] at f0
  have f1 : DataW.trod enc Try.prog w base spare held n 2 (([c0, c1, c2, c3, c4, c5, c6, c7, c8, c9, c10, c11, c12, c13].drop 2).take (Try.prog.cellsOf 2)) = xs[1]? := hf 1 _ rfl
  have z1 : Try.prog.cellsOf 2 = 1 := by kernel_rfl
  rw [z1, List.getElem?_eq_getElem (show 1 < xs.length from by rw [hxl]; decide)] at f1
  have f2 : DataW.trod enc Try.prog w base spare held n 9 (([c0, c1, c2, c3, c4, c5, c6, c7, c8, c9, c10, c11, c12, c13].drop 3).take (Try.prog.cellsOf 9)) = xs[2]? := hf 2 _ rfl
  have z2 : Try.prog.cellsOf 9 = 1 := by kernel_rfl
  rw [z2, List.getElem?_eq_getElem (show 2 < xs.length from by rw [hxl]; decide)] at f2
  have f3 : DataW.trod enc Try.prog w base spare held n 2 (([c0, c1, c2, c3, c4, c5, c6, c7, c8, c9, c10, c11, c12, c13].drop 4).take (Try.prog.cellsOf 2)) = xs[3]? := hf 3 _ rfl
  have z3 : Try.prog.cellsOf 2 = 1 := by kernel_rfl
  rw [z3, List.getElem?_eq_getElem (show 3 < xs.length from by rw [hxl]; decide)] at f3
  have f4 : DataW.trod enc Try.prog w base spare held n 2 (([c0, c1, c2, c3, c4, c5, c6, c7, c8, c9, c10, c11, c12, c13].drop 5).take (Try.prog.cellsOf 2)) = xs[4]? := hf 4 _ rfl
  have z4 : Try.prog.cellsOf 2 = 1 := by kernel_rfl
  rw [z4, List.getElem?_eq_getElem (show 4 < xs.length from by rw [hxl]; decide)] at f4
  have f5 : DataW.trod enc Try.prog w base spare held n 2 (([c0, c1, c2, c3, c4, c5, c6, c7, c8, c9, c10, c11, c12, c13].drop 6).take (Try.prog.cellsOf 2)) = xs[5]? := hf 5 _ rfl
  have z5 : Try.prog.cellsOf 2 = 1 := by kernel_rfl
  rw [z5, List.getElem?_eq_getElem (show 5 < xs.length from by rw [hxl]; decide)] at f5
  have f6 : DataW.trod enc Try.prog w base spare held n 38 (([c0, c1, c2, c3, c4, c5, c6, c7, c8, c9, c10, c11, c12, c13].drop 7).take (Try.prog.cellsOf 38)) = xs[6]? := hf 6 _ rfl
  have z6 : Try.prog.cellsOf 38 = 2 := by kernel_rfl
  rw [z6, List.getElem?_eq_getElem (show 6 < xs.length from by rw [hxl]; decide)] at f6
  have f7 : DataW.trod enc Try.prog w base spare held n 2 (([c0, c1, c2, c3, c4, c5, c6, c7, c8, c9, c10, c11, c12, c13].drop 9).take (Try.prog.cellsOf 2)) = xs[7]? := hf 7 _ rfl
  have z7 : Try.prog.cellsOf 2 = 1 := by kernel_rfl
  rw [z7, List.getElem?_eq_getElem (show 7 < xs.length from by rw [hxl]; decide)] at f7
  have f8 : DataW.trod enc Try.prog w base spare held n 2 (([c0, c1, c2, c3, c4, c5, c6, c7, c8, c9, c10, c11, c12, c13].drop 10).take (Try.prog.cellsOf 2)) = xs[8]? := hf 8 _ rfl
  have z8 : Try.prog.cellsOf 2 = 1 := by kernel_rfl
  rw [z8, List.getElem?_eq_getElem (show 8 < xs.length from by rw [hxl]; decide)] at f8
  have f9 : DataW.trod enc Try.prog w base spare held n 2 (([c0, c1, c2, c3, c4, c5, c6, c7, c8, c9, c10, c11, c12, c13].drop 11).take (Try.prog.cellsOf 2)) = xs[9]? := hf 9 _ rfl
  have z9 : Try.prog.cellsOf 2 = 1 := by kernel_rfl
  rw [z9, List.getElem?_eq_getElem (show 9 < xs.length from by rw [hxl]; decide)] at f9
  have f10 : DataW.trod enc Try.prog w base spare held n 2 (([c0, c1, c2, c3, c4, c5, c6, c7, c8, c9, c10, c11, c12, c13].drop 12).take (Try.prog.cellsOf 2)) = xs[10]? := hf 10 _ rfl
  have z10 : Try.prog.cellsOf 2 = 1 := by kernel_rfl
  rw [z10, List.getElem?_eq_getElem (show 10 < xs.length from by rw [hxl]; decide)] at f10
  have f11 : DataW.trod enc Try.prog w base spare held n 39 (([c0, c1, c2, c3, c4, c5, c6, c7, c8, c9, c10, c11, c12, c13].drop 13).take (Try.prog.cellsOf 39)) = xs[11]? := hf 11 _ rfl
  have z11 : Try.prog.cellsOf 39 = 1 := by kernel_rfl
  rw [z11, List.getElem?_eq_getElem (show 11 < xs.length from by rw [hxl]; decide)] at f11
  obtain ⟨y0, g0⟩ := opens_Label f0
  clear f0
  obtain ⟨e0, i0⟩ := g0
  simp only [cellsLabel, List.drop_zero, List.take_succ_cons, List.take_zero, List.cons.injEq, and_true] at e0
  obtain ⟨rfl, rfl⟩ := e0
  obtain ⟨y1, g1⟩ := opens_int f1
  clear f1
  obtain ⟨e1, i1⟩ := g1
  obtain rfl : c2 = .int .i64 y1 := by simpa using e1
  obtain ⟨y2, g2⟩ := opens_string f2
  clear f2
  obtain ⟨e2, i2⟩ := g2
  obtain rfl : c3 = .string y2 := by simpa using e2
  obtain ⟨y3, g3⟩ := opens_int f3
  clear f3
  obtain ⟨e3, i3⟩ := g3
  obtain rfl : c4 = .int .i64 y3 := by simpa using e3
  obtain ⟨y4, g4⟩ := opens_int f4
  clear f4
  obtain ⟨e4, i4⟩ := g4
  obtain rfl : c5 = .int .i64 y4 := by simpa using e4
  obtain ⟨y5, g5⟩ := opens_int f5
  clear f5
  obtain ⟨e5, i5⟩ := g5
  obtain rfl : c6 = .int .i64 y5 := by simpa using e5
  obtain ⟨y6, g6⟩ := opens_Label f6
  clear f6
  obtain ⟨e6, i6⟩ := g6
  simp only [cellsLabel, List.drop_zero, List.drop_succ_cons, List.take_succ_cons, List.take_zero, List.cons.injEq, and_true] at e6
  obtain ⟨rfl, rfl⟩ := e6
  obtain ⟨y7, g7⟩ := opens_int f7
  clear f7
  obtain ⟨e7, i7⟩ := g7
  obtain rfl : c9 = .int .i64 y7 := by simpa using e7
  obtain ⟨y8, g8⟩ := opens_int f8
  clear f8
  obtain ⟨e8, i8⟩ := g8
  obtain rfl : c10 = .int .i64 y8 := by simpa using e8
  obtain ⟨y9, g9⟩ := opens_int f9
  clear f9
  obtain ⟨e9, i9⟩ := g9
  obtain rfl : c11 = .int .i64 y9 := by simpa using e9
  obtain ⟨y10, g10⟩ := opens_int f10
  clear f10
  obtain ⟨e10, i10⟩ := g10
  obtain rfl : c12 = .int .i64 y10 := by simpa using e10
  obtain ⟨y11, g11⟩ := opens_Int64S f11
  clear f11
  obtain ⟨v11, e11, i11⟩ := g11
  obtain rfl : c13 = v11 := by simpa using e11
  refine ⟨⟨y0, y1, y2, y3, y4, y5, y6, y7, y8, y9, y10, y11⟩, _, rfl, ?_, i11⟩
  simp only [FitTask, FitLabel, FitLabel] at *
  simp only [i0, i1, i2, i3, i4, i5, i6, i7, i8, i9, i10, and_self]

theorem opens_Pair : Opens Try.prog 235 EPair := by
  intro H enc w base spare held fuel cs x h
  obtain ⟨xs, n, _, _, hlen, hxl, hf⟩ := DataW.trod_struct Try.underlying235 h
  have hlen2 : cs.length = 5 := hlen.trans (by kernel_rfl)
  clear hlen
  obtain ⟨c0, r0, rfl, k0⟩ := len_succ hlen2
  obtain ⟨c1, r1, rfl, k1⟩ := len_succ k0
  obtain ⟨c2, r2, rfl, k2⟩ := len_succ k1
  obtain ⟨c3, r3, rfl, k3⟩ := len_succ k2
  obtain ⟨c4, r4, rfl, k4⟩ := len_succ k3
  obtain rfl := List.eq_nil_of_length_eq_zero k4
  clear hlen2 k0 k1 k2 k3 k4
  have f0 : DataW.trod enc Try.prog w base spare held n 38 (([c0, c1, c2, c3, c4].drop 0).take (Try.prog.cellsOf 38)) = xs[0]? := hf 0 _ rfl
  have z0 : Try.prog.cellsOf 38 = 2 := by kernel_rfl
  rw [z0, List.getElem?_eq_getElem (show 0 < xs.length from by rw [hxl]; decide)] at f0
  have f1 : DataW.trod enc Try.prog w base spare held n 38 (([c0, c1, c2, c3, c4].drop 2).take (Try.prog.cellsOf 38)) = xs[1]? := hf 1 _ rfl
  have z1 : Try.prog.cellsOf 38 = 2 := by kernel_rfl
  rw [z1, List.getElem?_eq_getElem (show 1 < xs.length from by rw [hxl]; decide)] at f1
  have f2 : DataW.trod enc Try.prog w base spare held n 2 (([c0, c1, c2, c3, c4].drop 4).take (Try.prog.cellsOf 2)) = xs[2]? := hf 2 _ rfl
  have z2 : Try.prog.cellsOf 2 = 1 := by kernel_rfl
  rw [z2, List.getElem?_eq_getElem (show 2 < xs.length from by rw [hxl]; decide)] at f2
  obtain ⟨y0, g0⟩ := opens_Label f0
  clear f0
  obtain ⟨e0, i0⟩ := g0
  simp only [cellsLabel, List.drop_zero, List.take_succ_cons, List.take_zero, List.cons.injEq, and_true] at e0
  obtain ⟨rfl, rfl⟩ := e0
  obtain ⟨y1, g1⟩ := opens_Label f1
  clear f1
  obtain ⟨e1, i1⟩ := g1
  simp only [cellsLabel, List.drop_zero, List.drop_succ_cons, List.take_succ_cons, List.take_zero, List.cons.injEq, and_true] at e1
  obtain ⟨rfl, rfl⟩ := e1
  obtain ⟨y2, g2⟩ := opens_int f2
  clear f2
  obtain ⟨e2, i2⟩ := g2
  obtain rfl : c4 = .int .i64 y2 := by simpa using e2
  refine ⟨⟨y0, y1, y2⟩, rfl, ?_⟩
  simp only [FitPair, FitLabel, FitLabel] at *
  simp only [i0, i1, i2, and_self]

theorem opens_Quota : Opens Try.prog 240 EQuota := by
  intro H enc w base spare held fuel cs x h
  obtain ⟨xs, n, _, _, hlen, hxl, hf⟩ := DataW.trod_struct Try.underlying240 h
  have hlen2 : cs.length = 3 := hlen.trans (by kernel_rfl)
  clear hlen
  obtain ⟨c0, r0, rfl, k0⟩ := len_succ hlen2
  obtain ⟨c1, r1, rfl, k1⟩ := len_succ k0
  obtain ⟨c2, r2, rfl, k2⟩ := len_succ k1
  obtain rfl := List.eq_nil_of_length_eq_zero k2
  clear hlen2 k0 k1 k2
  have f0 : DataW.trod enc Try.prog w base spare held n 38 (([c0, c1, c2].drop 0).take (Try.prog.cellsOf 38)) = xs[0]? := hf 0 _ rfl
  have z0 : Try.prog.cellsOf 38 = 2 := by kernel_rfl
  rw [z0, List.getElem?_eq_getElem (show 0 < xs.length from by rw [hxl]; decide)] at f0
  have f1 : DataW.trod enc Try.prog w base spare held n 2 (([c0, c1, c2].drop 2).take (Try.prog.cellsOf 2)) = xs[1]? := hf 1 _ rfl
  have z1 : Try.prog.cellsOf 2 = 1 := by kernel_rfl
  rw [z1, List.getElem?_eq_getElem (show 1 < xs.length from by rw [hxl]; decide)] at f1
  obtain ⟨y0, g0⟩ := opens_Label f0
  clear f0
  obtain ⟨e0, i0⟩ := g0
  simp only [cellsLabel, List.drop_zero, List.take_succ_cons, List.take_zero, List.cons.injEq, and_true] at e0
  obtain ⟨rfl, rfl⟩ := e0
  obtain ⟨y1, g1⟩ := opens_int f1
  clear f1
  obtain ⟨e1, i1⟩ := g1
  obtain rfl : c2 = .int .i64 y1 := by simpa using e1
  refine ⟨⟨y0, y1⟩, rfl, ?_⟩
  simp only [FitQuota, FitLabel] at *
  simp only [i0, i1, and_self]

theorem opens_LabelS : Opens Try.prog 225 (ERow ELabel) := opens_row Try.underlying225 (by kernel_rfl) (by decide) opens_Label
theorem opens_LabelSS : Opens Try.prog 93 (ERow (ERow ELabel)) := opens_row Try.underlying93 (by kernel_rfl) (by decide) opens_LabelS
theorem opens_PairS : Opens Try.prog 94 (ERow EPair) := opens_row Try.underlying94 (by kernel_rfl) (by decide) opens_Pair
theorem opens_QuotaS : Opens Try.prog 95 (ERow EQuota) := opens_row Try.underlying95 (by kernel_rfl) (by decide) opens_Quota
theorem opens_Config : Opens Try.prog 97 EConfig := by
  intro H enc w base spare held fuel cs x h
  obtain ⟨xs, n, _, _, hlen, hxl, hf⟩ := DataW.trod_struct Try.underlying97 h
  have hlen2 : cs.length = 4 := hlen.trans (by kernel_rfl)
  clear hlen
  obtain ⟨c0, r0, rfl, k0⟩ := len_succ hlen2
  obtain ⟨c1, r1, rfl, k1⟩ := len_succ k0
  obtain ⟨c2, r2, rfl, k2⟩ := len_succ k1
  obtain ⟨c3, r3, rfl, k3⟩ := len_succ k2
  obtain rfl := List.eq_nil_of_length_eq_zero k3
  clear hlen2 k0 k1 k2 k3
  have f0 : DataW.trod enc Try.prog w base spare held n 93 (([c0, c1, c2, c3].drop 0).take (Try.prog.cellsOf 93)) = xs[0]? := hf 0 _ rfl
  have z0 : Try.prog.cellsOf 93 = 1 := by kernel_rfl
  rw [z0, List.getElem?_eq_getElem (show 0 < xs.length from by rw [hxl]; decide)] at f0
  have f1 : DataW.trod enc Try.prog w base spare held n 94 (([c0, c1, c2, c3].drop 1).take (Try.prog.cellsOf 94)) = xs[1]? := hf 1 _ rfl
  have z1 : Try.prog.cellsOf 94 = 1 := by kernel_rfl
  rw [z1, List.getElem?_eq_getElem (show 1 < xs.length from by rw [hxl]; decide)] at f1
  have f2 : DataW.trod enc Try.prog w base spare held n 95 (([c0, c1, c2, c3].drop 2).take (Try.prog.cellsOf 95)) = xs[2]? := hf 2 _ rfl
  have z2 : Try.prog.cellsOf 95 = 1 := by kernel_rfl
  rw [z2, List.getElem?_eq_getElem (show 2 < xs.length from by rw [hxl]; decide)] at f2
  have f3 : DataW.trod enc Try.prog w base spare held n 2 (([c0, c1, c2, c3].drop 3).take (Try.prog.cellsOf 2)) = xs[3]? := hf 3 _ rfl
  have z3 : Try.prog.cellsOf 2 = 1 := by kernel_rfl
  rw [z3, List.getElem?_eq_getElem (show 3 < xs.length from by rw [hxl]; decide)] at f3
  obtain ⟨y0, g0⟩ := opens_LabelSS f0
  clear f0
  obtain ⟨v0, e0, i0⟩ := g0
  obtain rfl : c0 = v0 := by simpa using e0
  obtain ⟨y1, g1⟩ := opens_PairS f1
  clear f1
  obtain ⟨v1, e1, i1⟩ := g1
  obtain rfl : c1 = v1 := by simpa using e1
  obtain ⟨y2, g2⟩ := opens_QuotaS f2
  clear f2
  obtain ⟨v2, e2, i2⟩ := g2
  obtain rfl : c2 = v2 := by simpa using e2
  obtain ⟨y3, g3⟩ := opens_int f3
  clear f3
  obtain ⟨e3, i3⟩ := g3
  obtain rfl : c3 = .int .i64 y3 := by simpa using e3
  refine ⟨⟨y0, y1, y2, y3⟩, _, _, _, rfl, ?_, i0, i1, i2⟩
  simp only [FitConfig] at *
  simp only [i3]

theorem opens_NodeS : Opens Try.prog 27 (ERow ENode) := opens_row Try.underlying27 (by kernel_rfl) (by decide) opens_Node
theorem opens_TaskS : Opens Try.prog 55 (ERow ETask) := opens_row Try.underlying55 (by kernel_rfl) (by decide) opens_Task
theorem opens_UseS : Opens Try.prog 85 (ERow EUse) := opens_row Try.underlying85 (by kernel_rfl) (by decide) opens_Use
end Go.Proofs.Ytalnbddpkkkpeaa
