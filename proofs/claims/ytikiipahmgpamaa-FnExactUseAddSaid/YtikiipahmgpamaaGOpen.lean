/- The laws' arguments, opened to plain data. Printed by wip/gen.py. -/
import Derived.Test.YtikiipahmgpamaaRows
import Derived.Test.YtikiipahmgpamaaGElems
import Derived.Test.YtikiipahmgpamaaLaw
namespace Go.Proofs.Ytikiipahmgpamaa
open Go.RowKit Go.ChangeShapes Go.WideShapes Go.Deep

theorem opens_int : Opens Try.prog 2 EInt := opens_int64 Try.underlying2
theorem opens_Span : Opens Try.prog 24 ESpan := by
  intro H enc w base spare held fuel cs x h
  obtain ⟨xs, n, _, _, hlen, hxl, hf⟩ := DataW.trod_struct Try.underlying24 h
  have hlen2 : cs.length = 2 := hlen.trans (by kernel_rfl)
  clear hlen
  obtain ⟨c0, r0, rfl, k0⟩ := len_succ hlen2
  obtain ⟨c1, r1, rfl, k1⟩ := len_succ k0
  obtain rfl := List.eq_nil_of_length_eq_zero k1
  clear hlen2 k0 k1
  have f0 : DataW.trod enc Try.prog w base spare held n 2 (([c0, c1].drop 0).take (Try.prog.cellsOf 2)) = xs[0]? := hf 0 _ rfl
  have z0 : Try.prog.cellsOf 2 = 1 := by kernel_rfl
  rw [z0, List.getElem?_eq_getElem (show 0 < xs.length from by rw [hxl]; decide)] at f0
  have f1 : DataW.trod enc Try.prog w base spare held n 2 (([c0, c1].drop 1).take (Try.prog.cellsOf 2)) = xs[1]? := hf 1 _ rfl
  have z1 : Try.prog.cellsOf 2 = 1 := by kernel_rfl
  rw [z1, List.getElem?_eq_getElem (show 1 < xs.length from by rw [hxl]; decide)] at f1
  obtain ⟨y0, g0⟩ := opens_int f0
  clear f0
  obtain ⟨e0, i0⟩ := g0
  obtain rfl : c0 = .int .i64 y0 := by simpa using e0
  obtain ⟨y1, g1⟩ := opens_int f1
  clear f1
  obtain ⟨e1, i1⟩ := g1
  obtain rfl : c1 = .int .i64 y1 := by simpa using e1
  refine ⟨⟨y0, y1⟩, rfl, ?_⟩
  simp only [FitSpan] at *
  simp only [i0, i1, and_self]

theorem opens_Label : Opens Try.prog 50 ELabel := by
  intro H enc w base spare held fuel cs x h
  obtain ⟨xs, n, _, _, hlen, hxl, hf⟩ := DataW.trod_struct Try.underlying50 h
  have hlen2 : cs.length = 2 := hlen.trans (by kernel_rfl)
  clear hlen
  obtain ⟨c0, r0, rfl, k0⟩ := len_succ hlen2
  obtain ⟨c1, r1, rfl, k1⟩ := len_succ k0
  obtain rfl := List.eq_nil_of_length_eq_zero k1
  clear hlen2 k0 k1
  have f0 : DataW.trod enc Try.prog w base spare held n 2 (([c0, c1].drop 0).take (Try.prog.cellsOf 2)) = xs[0]? := hf 0 _ rfl
  have z0 : Try.prog.cellsOf 2 = 1 := by kernel_rfl
  rw [z0, List.getElem?_eq_getElem (show 0 < xs.length from by rw [hxl]; decide)] at f0
  have f1 : DataW.trod enc Try.prog w base spare held n 2 (([c0, c1].drop 1).take (Try.prog.cellsOf 2)) = xs[1]? := hf 1 _ rfl
  have z1 : Try.prog.cellsOf 2 = 1 := by kernel_rfl
  rw [z1, List.getElem?_eq_getElem (show 1 < xs.length from by rw [hxl]; decide)] at f1
  obtain ⟨y0, g0⟩ := opens_int f0
  clear f0
  obtain ⟨e0, i0⟩ := g0
  obtain rfl : c0 = .int .i64 y0 := by simpa using e0
  obtain ⟨y1, g1⟩ := opens_int f1
  clear f1
  obtain ⟨e1, i1⟩ := g1
  obtain rfl : c1 = .int .i64 y1 := by simpa using e1
  refine ⟨⟨y0, y1⟩, rfl, ?_⟩
  simp only [FitLabel] at *
  simp only [i0, i1, and_self]

theorem opens_SpanS : Opens Try.prog 96 (ERow ESpan) := opens_row Try.underlying96 (by kernel_rfl) (by decide) opens_Span
theorem opens_Node : Opens Try.prog 98 ENode := by
  intro H enc w base spare held fuel cs x h
  obtain ⟨xs, n, _, _, hlen, hxl, hf⟩ := DataW.trod_struct Try.underlying98 h
  have hlen2 : cs.length = 2 := hlen.trans (by kernel_rfl)
  clear hlen
  obtain ⟨c0, r0, rfl, k0⟩ := len_succ hlen2
  obtain ⟨c1, r1, rfl, k1⟩ := len_succ k0
  obtain rfl := List.eq_nil_of_length_eq_zero k1
  clear hlen2 k0 k1
  have f0 : DataW.trod enc Try.prog w base spare held n 2 (([c0, c1].drop 0).take (Try.prog.cellsOf 2)) = xs[0]? := hf 0 _ rfl
  have z0 : Try.prog.cellsOf 2 = 1 := by kernel_rfl
  rw [z0, List.getElem?_eq_getElem (show 0 < xs.length from by rw [hxl]; decide)] at f0
  have f1 : DataW.trod enc Try.prog w base spare held n 96 (([c0, c1].drop 1).take (Try.prog.cellsOf 96)) = xs[1]? := hf 1 _ rfl
  have z1 : Try.prog.cellsOf 96 = 1 := by kernel_rfl
  rw [z1, List.getElem?_eq_getElem (show 1 < xs.length from by rw [hxl]; decide)] at f1
  obtain ⟨y0, g0⟩ := opens_int f0
  clear f0
  obtain ⟨e0, i0⟩ := g0
  obtain rfl : c0 = .int .i64 y0 := by simpa using e0
  obtain ⟨y1, g1⟩ := opens_SpanS f1
  clear f1
  obtain ⟨v1, e1, i1⟩ := g1
  obtain rfl : c1 = v1 := by simpa using e1
  refine ⟨⟨y0, y1⟩, _, rfl, ?_, i1⟩
  simp only [FitNode] at *
  simp only [i0]

theorem opens_string : Opens Try.prog 9 EStr := opens_str Try.underlying9
theorem opens_Use : Opens Try.prog 121 EUse := by
  intro H enc w base spare held fuel cs x h
  obtain ⟨xs, n, _, _, hlen, hxl, hf⟩ := DataW.trod_struct Try.underlying121 h
  have hlen2 : cs.length = 4 := hlen.trans (by kernel_rfl)
  clear hlen
  obtain ⟨c0, r0, rfl, k0⟩ := len_succ hlen2
  obtain ⟨c1, r1, rfl, k1⟩ := len_succ k0
  obtain ⟨c2, r2, rfl, k2⟩ := len_succ k1
  obtain ⟨c3, r3, rfl, k3⟩ := len_succ k2
  obtain rfl := List.eq_nil_of_length_eq_zero k3
  clear hlen2 k0 k1 k2 k3
  have f0 : DataW.trod enc Try.prog w base spare held n 50 (([c0, c1, c2, c3].drop 0).take (Try.prog.cellsOf 50)) = xs[0]? := hf 0 _ rfl
  have z0 : Try.prog.cellsOf 50 = 2 := by kernel_rfl
  rw [z0, List.getElem?_eq_getElem (show 0 < xs.length from by rw [hxl]; decide)] at f0
  have f1 : DataW.trod enc Try.prog w base spare held n 9 (([c0, c1, c2, c3].drop 2).take (Try.prog.cellsOf 9)) = xs[1]? := hf 1 _ rfl
  have z1 : Try.prog.cellsOf 9 = 1 := by kernel_rfl
  rw [z1, List.getElem?_eq_getElem (show 1 < xs.length from by rw [hxl]; decide)] at f1
  have f2 : DataW.trod enc Try.prog w base spare held n 2 (([c0, c1, c2, c3].drop 3).take (Try.prog.cellsOf 2)) = xs[2]? := hf 2 _ rfl
  have z2 : Try.prog.cellsOf 2 = 1 := by kernel_rfl
  rw [z2, List.getElem?_eq_getElem (show 2 < xs.length from by rw [hxl]; decide)] at f2
  obtain ⟨y0, g0⟩ := opens_Label f0
  clear f0
  obtain ⟨e0, i0⟩ := g0
  simp only [cellsLabel, List.drop_zero, List.take_succ_cons, List.take_zero, List.cons.injEq, and_true] at e0
  obtain ⟨rfl, rfl⟩ := e0
  obtain ⟨y1, g1⟩ := opens_string f1
  clear f1
  obtain ⟨e1, i1⟩ := g1
  obtain rfl : c2 = .string y1 := by simpa using e1
  obtain ⟨y2, g2⟩ := opens_int f2
  clear f2
  obtain ⟨e2, i2⟩ := g2
  obtain rfl : c3 = .int .i64 y2 := by simpa using e2
  refine ⟨⟨y0, y1, y2⟩, rfl, ?_⟩
  simp only [FitUse, FitLabel] at *
  simp only [i0, i1, i2, and_self]

theorem opens_Int64S : Opens Try.prog 40 (ERow EInt) := opens_row Try.underlying40 (by kernel_rfl) (by decide) opens_int
theorem opens_NodeS : Opens Try.prog 22 (ERow ENode) := opens_row Try.underlying22 (by kernel_rfl) (by decide) opens_Node
theorem opens_UseS : Opens Try.prog 49 (ERow EUse) := opens_row Try.underlying49 (by kernel_rfl) (by decide) opens_Use
end Go.Proofs.Ytikiipahmgpamaa
