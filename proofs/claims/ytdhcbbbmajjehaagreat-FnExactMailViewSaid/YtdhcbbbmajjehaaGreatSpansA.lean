/- The walks of the functions on spans. -/
import Derived.Test.YtdhcbbbmajjehaaGreatSmall
namespace Go.Proofs.YtdhcbbbmajjehaaGreat
open Go.RowKit
attribute [local irreducible] wpQuiet

theorem Rd.span {S : Nat → Prop} {w : World} {v : Value} {l : List Span} (h : Rd ESpan S w v l) :
    ∃ A c, v = .slice A l.length c ∧ l.length ≤ c ∧ c ≤ maxLen ∧
      ∀ k, k < l.length → ∃ b o, A = some ⟨b, o, none⟩ ∧ b < w.heap.size ∧ w.cell? ⟨b, o + k * 2, none⟩ = some (.int .i64 (nth l k).from_) ∧ w.cell? ⟨b, o + k * 2 + 1, none⟩ = some (.int .i64 (nth l k).to_) := by
  obtain ⟨A, c, hv, h1, h2, hk⟩ := h.open_
  refine ⟨A, c, hv, h1, h2, fun k hlt => ?_⟩
  obtain ⟨b, o, cs, hA, _, ⟨rfl, _⟩, hc⟩ := hk k hlt
  have h0 := hc 0 _ rfl
  exact ⟨b, o, hA, World.block_lt_of_cell? w ⟨b, o + k * 2, none⟩ h0, h0, hc 1 _ rfl⟩

end Go.Proofs.YtdhcbbbmajjehaaGreat
