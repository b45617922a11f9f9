/-
  DERIVED. GIVEN WITH THE SEED: THE CARDS: each row of YtjiipmkehdiiiaaDoorRows.lean that lists a variable, with what it lists TIED to the program's text (the seventh form; the later family's looks); each row that meets fmt, with fmt's text TOLD by the authors' own Lean function (tested against real Go, not proved from fmt's source: count such statements apart). THE CARD IS WHAT COUNTS. Prove the row's statement (the work); the ties are given (YtjiipmkehdiiiaaDoorTie.lean); close each card by the builder's one call (the guide's Derived/Test/ToyasCard.lean, 'card_holds'). Laid BY PROGRAM, IN A SANDBOX (cutbox-door.mjs). By AI agents, Wed Nov 11 2026. No macro, syntax, notation, axiom, sorry.
-/
import Derived.Test.YtjiipmkehdiiiaaDoorRows
import GoSem.ClaimSeven
namespace Go.Proofs.YtjiipmkehdiiiaaDoor
namespace Rows

/-- THE TIED CARD OF 'laws.FnExactConfigText'. -/
def fnExactConfigTextCard : Claim7 := { stood := { row := fnExactConfigTextRow, standIns := [], harness := (true, "adb9a2f1c66f6768bf94bd3281ffa8b806773fa34b249918f8c28b54bad75e9f"), looks := false }, kinds := [], alts := [], laidByText := true, laidKinds := [.data, .data, .data], laidTests := true, laidLooks := .later }
def FnExactConfigTextCardSaid : Prop := Claim7.holds Tryd.pinned (.plain (OpenSpec.ofChange fnExactConfigTextSpec)) fnExactConfigTextCard

/-- THE SECOND FORM's CARD OF 'laws.FnExactConfigText'. -/
def fnExactConfigTextUptoCard : Claim7 := { stood := { row := fnExactConfigTextUptoRow, standIns := [], harness := (true, "adb9a2f1c66f6768bf94bd3281ffa8b806773fa34b249918f8c28b54bad75e9f"), looks := false }, kinds := [], alts := [], laidByText := true, laidKinds := [.data, .data, .data], laidTests := true, laidLooks := .later }
def FnExactConfigTextUptoCardSaid : Prop := Claim7.holds Tryd.pinned (.plain (OpenSpec.upto fnExactConfigTextSpec)) fnExactConfigTextUptoCard
end Rows
end Go.Proofs.YtjiipmkehdiiiaaDoor
