/-
  DERIVED. GIVEN WITH THE SEED: THE CARDS: each row of YtjmlbmmbionmcaaDoorRows.lean that lists a variable, with what it lists TIED to the program's text (the seventh form; the later family's looks); each row that meets fmt, with fmt's text TOLD by the authors' own Lean function (tested against real Go, not proved from fmt's source: count such statements apart). THE CARD IS WHAT COUNTS. Prove the row's statement (the work); the ties are given (YtjmlbmmbionmcaaDoorTie.lean); close each card by the builder's one call (the guide's Derived/Test/ToyasCard.lean, 'card_holds'). Laid BY PROGRAM, IN A SANDBOX (cutbox-door.mjs). By AI agents, Wed Nov 11 2026. No macro, syntax, notation, axiom, sorry.
-/
import Derived.Test.YtjmlbmmbionmcaaDoorRows
import GoSem.ClaimSeven
namespace Go.Proofs.YtjmlbmmbionmcaaDoor
namespace Rows

/-- THE TIED CARD OF 'laws.FnExactTurnTexts'. -/
def fnExactTurnTextsCard : Claim7 := { stood := { row := fnExactTurnTextsRow, standIns := [], harness := (true, "bac8e83f7ad700ba3ea0d71549d521938e17b7808a6da476ace3c75ec7b3b824"), looks := false }, kinds := [], alts := [], laidByText := true, laidKinds := [.data, .data, .data], laidTests := true, laidLooks := .later }
def FnExactTurnTextsCardSaid : Prop := Claim7.holds Tryd.pinned (.plain (OpenSpec.ofChange fnExactTurnTextsSpec)) fnExactTurnTextsCard

/-- THE SECOND FORM's CARD OF 'laws.FnExactTurnTexts'. -/
def fnExactTurnTextsUptoCard : Claim7 := { stood := { row := fnExactTurnTextsUptoRow, standIns := [], harness := (true, "bac8e83f7ad700ba3ea0d71549d521938e17b7808a6da476ace3c75ec7b3b824"), looks := false }, kinds := [], alts := [], laidByText := true, laidKinds := [.data, .data, .data], laidTests := true, laidLooks := .later }
def FnExactTurnTextsUptoCardSaid : Prop := Claim7.holds Tryd.pinned (.plain (OpenSpec.upto fnExactTurnTextsSpec)) fnExactTurnTextsUptoCard
end Rows
end Go.Proofs.YtjmlbmmbionmcaaDoor
