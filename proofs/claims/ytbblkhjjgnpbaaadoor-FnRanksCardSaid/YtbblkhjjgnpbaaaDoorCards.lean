/-
  DERIVED. GIVEN WITH THE SEED: THE CARDS: each row of YtbblkhjjgnpbaaaDoorRows.lean that lists a variable, with what it lists TIED to the program's text (the seventh form; the later family's looks); each row that meets fmt, with fmt's text TOLD by the authors' own Lean function (tested against real Go, not proved from fmt's source: count such statements apart). THE CARD IS WHAT COUNTS. Prove the row's statement (the work); the ties are given (YtbblkhjjgnpbaaaDoorTie.lean); close each card by the builder's one call (the guide's Derived/Test/ToyasCard.lean, 'card_holds'). Laid BY PROGRAM, IN A SANDBOX (cutbox-door.mjs). By AI agents, Wed Nov 11 2026. No macro, syntax, notation, axiom, sorry.
-/
import Derived.Test.YtbblkhjjgnpbaaaDoorRows
import GoSem.ClaimSeven
namespace Go.Proofs.YtbblkhjjgnpbaaaDoor
namespace Rows

/-- THE TIED CARD OF 'laws.FnExactWordTexts'. -/
def fnExactWordTextsCard : Claim7 := { stood := { row := fnExactWordTextsRow, standIns := [], harness := (true, "0932e5f9172093f35725675bf730d90e3db30be2aa4d9e13e2192cb2b457d2a4"), looks := true }, kinds := [], alts := [], laidByText := true, laidKinds := [.data, .data, .data], laidTests := true, laidLooks := .later }
def FnExactWordTextsCardSaid : Prop := Claim7.holds Tryd.pinned (.plain (OpenSpec.ofChange fnExactWordTextsSpec)) fnExactWordTextsCard

/-- THE TIED CARD OF 'laws.FnRanks'. -/
def fnRanksCard : Claim7 := { stood := { row := fnRanksRow, standIns := [], harness := (true, "0932e5f9172093f35725675bf730d90e3db30be2aa4d9e13e2192cb2b457d2a4"), looks := true }, kinds := [], alts := [], laidByText := true, laidKinds := [.data, .data, .data, .data, .sentinel, .sentinel, .pinned], laidTests := true, laidLooks := .later }
def FnRanksCardSaid : Prop := Claim7.holds Tryd.pinned (.plain (OpenSpec.ofChange fnRanksSpec)) fnRanksCard

/-- THE TIED CARD OF 'laws.FnExactTurnTexts'. -/
def fnExactTurnTextsCard : Claim7 := { stood := { row := fnExactTurnTextsRow, standIns := [], harness := (true, "0932e5f9172093f35725675bf730d90e3db30be2aa4d9e13e2192cb2b457d2a4"), looks := true }, kinds := [], alts := [], laidByText := true, laidKinds := [.data, .data, .data], laidTests := true, laidLooks := .later }
def FnExactTurnTextsCardSaid : Prop := Claim7.holds Tryd.pinned (.plain (OpenSpec.ofChange fnExactTurnTextsSpec)) fnExactTurnTextsCard

/-- THE SECOND FORM's CARD OF 'laws.FnExactWordTexts'. -/
def fnExactWordTextsUptoCard : Claim7 := { stood := { row := fnExactWordTextsUptoRow, standIns := [], harness := (true, "0932e5f9172093f35725675bf730d90e3db30be2aa4d9e13e2192cb2b457d2a4"), looks := true }, kinds := [], alts := [], laidByText := true, laidKinds := [.data, .data, .data], laidTests := true, laidLooks := .later }
def FnExactWordTextsUptoCardSaid : Prop := Claim7.holds Tryd.pinned (.plain (OpenSpec.upto fnExactWordTextsSpec)) fnExactWordTextsUptoCard

/-- THE SECOND FORM's CARD OF 'laws.FnRanks'. -/
def fnRanksUptoCard : Claim7 := { stood := { row := fnRanksUptoRow, standIns := [], harness := (true, "0932e5f9172093f35725675bf730d90e3db30be2aa4d9e13e2192cb2b457d2a4"), looks := true }, kinds := [], alts := [], laidByText := true, laidKinds := [.data, .data, .data, .data, .sentinel, .sentinel, .pinned], laidTests := true, laidLooks := .later }
def FnRanksUptoCardSaid : Prop := Claim7.holds Tryd.pinned (.plain (OpenSpec.upto fnRanksSpec)) fnRanksUptoCard

/-- THE SECOND FORM's CARD OF 'laws.FnExactTurnTexts'. -/
def fnExactTurnTextsUptoCard : Claim7 := { stood := { row := fnExactTurnTextsUptoRow, standIns := [], harness := (true, "0932e5f9172093f35725675bf730d90e3db30be2aa4d9e13e2192cb2b457d2a4"), looks := true }, kinds := [], alts := [], laidByText := true, laidKinds := [.data, .data, .data], laidTests := true, laidLooks := .later }
def FnExactTurnTextsUptoCardSaid : Prop := Claim7.holds Tryd.pinned (.plain (OpenSpec.upto fnExactTurnTextsSpec)) fnExactTurnTextsUptoCard
end Rows
end Go.Proofs.YtbblkhjjgnpbaaaDoor
