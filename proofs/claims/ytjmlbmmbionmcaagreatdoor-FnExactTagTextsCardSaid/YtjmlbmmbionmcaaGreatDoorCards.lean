/-
  DERIVED. GIVEN WITH THE SEED: THE CARDS: each row of YtjmlbmmbionmcaaGreatDoorRows.lean that lists a variable, with what it lists TIED to the program's text (the seventh form; the later family's looks); each row that meets fmt, with fmt's text TOLD by the authors' own Lean function (tested against real Go, not proved from fmt's source: count such statements apart). THE CARD IS WHAT COUNTS. Prove the row's statement (the work); the ties are given (YtjmlbmmbionmcaaGreatDoorTie.lean); close each card by the builder's one call (the guide's Derived/Test/ToyasCard.lean, 'card_holds'). Laid BY PROGRAM, IN A SANDBOX (cutbox-door.mjs). By AI agents, Wed Nov 11 2026. No macro, syntax, notation, axiom, sorry.
-/
import Derived.Test.YtjmlbmmbionmcaaGreatDoorRows
import GoSem.ClaimSeven
namespace Go.Proofs.YtjmlbmmbionmcaaGreatDoor
namespace Rows

/-- THE TIED CARD OF 'laws.FnExactRunTagMachine'. -/
def fnExactRunTagMachineCard : Claim7 := { stood := { row := fnExactRunTagMachineRow, standIns := [], harness := (true, "7ce65354cf1b7134afc942f5a49ce488d5d262854817800e2c02f69e7d75a248"), looks := false }, kinds := [], alts := [], laidByText := true, laidKinds := [.data, .data, .data], laidTests := true, laidLooks := .later }
def FnExactRunTagMachineCardSaid : Prop := Claim7.holds Tryz.pinned (.plain (OpenSpec.ofChange fnExactRunTagMachineSpec)) fnExactRunTagMachineCard

/-- THE TIED CARD OF 'laws.FnExactTagTexts'. -/
def fnExactTagTextsCard : Claim7 := { stood := { row := fnExactTagTextsRow, standIns := [], harness := (true, "7ce65354cf1b7134afc942f5a49ce488d5d262854817800e2c02f69e7d75a248"), looks := false }, kinds := [], alts := [], laidByText := true, laidKinds := [.data, .data, .data], laidTests := true, laidLooks := .later }
def FnExactTagTextsCardSaid : Prop := Claim7.holds Tryz.pinned (.plain (OpenSpec.ofChange fnExactTagTextsSpec)) fnExactTagTextsCard

/-- THE TIED CARD OF 'laws.FnTagSimulates'. -/
def fnTagSimulatesCard : Claim7 := { stood := { row := fnTagSimulatesRow, standIns := [], harness := (true, "7ce65354cf1b7134afc942f5a49ce488d5d262854817800e2c02f69e7d75a248"), looks := false }, kinds := [], alts := [], laidByText := true, laidKinds := [.data, .data, .data], laidTests := true, laidLooks := .later }
def FnTagSimulatesCardSaid : Prop := Claim7.holds Tryz.pinned (.plain (OpenSpec.ofChange fnTagSimulatesSpec)) fnTagSimulatesCard

/-- THE SECOND FORM's CARD OF 'laws.FnExactRunTagMachine'. -/
def fnExactRunTagMachineUptoCard : Claim7 := { stood := { row := fnExactRunTagMachineUptoRow, standIns := [], harness := (true, "7ce65354cf1b7134afc942f5a49ce488d5d262854817800e2c02f69e7d75a248"), looks := false }, kinds := [], alts := [], laidByText := true, laidKinds := [.data, .data, .data], laidTests := true, laidLooks := .later }
def FnExactRunTagMachineUptoCardSaid : Prop := Claim7.holds Tryz.pinned (.plain (OpenSpec.upto fnExactRunTagMachineSpec)) fnExactRunTagMachineUptoCard

/-- THE SECOND FORM's CARD OF 'laws.FnExactTagTexts'. -/
def fnExactTagTextsUptoCard : Claim7 := { stood := { row := fnExactTagTextsUptoRow, standIns := [], harness := (true, "7ce65354cf1b7134afc942f5a49ce488d5d262854817800e2c02f69e7d75a248"), looks := false }, kinds := [], alts := [], laidByText := true, laidKinds := [.data, .data, .data], laidTests := true, laidLooks := .later }
def FnExactTagTextsUptoCardSaid : Prop := Claim7.holds Tryz.pinned (.plain (OpenSpec.upto fnExactTagTextsSpec)) fnExactTagTextsUptoCard

/-- THE SECOND FORM's CARD OF 'laws.FnTagSimulates'. -/
def fnTagSimulatesUptoCard : Claim7 := { stood := { row := fnTagSimulatesUptoRow, standIns := [], harness := (true, "7ce65354cf1b7134afc942f5a49ce488d5d262854817800e2c02f69e7d75a248"), looks := false }, kinds := [], alts := [], laidByText := true, laidKinds := [.data, .data, .data], laidTests := true, laidLooks := .later }
def FnTagSimulatesUptoCardSaid : Prop := Claim7.holds Tryz.pinned (.plain (OpenSpec.upto fnTagSimulatesSpec)) fnTagSimulatesUptoCard
end Rows
end Go.Proofs.YtjmlbmmbionmcaaGreatDoor
