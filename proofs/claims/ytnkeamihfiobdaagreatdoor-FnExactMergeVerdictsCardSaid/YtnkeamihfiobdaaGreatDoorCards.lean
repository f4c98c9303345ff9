/-
  DERIVED. GIVEN WITH THE SEED: THE CARDS: each row of YtnkeamihfiobdaaGreatDoorRows.lean that lists a variable, with what it lists TIED to the program's text (the seventh form; the later family's looks); each row that meets fmt, with fmt's text TOLD by the authors' own Lean function (tested against real Go, not proved from fmt's source: count such statements apart). THE CARD IS WHAT COUNTS. Prove the row's statement (the work); the ties are given (YtnkeamihfiobdaaGreatDoorTie.lean); close each card by the builder's one call (the guide's Derived/Test/ToyasCard.lean, 'card_holds'). Laid BY PROGRAM, IN A SANDBOX (cutbox-door.mjs). By AI agents, Wed Nov 11 2026. No macro, syntax, notation, axiom, sorry.
-/
import Derived.Test.YtnkeamihfiobdaaGreatDoorRows
import GoSem.ClaimSeven
namespace Go.Proofs.YtnkeamihfiobdaaGreatDoor
namespace Rows

/-- THE TIED CARD OF 'laws.FnTagSimulates'. -/
def fnTagSimulatesCard : Claim7 := { stood := { row := fnTagSimulatesRow, standIns := [], harness := (true, "9130e69529054dde2999fd7abb069bbc32232e8800c1eab4944227706bdeb0ba"), looks := true }, kinds := [], alts := [], laidByText := true, laidKinds := [.data, .data, .data], laidTests := true, laidLooks := .later }
def FnTagSimulatesCardSaid : Prop := Claim7.holds Tryz.pinned (.plain (OpenSpec.ofChange fnTagSimulatesSpec)) fnTagSimulatesCard

/-- THE TIED CARD OF 'laws.FnExactMergeVerdicts'. -/
def fnExactMergeVerdictsCard : Claim7 := { stood := { row := fnExactMergeVerdictsRow, standIns := [], harness := (true, "9130e69529054dde2999fd7abb069bbc32232e8800c1eab4944227706bdeb0ba"), looks := true }, kinds := [], alts := [], laidByText := true, laidKinds := [.data, .data, .data], laidTests := true, laidLooks := .later }
def FnExactMergeVerdictsCardSaid : Prop := Claim7.holds Tryz.pinned (.plain (OpenSpec.ofChange fnExactMergeVerdictsSpec)) fnExactMergeVerdictsCard

/-- THE TIED CARD OF 'laws.FnDigits'. -/
def fnDigitsCard : Claim7 := { stood := { row := fnDigitsRow, standIns := [], harness := (true, "9130e69529054dde2999fd7abb069bbc32232e8800c1eab4944227706bdeb0ba"), looks := true }, kinds := [], alts := [], laidByText := true, laidKinds := [.data, .data, .data, .data, .sentinel, .sentinel, .pinned], laidTests := true, laidLooks := .later }
def FnDigitsCardSaid : Prop := Claim7.holds Tryz.pinned (.plain (OpenSpec.ofChange fnDigitsSpec)) fnDigitsCard

/-- THE SECOND FORM's CARD OF 'laws.FnTagSimulates'. -/
def fnTagSimulatesUptoCard : Claim7 := { stood := { row := fnTagSimulatesUptoRow, standIns := [], harness := (true, "9130e69529054dde2999fd7abb069bbc32232e8800c1eab4944227706bdeb0ba"), looks := true }, kinds := [], alts := [], laidByText := true, laidKinds := [.data, .data, .data], laidTests := true, laidLooks := .later }
def FnTagSimulatesUptoCardSaid : Prop := Claim7.holds Tryz.pinned (.plain (OpenSpec.upto fnTagSimulatesSpec)) fnTagSimulatesUptoCard

/-- THE SECOND FORM's CARD OF 'laws.FnExactMergeVerdicts'. -/
def fnExactMergeVerdictsUptoCard : Claim7 := { stood := { row := fnExactMergeVerdictsUptoRow, standIns := [], harness := (true, "9130e69529054dde2999fd7abb069bbc32232e8800c1eab4944227706bdeb0ba"), looks := true }, kinds := [], alts := [], laidByText := true, laidKinds := [.data, .data, .data], laidTests := true, laidLooks := .later }
def FnExactMergeVerdictsUptoCardSaid : Prop := Claim7.holds Tryz.pinned (.plain (OpenSpec.upto fnExactMergeVerdictsSpec)) fnExactMergeVerdictsUptoCard

/-- THE SECOND FORM's CARD OF 'laws.FnDigits'. -/
def fnDigitsUptoCard : Claim7 := { stood := { row := fnDigitsUptoRow, standIns := [], harness := (true, "9130e69529054dde2999fd7abb069bbc32232e8800c1eab4944227706bdeb0ba"), looks := true }, kinds := [], alts := [], laidByText := true, laidKinds := [.data, .data, .data, .data, .sentinel, .sentinel, .pinned], laidTests := true, laidLooks := .later }
def FnDigitsUptoCardSaid : Prop := Claim7.holds Tryz.pinned (.plain (OpenSpec.upto fnDigitsSpec)) fnDigitsUptoCard
end Rows
end Go.Proofs.YtnkeamihfiobdaaGreatDoor
