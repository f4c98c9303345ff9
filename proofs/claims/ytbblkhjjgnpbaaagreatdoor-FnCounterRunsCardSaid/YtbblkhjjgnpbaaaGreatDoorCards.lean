/-
  DERIVED. GIVEN WITH THE SEED: THE CARDS: each row of YtbblkhjjgnpbaaaGreatDoorRows.lean that lists a variable, with what it lists TIED to the program's text (the seventh form; the later family's looks); each row that meets fmt, with fmt's text TOLD by the authors' own Lean function (tested against real Go, not proved from fmt's source: count such statements apart). THE CARD IS WHAT COUNTS. Prove the row's statement (the work); the ties are given (YtbblkhjjgnpbaaaGreatDoorTie.lean); close each card by the builder's one call (the guide's Derived/Test/ToyasCard.lean, 'card_holds'). Laid BY PROGRAM, IN A SANDBOX (cutbox-door.mjs). By AI agents, Wed Nov 11 2026. No macro, syntax, notation, axiom, sorry.
-/
import Derived.Test.YtbblkhjjgnpbaaaGreatDoorRows
import GoSem.ClaimSeven
namespace Go.Proofs.YtbblkhjjgnpbaaaGreatDoor
namespace Rows

/-- THE TIED CARD OF 'laws.FnExactMergeVerdicts'. -/
def fnExactMergeVerdictsCard : Claim7 := { stood := { row := fnExactMergeVerdictsRow, standIns := [], harness := (true, "d4660a59034852c54b0ff568c48f694ec87c6639249348493db21433bf86086a"), looks := true }, kinds := [], alts := [], laidByText := true, laidKinds := [.data, .data, .data], laidTests := true, laidLooks := .later }
def FnExactMergeVerdictsCardSaid : Prop := Claim7.holds Tryz.pinned (.plain (OpenSpec.ofChange fnExactMergeVerdictsSpec)) fnExactMergeVerdictsCard

/-- THE TIED CARD OF 'laws.FnTagRuns'. -/
def fnTagRunsCard : Claim7 := { stood := { row := fnTagRunsRow, standIns := [], harness := (true, "d4660a59034852c54b0ff568c48f694ec87c6639249348493db21433bf86086a"), looks := true }, kinds := [], alts := [], laidByText := true, laidKinds := [.data, .data, .data, .data, .sentinel, .sentinel, .pinned], laidTests := true, laidLooks := .later }
def FnTagRunsCardSaid : Prop := Claim7.holds Tryz.pinned (.plain (OpenSpec.ofChange fnTagRunsSpec)) fnTagRunsCard

/-- THE TIED CARD OF 'laws.FnCounterRuns'. -/
def fnCounterRunsCard : Claim7 := { stood := { row := fnCounterRunsRow, standIns := [], harness := (true, "d4660a59034852c54b0ff568c48f694ec87c6639249348493db21433bf86086a"), looks := true }, kinds := [], alts := [], laidByText := true, laidKinds := [.data, .data, .data, .data, .sentinel, .sentinel, .pinned], laidTests := true, laidLooks := .later }
def FnCounterRunsCardSaid : Prop := Claim7.holds Tryz.pinned (.plain (OpenSpec.ofChange fnCounterRunsSpec)) fnCounterRunsCard

/-- THE TIED CARD OF 'laws.FnDigits'. -/
def fnDigitsCard : Claim7 := { stood := { row := fnDigitsRow, standIns := [], harness := (true, "d4660a59034852c54b0ff568c48f694ec87c6639249348493db21433bf86086a"), looks := true }, kinds := [], alts := [], laidByText := true, laidKinds := [.data, .data, .data, .data, .sentinel, .sentinel, .pinned], laidTests := true, laidLooks := .later }
def FnDigitsCardSaid : Prop := Claim7.holds Tryz.pinned (.plain (OpenSpec.ofChange fnDigitsSpec)) fnDigitsCard

/-- THE TIED CARD OF 'laws.FnTagSimulates'. -/
def fnTagSimulatesCard : Claim7 := { stood := { row := fnTagSimulatesRow, standIns := [], harness := (true, "d4660a59034852c54b0ff568c48f694ec87c6639249348493db21433bf86086a"), looks := true }, kinds := [], alts := [], laidByText := true, laidKinds := [.data, .data, .data], laidTests := true, laidLooks := .later }
def FnTagSimulatesCardSaid : Prop := Claim7.holds Tryz.pinned (.plain (OpenSpec.ofChange fnTagSimulatesSpec)) fnTagSimulatesCard

/-- THE TIED CARD OF 'laws.FnEveryMachine'. -/
def fnEveryMachineCard : Claim7 := { stood := { row := fnEveryMachineRow, standIns := [], harness := (true, "d4660a59034852c54b0ff568c48f694ec87c6639249348493db21433bf86086a"), looks := true }, kinds := [], alts := [], laidByText := true, laidKinds := [.data, .data, .data], laidTests := true, laidLooks := .later }
def FnEveryMachineCardSaid : Prop := Claim7.holds Tryz.pinned (.plain (OpenSpec.ofChange fnEveryMachineSpec)) fnEveryMachineCard

/-- THE SECOND FORM's CARD OF 'laws.FnExactMergeVerdicts'. -/
def fnExactMergeVerdictsUptoCard : Claim7 := { stood := { row := fnExactMergeVerdictsUptoRow, standIns := [], harness := (true, "d4660a59034852c54b0ff568c48f694ec87c6639249348493db21433bf86086a"), looks := true }, kinds := [], alts := [], laidByText := true, laidKinds := [.data, .data, .data], laidTests := true, laidLooks := .later }
def FnExactMergeVerdictsUptoCardSaid : Prop := Claim7.holds Tryz.pinned (.plain (OpenSpec.upto fnExactMergeVerdictsSpec)) fnExactMergeVerdictsUptoCard

/-- THE SECOND FORM's CARD OF 'laws.FnTagRuns'. -/
def fnTagRunsUptoCard : Claim7 := { stood := { row := fnTagRunsUptoRow, standIns := [], harness := (true, "d4660a59034852c54b0ff568c48f694ec87c6639249348493db21433bf86086a"), looks := true }, kinds := [], alts := [], laidByText := true, laidKinds := [.data, .data, .data, .data, .sentinel, .sentinel, .pinned], laidTests := true, laidLooks := .later }
def FnTagRunsUptoCardSaid : Prop := Claim7.holds Tryz.pinned (.plain (OpenSpec.upto fnTagRunsSpec)) fnTagRunsUptoCard

/-- THE SECOND FORM's CARD OF 'laws.FnCounterRuns'. -/
def fnCounterRunsUptoCard : Claim7 := { stood := { row := fnCounterRunsUptoRow, standIns := [], harness := (true, "d4660a59034852c54b0ff568c48f694ec87c6639249348493db21433bf86086a"), looks := true }, kinds := [], alts := [], laidByText := true, laidKinds := [.data, .data, .data, .data, .sentinel, .sentinel, .pinned], laidTests := true, laidLooks := .later }
def FnCounterRunsUptoCardSaid : Prop := Claim7.holds Tryz.pinned (.plain (OpenSpec.upto fnCounterRunsSpec)) fnCounterRunsUptoCard

/-- THE SECOND FORM's CARD OF 'laws.FnDigits'. -/
def fnDigitsUptoCard : Claim7 := { stood := { row := fnDigitsUptoRow, standIns := [], harness := (true, "d4660a59034852c54b0ff568c48f694ec87c6639249348493db21433bf86086a"), looks := true }, kinds := [], alts := [], laidByText := true, laidKinds := [.data, .data, .data, .data, .sentinel, .sentinel, .pinned], laidTests := true, laidLooks := .later }
def FnDigitsUptoCardSaid : Prop := Claim7.holds Tryz.pinned (.plain (OpenSpec.upto fnDigitsSpec)) fnDigitsUptoCard

/-- THE SECOND FORM's CARD OF 'laws.FnTagSimulates'. -/
def fnTagSimulatesUptoCard : Claim7 := { stood := { row := fnTagSimulatesUptoRow, standIns := [], harness := (true, "d4660a59034852c54b0ff568c48f694ec87c6639249348493db21433bf86086a"), looks := true }, kinds := [], alts := [], laidByText := true, laidKinds := [.data, .data, .data], laidTests := true, laidLooks := .later }
def FnTagSimulatesUptoCardSaid : Prop := Claim7.holds Tryz.pinned (.plain (OpenSpec.upto fnTagSimulatesSpec)) fnTagSimulatesUptoCard

/-- THE SECOND FORM's CARD OF 'laws.FnEveryMachine'. -/
def fnEveryMachineUptoCard : Claim7 := { stood := { row := fnEveryMachineUptoRow, standIns := [], harness := (true, "d4660a59034852c54b0ff568c48f694ec87c6639249348493db21433bf86086a"), looks := true }, kinds := [], alts := [], laidByText := true, laidKinds := [.data, .data, .data], laidTests := true, laidLooks := .later }
def FnEveryMachineUptoCardSaid : Prop := Claim7.holds Tryz.pinned (.plain (OpenSpec.upto fnEveryMachineSpec)) fnEveryMachineUptoCard
end Rows
end Go.Proofs.YtbblkhjjgnpbaaaGreatDoor
