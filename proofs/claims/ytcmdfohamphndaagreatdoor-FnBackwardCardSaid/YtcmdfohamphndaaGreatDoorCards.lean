/-
  DERIVED. GIVEN WITH THE SEED: THE CARDS: each row of YtcmdfohamphndaaGreatDoorRows.lean that lists a variable, with what it lists TIED to the program's text (the seventh form; the later family's looks); each row that meets fmt, with fmt's text TOLD by the authors' own Lean function (tested against real Go, not proved from fmt's source: count such statements apart). THE CARD IS WHAT COUNTS. Prove the row's statement (the work); the ties are given (YtcmdfohamphndaaGreatDoorTie.lean); close each card by the builder's one call (the guide's Derived/Test/ToyasCard.lean, 'card_holds'). Laid BY PROGRAM, IN A SANDBOX (cutbox-door.mjs). By AI agents, Wed Nov 11 2026. No macro, syntax, notation, axiom, sorry.
-/
import Derived.Test.YtcmdfohamphndaaGreatDoorRows
import GoSem.ClaimSeven
namespace Go.Proofs.YtcmdfohamphndaaGreatDoor
namespace Rows

/-- THE TIED CARD OF 'laws.FnExactTnfAt'. -/
def fnExactTnfAtCard : Claim7 := { stood := { row := fnExactTnfAtRow, standIns := [], harness := (true, "640e082cf7186c156799886b398b4b8f4dc5ba5bae81773fd5ae437755213bf9"), looks := true }, kinds := [], alts := [], laidByText := true, laidKinds := [.data, .data, .data], laidTests := true, laidLooks := .later }
def FnExactTnfAtCardSaid : Prop := Claim7.holds Tryz.pinned (.plain (OpenSpec.ofChange fnExactTnfAtSpec)) fnExactTnfAtCard

/-- THE TIED CARD OF 'laws.FnExactNextNode'. -/
def fnExactNextNodeCard : Claim7 := { stood := { row := fnExactNextNodeRow, standIns := [], harness := (true, "640e082cf7186c156799886b398b4b8f4dc5ba5bae81773fd5ae437755213bf9"), looks := true }, kinds := [], alts := [], laidByText := true, laidKinds := [.data, .data, .data], laidTests := true, laidLooks := .later }
def FnExactNextNodeCardSaid : Prop := Claim7.holds Tryz.pinned (.plain (OpenSpec.ofChange fnExactNextNodeSpec)) fnExactNextNodeCard

/-- THE TIED CARD OF 'laws.FnExactNodesFrom'. -/
def fnExactNodesFromCard : Claim7 := { stood := { row := fnExactNodesFromRow, standIns := [], harness := (true, "640e082cf7186c156799886b398b4b8f4dc5ba5bae81773fd5ae437755213bf9"), looks := true }, kinds := [], alts := [], laidByText := true, laidKinds := [.data, .data, .data], laidTests := true, laidLooks := .later }
def FnExactNodesFromCardSaid : Prop := Claim7.holds Tryz.pinned (.plain (OpenSpec.ofChange fnExactNodesFromSpec)) fnExactNodesFromCard

/-- THE TIED CARD OF 'laws.FnExactPathOfMachine'. -/
def fnExactPathOfMachineCard : Claim7 := { stood := { row := fnExactPathOfMachineRow, standIns := [], harness := (true, "640e082cf7186c156799886b398b4b8f4dc5ba5bae81773fd5ae437755213bf9"), looks := true }, kinds := [], alts := [], laidByText := true, laidKinds := [.data, .data, .data], laidTests := true, laidLooks := .later }
def FnExactPathOfMachineCardSaid : Prop := Claim7.holds Tryz.pinned (.plain (OpenSpec.ofChange fnExactPathOfMachineSpec)) fnExactPathOfMachineCard

/-- THE TIED CARD OF 'laws.FnExactIsTnf'. -/
def fnExactIsTnfCard : Claim7 := { stood := { row := fnExactIsTnfRow, standIns := [], harness := (true, "640e082cf7186c156799886b398b4b8f4dc5ba5bae81773fd5ae437755213bf9"), looks := true }, kinds := [], alts := [], laidByText := true, laidKinds := [.data, .data, .data], laidTests := true, laidLooks := .later }
def FnExactIsTnfCardSaid : Prop := Claim7.holds Tryz.pinned (.plain (OpenSpec.ofChange fnExactIsTnfSpec)) fnExactIsTnfCard

/-- THE TIED CARD OF 'laws.FnExactNodesBelow'. -/
def fnExactNodesBelowCard : Claim7 := { stood := { row := fnExactNodesBelowRow, standIns := [], harness := (true, "640e082cf7186c156799886b398b4b8f4dc5ba5bae81773fd5ae437755213bf9"), looks := true }, kinds := [], alts := [], laidByText := true, laidKinds := [.data, .data, .data], laidTests := true, laidLooks := .later }
def FnExactNodesBelowCardSaid : Prop := Claim7.holds Tryz.pinned (.plain (OpenSpec.ofChange fnExactNodesBelowSpec)) fnExactNodesBelowCard

/-- THE TIED CARD OF 'laws.FnExactStatusCounts'. -/
def fnExactStatusCountsCard : Claim7 := { stood := { row := fnExactStatusCountsRow, standIns := [], harness := (true, "640e082cf7186c156799886b398b4b8f4dc5ba5bae81773fd5ae437755213bf9"), looks := true }, kinds := [], alts := [], laidByText := true, laidKinds := [.data, .data, .data], laidTests := true, laidLooks := .later }
def FnExactStatusCountsCardSaid : Prop := Claim7.holds Tryz.pinned (.plain (OpenSpec.ofChange fnExactStatusCountsSpec)) fnExactStatusCountsCard

/-- THE TIED CARD OF 'laws.FnTree'. -/
def fnTreeCard : Claim7 := { stood := { row := fnTreeRow, standIns := [], harness := (true, "640e082cf7186c156799886b398b4b8f4dc5ba5bae81773fd5ae437755213bf9"), looks := true }, kinds := [], alts := [], laidByText := true, laidKinds := [.data, .data, .data, .data, .sentinel, .sentinel, .pinned], laidTests := true, laidLooks := .later }
def FnTreeCardSaid : Prop := Claim7.holds Tryz.pinned (.plain (OpenSpec.ofChange fnTreeSpec)) fnTreeCard

/-- THE TIED CARD OF 'laws.FnExactWorkUnits'. -/
def fnExactWorkUnitsCard : Claim7 := { stood := { row := fnExactWorkUnitsRow, standIns := [], harness := (true, "640e082cf7186c156799886b398b4b8f4dc5ba5bae81773fd5ae437755213bf9"), looks := true }, kinds := [], alts := [], laidByText := true, laidKinds := [.data, .data, .data], laidTests := true, laidLooks := .later }
def FnExactWorkUnitsCardSaid : Prop := Claim7.holds Tryz.pinned (.plain (OpenSpec.ofChange fnExactWorkUnitsSpec)) fnExactWorkUnitsCard

/-- THE TIED CARD OF 'laws.FnExactCheckBackward'. -/
def fnExactCheckBackwardCard : Claim7 := { stood := { row := fnExactCheckBackwardRow, standIns := [], harness := (true, "640e082cf7186c156799886b398b4b8f4dc5ba5bae81773fd5ae437755213bf9"), looks := true }, kinds := [], alts := [], laidByText := true, laidKinds := [.data, .data, .data], laidTests := true, laidLooks := .later }
def FnExactCheckBackwardCardSaid : Prop := Claim7.holds Tryz.pinned (.plain (OpenSpec.ofChange fnExactCheckBackwardSpec)) fnExactCheckBackwardCard

/-- THE TIED CARD OF 'laws.FnExactFindBackward'. -/
def fnExactFindBackwardCard : Claim7 := { stood := { row := fnExactFindBackwardRow, standIns := [], harness := (true, "640e082cf7186c156799886b398b4b8f4dc5ba5bae81773fd5ae437755213bf9"), looks := true }, kinds := [], alts := [], laidByText := true, laidKinds := [.data, .data, .data], laidTests := true, laidLooks := .later }
def FnExactFindBackwardCardSaid : Prop := Claim7.holds Tryz.pinned (.plain (OpenSpec.ofChange fnExactFindBackwardSpec)) fnExactFindBackwardCard

/-- THE TIED CARD OF 'laws.FnBackward'. -/
def fnBackwardCard : Claim7 := { stood := { row := fnBackwardRow, standIns := [], harness := (true, "640e082cf7186c156799886b398b4b8f4dc5ba5bae81773fd5ae437755213bf9"), looks := true }, kinds := [], alts := [], laidByText := true, laidKinds := [.data, .data, .data, .sentinel, .sentinel], laidTests := true, laidLooks := .later }
def FnBackwardCardSaid : Prop := Claim7.holds Tryz.pinned (.plain (OpenSpec.ofChange fnBackwardSpec)) fnBackwardCard

/-- THE SECOND FORM's CARD OF 'laws.FnExactTnfAt'. -/
def fnExactTnfAtUptoCard : Claim7 := { stood := { row := fnExactTnfAtUptoRow, standIns := [], harness := (true, "640e082cf7186c156799886b398b4b8f4dc5ba5bae81773fd5ae437755213bf9"), looks := true }, kinds := [], alts := [], laidByText := true, laidKinds := [.data, .data, .data], laidTests := true, laidLooks := .later }
def FnExactTnfAtUptoCardSaid : Prop := Claim7.holds Tryz.pinned (.plain (OpenSpec.upto fnExactTnfAtSpec)) fnExactTnfAtUptoCard

/-- THE SECOND FORM's CARD OF 'laws.FnExactNextNode'. -/
def fnExactNextNodeUptoCard : Claim7 := { stood := { row := fnExactNextNodeUptoRow, standIns := [], harness := (true, "640e082cf7186c156799886b398b4b8f4dc5ba5bae81773fd5ae437755213bf9"), looks := true }, kinds := [], alts := [], laidByText := true, laidKinds := [.data, .data, .data], laidTests := true, laidLooks := .later }
def FnExactNextNodeUptoCardSaid : Prop := Claim7.holds Tryz.pinned (.plain (OpenSpec.upto fnExactNextNodeSpec)) fnExactNextNodeUptoCard

/-- THE SECOND FORM's CARD OF 'laws.FnExactNodesFrom'. -/
def fnExactNodesFromUptoCard : Claim7 := { stood := { row := fnExactNodesFromUptoRow, standIns := [], harness := (true, "640e082cf7186c156799886b398b4b8f4dc5ba5bae81773fd5ae437755213bf9"), looks := true }, kinds := [], alts := [], laidByText := true, laidKinds := [.data, .data, .data], laidTests := true, laidLooks := .later }
def FnExactNodesFromUptoCardSaid : Prop := Claim7.holds Tryz.pinned (.plain (OpenSpec.upto fnExactNodesFromSpec)) fnExactNodesFromUptoCard

/-- THE SECOND FORM's CARD OF 'laws.FnExactPathOfMachine'. -/
def fnExactPathOfMachineUptoCard : Claim7 := { stood := { row := fnExactPathOfMachineUptoRow, standIns := [], harness := (true, "640e082cf7186c156799886b398b4b8f4dc5ba5bae81773fd5ae437755213bf9"), looks := true }, kinds := [], alts := [], laidByText := true, laidKinds := [.data, .data, .data], laidTests := true, laidLooks := .later }
def FnExactPathOfMachineUptoCardSaid : Prop := Claim7.holds Tryz.pinned (.plain (OpenSpec.upto fnExactPathOfMachineSpec)) fnExactPathOfMachineUptoCard

/-- THE SECOND FORM's CARD OF 'laws.FnExactIsTnf'. -/
def fnExactIsTnfUptoCard : Claim7 := { stood := { row := fnExactIsTnfUptoRow, standIns := [], harness := (true, "640e082cf7186c156799886b398b4b8f4dc5ba5bae81773fd5ae437755213bf9"), looks := true }, kinds := [], alts := [], laidByText := true, laidKinds := [.data, .data, .data], laidTests := true, laidLooks := .later }
def FnExactIsTnfUptoCardSaid : Prop := Claim7.holds Tryz.pinned (.plain (OpenSpec.upto fnExactIsTnfSpec)) fnExactIsTnfUptoCard

/-- THE SECOND FORM's CARD OF 'laws.FnExactNodesBelow'. -/
def fnExactNodesBelowUptoCard : Claim7 := { stood := { row := fnExactNodesBelowUptoRow, standIns := [], harness := (true, "640e082cf7186c156799886b398b4b8f4dc5ba5bae81773fd5ae437755213bf9"), looks := true }, kinds := [], alts := [], laidByText := true, laidKinds := [.data, .data, .data], laidTests := true, laidLooks := .later }
def FnExactNodesBelowUptoCardSaid : Prop := Claim7.holds Tryz.pinned (.plain (OpenSpec.upto fnExactNodesBelowSpec)) fnExactNodesBelowUptoCard

/-- THE SECOND FORM's CARD OF 'laws.FnExactStatusCounts'. -/
def fnExactStatusCountsUptoCard : Claim7 := { stood := { row := fnExactStatusCountsUptoRow, standIns := [], harness := (true, "640e082cf7186c156799886b398b4b8f4dc5ba5bae81773fd5ae437755213bf9"), looks := true }, kinds := [], alts := [], laidByText := true, laidKinds := [.data, .data, .data], laidTests := true, laidLooks := .later }
def FnExactStatusCountsUptoCardSaid : Prop := Claim7.holds Tryz.pinned (.plain (OpenSpec.upto fnExactStatusCountsSpec)) fnExactStatusCountsUptoCard

/-- THE SECOND FORM's CARD OF 'laws.FnTree'. -/
def fnTreeUptoCard : Claim7 := { stood := { row := fnTreeUptoRow, standIns := [], harness := (true, "640e082cf7186c156799886b398b4b8f4dc5ba5bae81773fd5ae437755213bf9"), looks := true }, kinds := [], alts := [], laidByText := true, laidKinds := [.data, .data, .data, .data, .sentinel, .sentinel, .pinned], laidTests := true, laidLooks := .later }
def FnTreeUptoCardSaid : Prop := Claim7.holds Tryz.pinned (.plain (OpenSpec.upto fnTreeSpec)) fnTreeUptoCard

/-- THE SECOND FORM's CARD OF 'laws.FnExactWorkUnits'. -/
def fnExactWorkUnitsUptoCard : Claim7 := { stood := { row := fnExactWorkUnitsUptoRow, standIns := [], harness := (true, "640e082cf7186c156799886b398b4b8f4dc5ba5bae81773fd5ae437755213bf9"), looks := true }, kinds := [], alts := [], laidByText := true, laidKinds := [.data, .data, .data], laidTests := true, laidLooks := .later }
def FnExactWorkUnitsUptoCardSaid : Prop := Claim7.holds Tryz.pinned (.plain (OpenSpec.upto fnExactWorkUnitsSpec)) fnExactWorkUnitsUptoCard

/-- THE SECOND FORM's CARD OF 'laws.FnExactCheckBackward'. -/
def fnExactCheckBackwardUptoCard : Claim7 := { stood := { row := fnExactCheckBackwardUptoRow, standIns := [], harness := (true, "640e082cf7186c156799886b398b4b8f4dc5ba5bae81773fd5ae437755213bf9"), looks := true }, kinds := [], alts := [], laidByText := true, laidKinds := [.data, .data, .data], laidTests := true, laidLooks := .later }
def FnExactCheckBackwardUptoCardSaid : Prop := Claim7.holds Tryz.pinned (.plain (OpenSpec.upto fnExactCheckBackwardSpec)) fnExactCheckBackwardUptoCard

/-- THE SECOND FORM's CARD OF 'laws.FnExactFindBackward'. -/
def fnExactFindBackwardUptoCard : Claim7 := { stood := { row := fnExactFindBackwardUptoRow, standIns := [], harness := (true, "640e082cf7186c156799886b398b4b8f4dc5ba5bae81773fd5ae437755213bf9"), looks := true }, kinds := [], alts := [], laidByText := true, laidKinds := [.data, .data, .data], laidTests := true, laidLooks := .later }
def FnExactFindBackwardUptoCardSaid : Prop := Claim7.holds Tryz.pinned (.plain (OpenSpec.upto fnExactFindBackwardSpec)) fnExactFindBackwardUptoCard

/-- THE SECOND FORM's CARD OF 'laws.FnBackward'. -/
def fnBackwardUptoCard : Claim7 := { stood := { row := fnBackwardUptoRow, standIns := [], harness := (true, "640e082cf7186c156799886b398b4b8f4dc5ba5bae81773fd5ae437755213bf9"), looks := true }, kinds := [], alts := [], laidByText := true, laidKinds := [.data, .data, .data, .sentinel, .sentinel], laidTests := true, laidLooks := .later }
def FnBackwardUptoCardSaid : Prop := Claim7.holds Tryz.pinned (.plain (OpenSpec.upto fnBackwardSpec)) fnBackwardUptoCard
end Rows
end Go.Proofs.YtcmdfohamphndaaGreatDoor
