/-
  DERIVED. GIVEN WITH THE SEED: THE CARDS: each row of YtbekdojhcokalaaGreatDoorRows.lean that lists a variable, with what it lists TIED to the program's text (the seventh form; the later family's looks); each row that meets fmt, with fmt's text TOLD by the authors' own Lean function (tested against real Go, not proved from fmt's source: count such statements apart). THE CARD IS WHAT COUNTS. Prove the row's statement (the work); the ties are given (YtbekdojhcokalaaGreatDoorTie.lean); close each card by the builder's one call (the guide's Derived/Test/ToyasCard.lean, 'card_holds'). Laid BY PROGRAM, IN A SANDBOX (cutbox-door.mjs). By AI agents, Wed Nov 11 2026. No macro, syntax, notation, axiom, sorry.
-/
import Derived.Test.YtbekdojhcokalaaGreatDoorRows
import GoSem.ClaimSeven
namespace Go.Proofs.YtbekdojhcokalaaGreatDoor
namespace Rows

/-- THE TIED CARD OF 'laws.FnExactCountKinds'. -/
def fnExactCountKindsCard : Claim7 := { stood := { row := fnExactCountKindsRow, standIns := [], harness := (true, "ee7d27c264815f7441c4d362d31edda4b687721ea576b134ecedcd95e47bb21b"), looks := true }, kinds := [], alts := [], laidByText := true, laidKinds := [.data, .data, .data], laidTests := true, laidLooks := .later }
def FnExactCountKindsCardSaid : Prop := Claim7.holds Tryz.pinned (.plain (OpenSpec.ofChange fnExactCountKindsSpec)) fnExactCountKindsCard

/-- THE TIED CARD OF 'laws.FnExactJournalText'. -/
def fnExactJournalTextCard : Claim7 := { stood := { row := fnExactJournalTextRow, standIns := [], harness := (true, "ee7d27c264815f7441c4d362d31edda4b687721ea576b134ecedcd95e47bb21b"), looks := true }, kinds := [], alts := [], laidByText := true, laidKinds := [.data, .data, .data], laidTests := true, laidLooks := .later }
def FnExactJournalTextCardSaid : Prop := Claim7.holds Tryz.pinned (.plain (OpenSpec.ofChange fnExactJournalTextSpec)) fnExactJournalTextCard

/-- THE TIED CARD OF 'laws.FnExactStepsChampion'. -/
def fnExactStepsChampionCard : Claim7 := { stood := { row := fnExactStepsChampionRow, standIns := [], harness := (true, "ee7d27c264815f7441c4d362d31edda4b687721ea576b134ecedcd95e47bb21b"), looks := true }, kinds := [], alts := [], laidByText := true, laidKinds := [.data, .data, .data], laidTests := true, laidLooks := .later }
def FnExactStepsChampionCardSaid : Prop := Claim7.holds Tryz.pinned (.plain (OpenSpec.ofChange fnExactStepsChampionSpec)) fnExactStepsChampionCard

/-- THE TIED CARD OF 'laws.FnExactCellsChampion'. -/
def fnExactCellsChampionCard : Claim7 := { stood := { row := fnExactCellsChampionRow, standIns := [], harness := (true, "ee7d27c264815f7441c4d362d31edda4b687721ea576b134ecedcd95e47bb21b"), looks := true }, kinds := [], alts := [], laidByText := true, laidKinds := [.data, .data, .data], laidTests := true, laidLooks := .later }
def FnExactCellsChampionCardSaid : Prop := Claim7.holds Tryz.pinned (.plain (OpenSpec.ofChange fnExactCellsChampionSpec)) fnExactCellsChampionCard

/-- THE TIED CARD OF 'laws.FnExactMergeVerdicts'. -/
def fnExactMergeVerdictsCard : Claim7 := { stood := { row := fnExactMergeVerdictsRow, standIns := [], harness := (true, "ee7d27c264815f7441c4d362d31edda4b687721ea576b134ecedcd95e47bb21b"), looks := true }, kinds := [], alts := [], laidByText := true, laidKinds := [.data, .data, .data], laidTests := true, laidLooks := .later }
def FnExactMergeVerdictsCardSaid : Prop := Claim7.holds Tryz.pinned (.plain (OpenSpec.ofChange fnExactMergeVerdictsSpec)) fnExactMergeVerdictsCard

/-- THE TIED CARD OF 'laws.FnExactCheckBackward'. -/
def fnExactCheckBackwardCard : Claim7 := { stood := { row := fnExactCheckBackwardRow, standIns := [], harness := (true, "ee7d27c264815f7441c4d362d31edda4b687721ea576b134ecedcd95e47bb21b"), looks := true }, kinds := [], alts := [], laidByText := true, laidKinds := [.data, .data, .data], laidTests := true, laidLooks := .later }
def FnExactCheckBackwardCardSaid : Prop := Claim7.holds Tryz.pinned (.plain (OpenSpec.ofChange fnExactCheckBackwardSpec)) fnExactCheckBackwardCard

/-- THE TIED CARD OF 'laws.FnExactFindBackward'. -/
def fnExactFindBackwardCard : Claim7 := { stood := { row := fnExactFindBackwardRow, standIns := [], harness := (true, "ee7d27c264815f7441c4d362d31edda4b687721ea576b134ecedcd95e47bb21b"), looks := true }, kinds := [], alts := [], laidByText := true, laidKinds := [.data, .data, .data], laidTests := true, laidLooks := .later }
def FnExactFindBackwardCardSaid : Prop := Claim7.holds Tryz.pinned (.plain (OpenSpec.ofChange fnExactFindBackwardSpec)) fnExactFindBackwardCard

/-- THE TIED CARD OF 'laws.FnBackward'. -/
def fnBackwardCard : Claim7 := { stood := { row := fnBackwardRow, standIns := [], harness := (true, "ee7d27c264815f7441c4d362d31edda4b687721ea576b134ecedcd95e47bb21b"), looks := true }, kinds := [], alts := [], laidByText := true, laidKinds := [.data, .data, .data, .sentinel, .sentinel], laidTests := true, laidLooks := .later }
def FnBackwardCardSaid : Prop := Claim7.holds Tryz.pinned (.plain (OpenSpec.ofChange fnBackwardSpec)) fnBackwardCard

/-- THE SECOND FORM's CARD OF 'laws.FnExactCountKinds'. -/
def fnExactCountKindsUptoCard : Claim7 := { stood := { row := fnExactCountKindsUptoRow, standIns := [], harness := (true, "ee7d27c264815f7441c4d362d31edda4b687721ea576b134ecedcd95e47bb21b"), looks := true }, kinds := [], alts := [], laidByText := true, laidKinds := [.data, .data, .data], laidTests := true, laidLooks := .later }
def FnExactCountKindsUptoCardSaid : Prop := Claim7.holds Tryz.pinned (.plain (OpenSpec.upto fnExactCountKindsSpec)) fnExactCountKindsUptoCard

/-- THE SECOND FORM's CARD OF 'laws.FnExactJournalText'. -/
def fnExactJournalTextUptoCard : Claim7 := { stood := { row := fnExactJournalTextUptoRow, standIns := [], harness := (true, "ee7d27c264815f7441c4d362d31edda4b687721ea576b134ecedcd95e47bb21b"), looks := true }, kinds := [], alts := [], laidByText := true, laidKinds := [.data, .data, .data], laidTests := true, laidLooks := .later }
def FnExactJournalTextUptoCardSaid : Prop := Claim7.holds Tryz.pinned (.plain (OpenSpec.upto fnExactJournalTextSpec)) fnExactJournalTextUptoCard

/-- THE SECOND FORM's CARD OF 'laws.FnExactStepsChampion'. -/
def fnExactStepsChampionUptoCard : Claim7 := { stood := { row := fnExactStepsChampionUptoRow, standIns := [], harness := (true, "ee7d27c264815f7441c4d362d31edda4b687721ea576b134ecedcd95e47bb21b"), looks := true }, kinds := [], alts := [], laidByText := true, laidKinds := [.data, .data, .data], laidTests := true, laidLooks := .later }
def FnExactStepsChampionUptoCardSaid : Prop := Claim7.holds Tryz.pinned (.plain (OpenSpec.upto fnExactStepsChampionSpec)) fnExactStepsChampionUptoCard

/-- THE SECOND FORM's CARD OF 'laws.FnExactCellsChampion'. -/
def fnExactCellsChampionUptoCard : Claim7 := { stood := { row := fnExactCellsChampionUptoRow, standIns := [], harness := (true, "ee7d27c264815f7441c4d362d31edda4b687721ea576b134ecedcd95e47bb21b"), looks := true }, kinds := [], alts := [], laidByText := true, laidKinds := [.data, .data, .data], laidTests := true, laidLooks := .later }
def FnExactCellsChampionUptoCardSaid : Prop := Claim7.holds Tryz.pinned (.plain (OpenSpec.upto fnExactCellsChampionSpec)) fnExactCellsChampionUptoCard

/-- THE SECOND FORM's CARD OF 'laws.FnExactMergeVerdicts'. -/
def fnExactMergeVerdictsUptoCard : Claim7 := { stood := { row := fnExactMergeVerdictsUptoRow, standIns := [], harness := (true, "ee7d27c264815f7441c4d362d31edda4b687721ea576b134ecedcd95e47bb21b"), looks := true }, kinds := [], alts := [], laidByText := true, laidKinds := [.data, .data, .data], laidTests := true, laidLooks := .later }
def FnExactMergeVerdictsUptoCardSaid : Prop := Claim7.holds Tryz.pinned (.plain (OpenSpec.upto fnExactMergeVerdictsSpec)) fnExactMergeVerdictsUptoCard

/-- THE SECOND FORM's CARD OF 'laws.FnExactCheckBackward'. -/
def fnExactCheckBackwardUptoCard : Claim7 := { stood := { row := fnExactCheckBackwardUptoRow, standIns := [], harness := (true, "ee7d27c264815f7441c4d362d31edda4b687721ea576b134ecedcd95e47bb21b"), looks := true }, kinds := [], alts := [], laidByText := true, laidKinds := [.data, .data, .data], laidTests := true, laidLooks := .later }
def FnExactCheckBackwardUptoCardSaid : Prop := Claim7.holds Tryz.pinned (.plain (OpenSpec.upto fnExactCheckBackwardSpec)) fnExactCheckBackwardUptoCard

/-- THE SECOND FORM's CARD OF 'laws.FnExactFindBackward'. -/
def fnExactFindBackwardUptoCard : Claim7 := { stood := { row := fnExactFindBackwardUptoRow, standIns := [], harness := (true, "ee7d27c264815f7441c4d362d31edda4b687721ea576b134ecedcd95e47bb21b"), looks := true }, kinds := [], alts := [], laidByText := true, laidKinds := [.data, .data, .data], laidTests := true, laidLooks := .later }
def FnExactFindBackwardUptoCardSaid : Prop := Claim7.holds Tryz.pinned (.plain (OpenSpec.upto fnExactFindBackwardSpec)) fnExactFindBackwardUptoCard

/-- THE SECOND FORM's CARD OF 'laws.FnBackward'. -/
def fnBackwardUptoCard : Claim7 := { stood := { row := fnBackwardUptoRow, standIns := [], harness := (true, "ee7d27c264815f7441c4d362d31edda4b687721ea576b134ecedcd95e47bb21b"), looks := true }, kinds := [], alts := [], laidByText := true, laidKinds := [.data, .data, .data, .sentinel, .sentinel], laidTests := true, laidLooks := .later }
def FnBackwardUptoCardSaid : Prop := Claim7.holds Tryz.pinned (.plain (OpenSpec.upto fnBackwardSpec)) fnBackwardUptoCard
end Rows
end Go.Proofs.YtbekdojhcokalaaGreatDoor
