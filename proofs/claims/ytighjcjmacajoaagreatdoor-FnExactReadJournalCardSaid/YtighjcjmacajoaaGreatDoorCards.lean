/-
  DERIVED. GIVEN WITH THE SEED: THE CARDS: each row of YtighjcjmacajoaaGreatDoorRows.lean that lists a variable, with what it lists TIED to the program's text (the seventh form; the later family's looks); each row that meets fmt, with fmt's text TOLD by the authors' own Lean function (tested against real Go, not proved from fmt's source: count such statements apart). THE CARD IS WHAT COUNTS. Prove the row's statement (the work); the ties are given (YtighjcjmacajoaaGreatDoorTie.lean); close each card by the builder's one call (the guide's Derived/Test/ToyasCard.lean, 'card_holds'). Laid BY PROGRAM, IN A SANDBOX (cutbox-door.mjs). By AI agents, Wed Nov 11 2026. No macro, syntax, notation, axiom, sorry.
-/
import Derived.Test.YtighjcjmacajoaaGreatDoorRows
import GoSem.ClaimSeven
namespace Go.Proofs.YtighjcjmacajoaaGreatDoor
namespace Rows

/-- THE TIED CARD OF 'laws.FnTree'. -/
def fnTreeCard : Claim7 := { stood := { row := fnTreeRow, standIns := [], harness := (true, "cfd223bdcbdbad80fc5a321e1ff1463e44ca9fa373b4e74e6c08ec7bf75a5014"), looks := true }, kinds := [], alts := [], laidByText := true, laidKinds := [.data, .data, .data, .data, .sentinel, .sentinel, .pinned], laidTests := true, laidLooks := .later }
def FnTreeCardSaid : Prop := Claim7.holds Tryz.pinned (.plain (OpenSpec.ofChange fnTreeSpec)) fnTreeCard

/-- THE TIED CARD OF 'laws.FnExactMergeVerdicts'. -/
def fnExactMergeVerdictsCard : Claim7 := { stood := { row := fnExactMergeVerdictsRow, standIns := [], harness := (true, "cfd223bdcbdbad80fc5a321e1ff1463e44ca9fa373b4e74e6c08ec7bf75a5014"), looks := true }, kinds := [], alts := [], laidByText := true, laidKinds := [.data, .data, .data], laidTests := true, laidLooks := .later }
def FnExactMergeVerdictsCardSaid : Prop := Claim7.holds Tryz.pinned (.plain (OpenSpec.ofChange fnExactMergeVerdictsSpec)) fnExactMergeVerdictsCard

/-- THE TIED CARD OF 'laws.FnExactReadVerdict'. -/
def fnExactReadVerdictCard : Claim7 := { stood := { row := fnExactReadVerdictRow, standIns := [], harness := (true, "cfd223bdcbdbad80fc5a321e1ff1463e44ca9fa373b4e74e6c08ec7bf75a5014"), looks := true }, kinds := [], alts := [], laidByText := true, laidKinds := [.data, .data, .data, .data, .sentinel, .sentinel, .pinned], laidTests := true, laidLooks := .later }
def FnExactReadVerdictCardSaid : Prop := Claim7.holds Tryz.pinned (.plain (OpenSpec.ofChange fnExactReadVerdictSpec)) fnExactReadVerdictCard

/-- THE TIED CARD OF 'laws.FnExactRecoverJournal'. -/
def fnExactRecoverJournalCard : Claim7 := { stood := { row := fnExactRecoverJournalRow, standIns := [], harness := (true, "cfd223bdcbdbad80fc5a321e1ff1463e44ca9fa373b4e74e6c08ec7bf75a5014"), looks := true }, kinds := [], alts := [], laidByText := true, laidKinds := [.data, .data, .data, .data, .sentinel, .sentinel, .pinned], laidTests := true, laidLooks := .later }
def FnExactRecoverJournalCardSaid : Prop := Claim7.holds Tryz.pinned (.plain (OpenSpec.ofChange fnExactRecoverJournalSpec)) fnExactRecoverJournalCard

/-- THE TIED CARD OF 'laws.FnExactReadJournal'. -/
def fnExactReadJournalCard : Claim7 := { stood := { row := fnExactReadJournalRow, standIns := [], harness := (true, "cfd223bdcbdbad80fc5a321e1ff1463e44ca9fa373b4e74e6c08ec7bf75a5014"), looks := true }, kinds := [], alts := [], laidByText := true, laidKinds := [.data, .data, .data, .data, .sentinel, .sentinel, .pinned], laidTests := true, laidLooks := .later }
def FnExactReadJournalCardSaid : Prop := Claim7.holds Tryz.pinned (.plain (OpenSpec.ofChange fnExactReadJournalSpec)) fnExactReadJournalCard

/-- THE SECOND FORM's CARD OF 'laws.FnTree'. -/
def fnTreeUptoCard : Claim7 := { stood := { row := fnTreeUptoRow, standIns := [], harness := (true, "cfd223bdcbdbad80fc5a321e1ff1463e44ca9fa373b4e74e6c08ec7bf75a5014"), looks := true }, kinds := [], alts := [], laidByText := true, laidKinds := [.data, .data, .data, .data, .sentinel, .sentinel, .pinned], laidTests := true, laidLooks := .later }
def FnTreeUptoCardSaid : Prop := Claim7.holds Tryz.pinned (.plain (OpenSpec.upto fnTreeSpec)) fnTreeUptoCard

/-- THE SECOND FORM's CARD OF 'laws.FnExactMergeVerdicts'. -/
def fnExactMergeVerdictsUptoCard : Claim7 := { stood := { row := fnExactMergeVerdictsUptoRow, standIns := [], harness := (true, "cfd223bdcbdbad80fc5a321e1ff1463e44ca9fa373b4e74e6c08ec7bf75a5014"), looks := true }, kinds := [], alts := [], laidByText := true, laidKinds := [.data, .data, .data], laidTests := true, laidLooks := .later }
def FnExactMergeVerdictsUptoCardSaid : Prop := Claim7.holds Tryz.pinned (.plain (OpenSpec.upto fnExactMergeVerdictsSpec)) fnExactMergeVerdictsUptoCard

/-- THE SECOND FORM's CARD OF 'laws.FnExactReadVerdict'. -/
def fnExactReadVerdictUptoCard : Claim7 := { stood := { row := fnExactReadVerdictUptoRow, standIns := [], harness := (true, "cfd223bdcbdbad80fc5a321e1ff1463e44ca9fa373b4e74e6c08ec7bf75a5014"), looks := true }, kinds := [], alts := [], laidByText := true, laidKinds := [.data, .data, .data, .data, .sentinel, .sentinel, .pinned], laidTests := true, laidLooks := .later }
def FnExactReadVerdictUptoCardSaid : Prop := Claim7.holds Tryz.pinned (.plain (OpenSpec.upto fnExactReadVerdictSpec)) fnExactReadVerdictUptoCard

/-- THE SECOND FORM's CARD OF 'laws.FnExactRecoverJournal'. -/
def fnExactRecoverJournalUptoCard : Claim7 := { stood := { row := fnExactRecoverJournalUptoRow, standIns := [], harness := (true, "cfd223bdcbdbad80fc5a321e1ff1463e44ca9fa373b4e74e6c08ec7bf75a5014"), looks := true }, kinds := [], alts := [], laidByText := true, laidKinds := [.data, .data, .data, .data, .sentinel, .sentinel, .pinned], laidTests := true, laidLooks := .later }
def FnExactRecoverJournalUptoCardSaid : Prop := Claim7.holds Tryz.pinned (.plain (OpenSpec.upto fnExactRecoverJournalSpec)) fnExactRecoverJournalUptoCard

/-- THE SECOND FORM's CARD OF 'laws.FnExactReadJournal'. -/
def fnExactReadJournalUptoCard : Claim7 := { stood := { row := fnExactReadJournalUptoRow, standIns := [], harness := (true, "cfd223bdcbdbad80fc5a321e1ff1463e44ca9fa373b4e74e6c08ec7bf75a5014"), looks := true }, kinds := [], alts := [], laidByText := true, laidKinds := [.data, .data, .data, .data, .sentinel, .sentinel, .pinned], laidTests := true, laidLooks := .later }
def FnExactReadJournalUptoCardSaid : Prop := Claim7.holds Tryz.pinned (.plain (OpenSpec.upto fnExactReadJournalSpec)) fnExactReadJournalUptoCard
end Rows
end Go.Proofs.YtighjcjmacajoaaGreatDoor
