/-
  DERIVED. GIVEN WITH THE SEED: THE CARDS: each row of YtbekdojhcokalaaDoorRows.lean that lists a variable, with what it lists TIED to the program's text (the seventh form; the later family's looks); each row that meets fmt, with fmt's text TOLD by the authors' own Lean function (tested against real Go, not proved from fmt's source: count such statements apart). THE CARD IS WHAT COUNTS. Prove the row's statement (the work); the ties are given (YtbekdojhcokalaaDoorTie.lean); close each card by the builder's one call (the guide's Derived/Test/ToyasCard.lean, 'card_holds'). Laid BY PROGRAM, IN A SANDBOX (cutbox-door.mjs). By AI agents, Wed Nov 11 2026. No macro, syntax, notation, axiom, sorry.
-/
import Derived.Test.YtbekdojhcokalaaDoorRows
import GoSem.ClaimSeven
namespace Go.Proofs.YtbekdojhcokalaaDoor
namespace Rows

/-- THE TIED CARD OF 'laws.FnExactValidVerdict'. -/
def fnExactValidVerdictCard : Claim7 := { stood := { row := fnExactValidVerdictRow, standIns := [], harness := (true, "f6ac67546ee6d7ef4d3cd481f760dfd0719608cfc1073f71220a92b59dcf4951"), looks := false }, kinds := [], alts := [], laidByText := true, laidKinds := [.data, .data, .data], laidTests := true, laidLooks := .later }
def FnExactValidVerdictCardSaid : Prop := Claim7.holds Tryd.pinned (.plain (OpenSpec.ofChange fnExactValidVerdictSpec)) fnExactValidVerdictCard

/-- THE TIED CARD OF 'laws.FnExactVerdictText'. -/
def fnExactVerdictTextCard : Claim7 := { stood := { row := fnExactVerdictTextRow, standIns := [], harness := (true, "f6ac67546ee6d7ef4d3cd481f760dfd0719608cfc1073f71220a92b59dcf4951"), looks := false }, kinds := [], alts := [], laidByText := true, laidKinds := [.data, .data, .data], laidTests := true, laidLooks := .later }
def FnExactVerdictTextCardSaid : Prop := Claim7.holds Tryd.pinned (.plain (OpenSpec.ofChange fnExactVerdictTextSpec)) fnExactVerdictTextCard

/-- THE SECOND FORM's CARD OF 'laws.FnExactValidVerdict'. -/
def fnExactValidVerdictUptoCard : Claim7 := { stood := { row := fnExactValidVerdictUptoRow, standIns := [], harness := (true, "f6ac67546ee6d7ef4d3cd481f760dfd0719608cfc1073f71220a92b59dcf4951"), looks := false }, kinds := [], alts := [], laidByText := true, laidKinds := [.data, .data, .data], laidTests := true, laidLooks := .later }
def FnExactValidVerdictUptoCardSaid : Prop := Claim7.holds Tryd.pinned (.plain (OpenSpec.upto fnExactValidVerdictSpec)) fnExactValidVerdictUptoCard

/-- THE SECOND FORM's CARD OF 'laws.FnExactVerdictText'. -/
def fnExactVerdictTextUptoCard : Claim7 := { stood := { row := fnExactVerdictTextUptoRow, standIns := [], harness := (true, "f6ac67546ee6d7ef4d3cd481f760dfd0719608cfc1073f71220a92b59dcf4951"), looks := false }, kinds := [], alts := [], laidByText := true, laidKinds := [.data, .data, .data], laidTests := true, laidLooks := .later }
def FnExactVerdictTextUptoCardSaid : Prop := Claim7.holds Tryd.pinned (.plain (OpenSpec.upto fnExactVerdictTextSpec)) fnExactVerdictTextUptoCard
end Rows
end Go.Proofs.YtbekdojhcokalaaDoor
