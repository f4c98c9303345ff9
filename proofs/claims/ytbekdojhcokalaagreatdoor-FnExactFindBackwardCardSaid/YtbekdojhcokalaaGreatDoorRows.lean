/-
  NARROWER THAN 'FOR EVERY INPUT', by the rows' own cells (each row's printed sentence says how): FnExactCountKinds: laid · FnExactJournalText: laid · FnExactStepsChampion: laid · FnExactCellsChampion: laid · FnExactMergeVerdicts: laid · FnExactCheckBackward: laid · FnExactFindBackward: laid · FnBackward: laid.
  DERIVED. THE GIVEN ROWS OF THIS SEAT. 8 by the template 'for every input the law returns true; each argument reads behind the call as it read before'; 0 by the template 'total and deterministic' (their statements: YtbekdojhcokalaaGreatDoorTotals.lean).
  GIVEN WITH THE SEED: the statements are not yours to turn. If you find one false, say at which input.
  Laid BY PROGRAM, IN A SANDBOX (cutbox-rows.mjs): the forced cells as the released guide's own fill.sh prints them over the translation 037e2ca2b0ecbc41… (all of the seat's roots in one cut). By AI agents, Wed Nov 11 2026. No macro, syntax, notation, axiom, sorry.
-/
import Derived.Test.YtbekdojhcokalaaGreatDoorChecked
import GoSem.Claim
import GoSem.ClaimJoined
import GoSem.ClaimMapViews
import Derived.JoinedTies
import Derived.KernelRfl
namespace Go.Proofs.YtbekdojhcokalaaGreatDoor
/- THE CELL 'sum', in the pinned program and in every row, IS THE sha256 OF THE DUMP (.gsa) THAT YtbekdojhcokalaaGreatDoorProg.lean LOADS. Nothing in Lean hashes anything: it is a label: what it is worth is what the hold of that sum in a sandbox is worth. -/
noncomputable def Tryz.pinned : Pinned := { name := "ytbekdojhcokalaagreatdoor", sum := "037e2ca2b0ecbc41182aae4fb3aac028cc5ea40dd06c32c7d20cc7d3f1d9fa27", checked := Tryz.checked }
namespace Rows
def none {H : Type} : Left H := { results := [], args := [] }

/- WHAT THE LISTED PACKAGE-LEVEL VARIABLES READ AS WHEN THE CALL BEGINS. Each datum BY PROGRAM (the guide's laid-datum.mjs) off the statement by which the dump's own 'gosem.cut.vars' lays the variable. In a bare row this is a premise. The card (YtbekdojhcokalaaGreatDoorCards.lean) ties it to the program's text. -/
def laid_math_bits_deBruijn32tab {H : Type} : DataW H := .agg [.lit (.int .u8 0), .lit (.int .u8 1), .lit (.int .u8 28), .lit (.int .u8 2), .lit (.int .u8 29), .lit (.int .u8 14), .lit (.int .u8 24), .lit (.int .u8 3), .lit (.int .u8 30), .lit (.int .u8 22), .lit (.int .u8 20), .lit (.int .u8 15), .lit (.int .u8 25), .lit (.int .u8 17), .lit (.int .u8 4), .lit (.int .u8 8), .lit (.int .u8 31), .lit (.int .u8 27), .lit (.int .u8 13), .lit (.int .u8 23), .lit (.int .u8 21), .lit (.int .u8 19), .lit (.int .u8 16), .lit (.int .u8 7), .lit (.int .u8 26), .lit (.int .u8 12), .lit (.int .u8 18), .lit (.int .u8 6), .lit (.int .u8 11), .lit (.int .u8 5), .lit (.int .u8 10), .lit (.int .u8 9)]
def laid_math_bits_deBruijn64tab {H : Type} : DataW H := .agg [.lit (.int .u8 0), .lit (.int .u8 1), .lit (.int .u8 56), .lit (.int .u8 2), .lit (.int .u8 57), .lit (.int .u8 49), .lit (.int .u8 28), .lit (.int .u8 3), .lit (.int .u8 61), .lit (.int .u8 58), .lit (.int .u8 42), .lit (.int .u8 50), .lit (.int .u8 38), .lit (.int .u8 29), .lit (.int .u8 17), .lit (.int .u8 4), .lit (.int .u8 62), .lit (.int .u8 47), .lit (.int .u8 59), .lit (.int .u8 36), .lit (.int .u8 45), .lit (.int .u8 43), .lit (.int .u8 51), .lit (.int .u8 22), .lit (.int .u8 53), .lit (.int .u8 39), .lit (.int .u8 33), .lit (.int .u8 30), .lit (.int .u8 24), .lit (.int .u8 18), .lit (.int .u8 12), .lit (.int .u8 5), .lit (.int .u8 63), .lit (.int .u8 55), .lit (.int .u8 48), .lit (.int .u8 27), .lit (.int .u8 60), .lit (.int .u8 41), .lit (.int .u8 37), .lit (.int .u8 16), .lit (.int .u8 46), .lit (.int .u8 35), .lit (.int .u8 44), .lit (.int .u8 21), .lit (.int .u8 52), .lit (.int .u8 32), .lit (.int .u8 23), .lit (.int .u8 11), .lit (.int .u8 54), .lit (.int .u8 26), .lit (.int .u8 40), .lit (.int .u8 15), .lit (.int .u8 34), .lit (.int .u8 20), .lit (.int .u8 31), .lit (.int .u8 10), .lit (.int .u8 25), .lit (.int .u8 14), .lit (.int .u8 19), .lit (.int .u8 9), .lit (.int .u8 13), .lit (.int .u8 8), .lit (.int .u8 7), .lit (.int .u8 6)]
def laid_internal_strconv_uint64pow10 {H : Type} : DataW H := .agg [.lit (.int .u64 1), .lit (.int .u64 10), .lit (.int .u64 100), .lit (.int .u64 1000), .lit (.int .u64 10000), .lit (.int .u64 100000), .lit (.int .u64 1000000), .lit (.int .u64 10000000), .lit (.int .u64 100000000), .lit (.int .u64 1000000000), .lit (.int .u64 10000000000), .lit (.int .u64 100000000000), .lit (.int .u64 1000000000000), .lit (.int .u64 10000000000000), .lit (.int .u64 100000000000000), .lit (.int .u64 1000000000000000), .lit (.int .u64 10000000000000000), .lit (.int .u64 100000000000000000), .lit (.int .u64 1000000000000000000), .lit (.int .u64 10000000000000000000)]
def laid_strconv_ErrRange {H : Type} : DataW H := .iface "*errors.errorString" (.ptr (.agg [.lit (.string [118, 97, 108, 117, 101, 32, 111, 117, 116, 32, 111, 102, 32, 114, 97, 110, 103, 101])]))
def laid_strconv_ErrSyntax {H : Type} : DataW H := .iface "*errors.errorString" (.ptr (.agg [.lit (.string [105, 110, 118, 97, 108, 105, 100, 32, 115, 121, 110, 116, 97, 120])]))

/-- 'laws.FnExactCountKinds': WHATEVER THE INPUT: true; the input reads as it did. -/
def fnExactCountKindsSpec : ChangeSpec := { name := "fnExactCountKinds", fn := fun _ => fun
  | [d] => { results := [.lit (.bool true)], args := [d] }
  | _ => none }
def fnExactCountKindsRow : OpenClaim := { program := "ytbekdojhcokalaagreatdoor", sum := "037e2ca2b0ecbc41182aae4fb3aac028cc5ea40dd06c32c7d20cc7d3f1d9fa27", func := "loop.example/g01079/laws.FnExactCountKinds", spec := "fnExactCountKinds", inPlace := ["internal/abi.NoEscape", "internal/bytealg.MakeNoZero"], unfollowed := true, recurses := true, named := ["internal/strconv.uint64pow10", "math/bits.deBruijn32tab", "math/bits.deBruijn64tab"], apart := false, laid := [("math/bits.deBruijn32tab", laid_math_bits_deBruijn32tab), ("math/bits.deBruijn64tab", laid_math_bits_deBruijn64tab), ("internal/strconv.uint64pow10", laid_internal_strconv_uint64pow10)] }
def FnExactCountKindsSaid : Prop := fnExactCountKindsRow.holds Tryz.pinned (OpenSpec.ofChange fnExactCountKindsSpec)

/-- ITS FALSE NEIGHBOUR: 'it returns false'. Refute it at one input. -/
def fnExactCountKindsWrong : ChangeSpec := { name := "fnExactCountKinds", fn := fun _ => fun
  | [d] => { results := [.lit (.bool false)], args := [d] }
  | _ => none }
def FnExactCountKindsWrongFalsely : Prop := fnExactCountKindsRow.holds Tryz.pinned (OpenSpec.ofChange fnExactCountKindsWrong)

/-- 'laws.FnExactJournalText': WHATEVER THE INPUT: true; the input reads as it did. -/
def fnExactJournalTextSpec : ChangeSpec := { name := "fnExactJournalText", fn := fun _ => fun
  | [d] => { results := [.lit (.bool true)], args := [d] }
  | _ => none }
def fnExactJournalTextRow : OpenClaim := { program := "ytbekdojhcokalaagreatdoor", sum := "037e2ca2b0ecbc41182aae4fb3aac028cc5ea40dd06c32c7d20cc7d3f1d9fa27", func := "loop.example/g01079/laws.FnExactJournalText", spec := "fnExactJournalText", inPlace := ["internal/abi.NoEscape", "internal/bytealg.MakeNoZero"], unfollowed := true, recurses := true, named := ["internal/strconv.uint64pow10", "math/bits.deBruijn32tab", "math/bits.deBruijn64tab"], apart := false, laid := [("math/bits.deBruijn32tab", laid_math_bits_deBruijn32tab), ("math/bits.deBruijn64tab", laid_math_bits_deBruijn64tab), ("internal/strconv.uint64pow10", laid_internal_strconv_uint64pow10)] }
def FnExactJournalTextSaid : Prop := fnExactJournalTextRow.holds Tryz.pinned (OpenSpec.ofChange fnExactJournalTextSpec)

/-- ITS FALSE NEIGHBOUR: 'it returns false'. Refute it at one input. -/
def fnExactJournalTextWrong : ChangeSpec := { name := "fnExactJournalText", fn := fun _ => fun
  | [d] => { results := [.lit (.bool false)], args := [d] }
  | _ => none }
def FnExactJournalTextWrongFalsely : Prop := fnExactJournalTextRow.holds Tryz.pinned (OpenSpec.ofChange fnExactJournalTextWrong)

/-- 'laws.FnExactStepsChampion': WHATEVER THE INPUT: true; the input reads as it did. -/
def fnExactStepsChampionSpec : ChangeSpec := { name := "fnExactStepsChampion", fn := fun _ => fun
  | [d] => { results := [.lit (.bool true)], args := [d] }
  | _ => none }
def fnExactStepsChampionRow : OpenClaim := { program := "ytbekdojhcokalaagreatdoor", sum := "037e2ca2b0ecbc41182aae4fb3aac028cc5ea40dd06c32c7d20cc7d3f1d9fa27", func := "loop.example/g01079/laws.FnExactStepsChampion", spec := "fnExactStepsChampion", inPlace := ["internal/abi.NoEscape", "internal/bytealg.MakeNoZero"], unfollowed := true, recurses := true, named := ["internal/strconv.uint64pow10", "math/bits.deBruijn32tab", "math/bits.deBruijn64tab"], apart := false, laid := [("math/bits.deBruijn32tab", laid_math_bits_deBruijn32tab), ("math/bits.deBruijn64tab", laid_math_bits_deBruijn64tab), ("internal/strconv.uint64pow10", laid_internal_strconv_uint64pow10)] }
def FnExactStepsChampionSaid : Prop := fnExactStepsChampionRow.holds Tryz.pinned (OpenSpec.ofChange fnExactStepsChampionSpec)

/-- ITS FALSE NEIGHBOUR: 'it returns false'. Refute it at one input. -/
def fnExactStepsChampionWrong : ChangeSpec := { name := "fnExactStepsChampion", fn := fun _ => fun
  | [d] => { results := [.lit (.bool false)], args := [d] }
  | _ => none }
def FnExactStepsChampionWrongFalsely : Prop := fnExactStepsChampionRow.holds Tryz.pinned (OpenSpec.ofChange fnExactStepsChampionWrong)

/-- 'laws.FnExactCellsChampion': WHATEVER THE INPUT: true; the input reads as it did. -/
def fnExactCellsChampionSpec : ChangeSpec := { name := "fnExactCellsChampion", fn := fun _ => fun
  | [d] => { results := [.lit (.bool true)], args := [d] }
  | _ => none }
def fnExactCellsChampionRow : OpenClaim := { program := "ytbekdojhcokalaagreatdoor", sum := "037e2ca2b0ecbc41182aae4fb3aac028cc5ea40dd06c32c7d20cc7d3f1d9fa27", func := "loop.example/g01079/laws.FnExactCellsChampion", spec := "fnExactCellsChampion", inPlace := ["internal/abi.NoEscape", "internal/bytealg.MakeNoZero"], unfollowed := true, recurses := true, named := ["internal/strconv.uint64pow10", "math/bits.deBruijn32tab", "math/bits.deBruijn64tab"], apart := false, laid := [("math/bits.deBruijn32tab", laid_math_bits_deBruijn32tab), ("math/bits.deBruijn64tab", laid_math_bits_deBruijn64tab), ("internal/strconv.uint64pow10", laid_internal_strconv_uint64pow10)] }
def FnExactCellsChampionSaid : Prop := fnExactCellsChampionRow.holds Tryz.pinned (OpenSpec.ofChange fnExactCellsChampionSpec)

/-- ITS FALSE NEIGHBOUR: 'it returns false'. Refute it at one input. -/
def fnExactCellsChampionWrong : ChangeSpec := { name := "fnExactCellsChampion", fn := fun _ => fun
  | [d] => { results := [.lit (.bool false)], args := [d] }
  | _ => none }
def FnExactCellsChampionWrongFalsely : Prop := fnExactCellsChampionRow.holds Tryz.pinned (OpenSpec.ofChange fnExactCellsChampionWrong)

/-- 'laws.FnExactMergeVerdicts': WHATEVER THE INPUT: true; the input reads as it did. -/
def fnExactMergeVerdictsSpec : ChangeSpec := { name := "fnExactMergeVerdicts", fn := fun _ => fun
  | [d1, d2] => { results := [.lit (.bool true)], args := [d1, d2] }
  | _ => none }
def fnExactMergeVerdictsRow : OpenClaim := { program := "ytbekdojhcokalaagreatdoor", sum := "037e2ca2b0ecbc41182aae4fb3aac028cc5ea40dd06c32c7d20cc7d3f1d9fa27", func := "loop.example/g01079/laws.FnExactMergeVerdicts", spec := "fnExactMergeVerdicts", inPlace := ["internal/abi.NoEscape", "internal/bytealg.MakeNoZero"], unfollowed := true, recurses := true, named := ["internal/strconv.uint64pow10", "math/bits.deBruijn32tab", "math/bits.deBruijn64tab"], apart := false, laid := [("math/bits.deBruijn32tab", laid_math_bits_deBruijn32tab), ("math/bits.deBruijn64tab", laid_math_bits_deBruijn64tab), ("internal/strconv.uint64pow10", laid_internal_strconv_uint64pow10)] }
def FnExactMergeVerdictsSaid : Prop := fnExactMergeVerdictsRow.holds Tryz.pinned (OpenSpec.ofChange fnExactMergeVerdictsSpec)

/-- ITS FALSE NEIGHBOUR: 'it returns false'. Refute it at one input. -/
def fnExactMergeVerdictsWrong : ChangeSpec := { name := "fnExactMergeVerdicts", fn := fun _ => fun
  | [d1, d2] => { results := [.lit (.bool false)], args := [d1, d2] }
  | _ => none }
def FnExactMergeVerdictsWrongFalsely : Prop := fnExactMergeVerdictsRow.holds Tryz.pinned (OpenSpec.ofChange fnExactMergeVerdictsWrong)

/-- 'laws.FnExactCheckBackward': WHATEVER THE INPUT: true; the input reads as it did. -/
def fnExactCheckBackwardSpec : ChangeSpec := { name := "fnExactCheckBackward", fn := fun _ => fun
  | [d1, d2] => { results := [.lit (.bool true)], args := [d1, d2] }
  | _ => none }
def fnExactCheckBackwardRow : OpenClaim := { program := "ytbekdojhcokalaagreatdoor", sum := "037e2ca2b0ecbc41182aae4fb3aac028cc5ea40dd06c32c7d20cc7d3f1d9fa27", func := "loop.example/g01079/laws.FnExactCheckBackward", spec := "fnExactCheckBackward", inPlace := ["internal/abi.NoEscape"], unfollowed := true, recurses := true, named := ["internal/strconv.uint64pow10", "math/bits.deBruijn32tab", "math/bits.deBruijn64tab"], apart := false, laid := [("math/bits.deBruijn32tab", laid_math_bits_deBruijn32tab), ("math/bits.deBruijn64tab", laid_math_bits_deBruijn64tab), ("internal/strconv.uint64pow10", laid_internal_strconv_uint64pow10)] }
def FnExactCheckBackwardSaid : Prop := fnExactCheckBackwardRow.holds Tryz.pinned (OpenSpec.ofChange fnExactCheckBackwardSpec)

/-- ITS FALSE NEIGHBOUR: 'it returns false'. Refute it at one input. -/
def fnExactCheckBackwardWrong : ChangeSpec := { name := "fnExactCheckBackward", fn := fun _ => fun
  | [d1, d2] => { results := [.lit (.bool false)], args := [d1, d2] }
  | _ => none }
def FnExactCheckBackwardWrongFalsely : Prop := fnExactCheckBackwardRow.holds Tryz.pinned (OpenSpec.ofChange fnExactCheckBackwardWrong)

/-- 'laws.FnExactFindBackward': WHATEVER THE INPUT: true; the input reads as it did. -/
def fnExactFindBackwardSpec : ChangeSpec := { name := "fnExactFindBackward", fn := fun _ => fun
  | [d1, d2] => { results := [.lit (.bool true)], args := [d1, d2] }
  | _ => none }
def fnExactFindBackwardRow : OpenClaim := { program := "ytbekdojhcokalaagreatdoor", sum := "037e2ca2b0ecbc41182aae4fb3aac028cc5ea40dd06c32c7d20cc7d3f1d9fa27", func := "loop.example/g01079/laws.FnExactFindBackward", spec := "fnExactFindBackward", inPlace := ["internal/abi.NoEscape"], unfollowed := true, recurses := true, named := ["internal/strconv.uint64pow10", "math/bits.deBruijn32tab", "math/bits.deBruijn64tab"], apart := false, laid := [("math/bits.deBruijn32tab", laid_math_bits_deBruijn32tab), ("math/bits.deBruijn64tab", laid_math_bits_deBruijn64tab), ("internal/strconv.uint64pow10", laid_internal_strconv_uint64pow10)] }
def FnExactFindBackwardSaid : Prop := fnExactFindBackwardRow.holds Tryz.pinned (OpenSpec.ofChange fnExactFindBackwardSpec)

/-- ITS FALSE NEIGHBOUR: 'it returns false'. Refute it at one input. -/
def fnExactFindBackwardWrong : ChangeSpec := { name := "fnExactFindBackward", fn := fun _ => fun
  | [d1, d2] => { results := [.lit (.bool false)], args := [d1, d2] }
  | _ => none }
def FnExactFindBackwardWrongFalsely : Prop := fnExactFindBackwardRow.holds Tryz.pinned (OpenSpec.ofChange fnExactFindBackwardWrong)

/-- 'laws.FnBackward': WHATEVER THE INPUT: true; the input reads as it did. -/
def fnBackwardSpec : ChangeSpec := { name := "fnBackward", fn := fun _ => fun
  | [d] => { results := [.lit (.bool true)], args := [d] }
  | _ => none }
def fnBackwardRow : OpenClaim := { program := "ytbekdojhcokalaagreatdoor", sum := "037e2ca2b0ecbc41182aae4fb3aac028cc5ea40dd06c32c7d20cc7d3f1d9fa27", func := "loop.example/g01079/laws.FnBackward", spec := "fnBackward", inPlace := ["internal/abi.NoEscape", "internal/bytealg.IndexByteString", "internal/bytealg.IndexString"], unfollowed := true, recurses := true, named := ["internal/strconv.uint64pow10", "math/bits.deBruijn32tab", "math/bits.deBruijn64tab", "internal/bytealg.MaxLen", "strconv.ErrSyntax", "strconv.ErrRange"], apart := false, laid := [("math/bits.deBruijn32tab", laid_math_bits_deBruijn32tab), ("math/bits.deBruijn64tab", laid_math_bits_deBruijn64tab), ("internal/strconv.uint64pow10", laid_internal_strconv_uint64pow10), ("strconv.ErrRange", laid_strconv_ErrRange), ("strconv.ErrSyntax", laid_strconv_ErrSyntax)] }
def FnBackwardSaid : Prop := fnBackwardRow.holds Tryz.pinned (OpenSpec.ofChange fnBackwardSpec)

/-- ITS FALSE NEIGHBOUR: 'it returns false'. Refute it at one input. -/
def fnBackwardWrong : ChangeSpec := { name := "fnBackward", fn := fun _ => fun
  | [d] => { results := [.lit (.bool false)], args := [d] }
  | _ => none }
def FnBackwardWrongFalsely : Prop := fnBackwardRow.holds Tryz.pinned (OpenSpec.ofChange fnBackwardWrong)

/- THE SECOND FORM. 'bulk': how many values and letters a reading holds, each counted each time it is reached (what is shared counts as often as it is met; a slice's spare places count too). A statement '..UptoSaid' is the law's where the arguments, and the package variables that the reading takes, are together of bulk at most 1048576: NARROWER than '..Said'. Prove '..Said' where nothing that the law and all that it calls make is longer than what came in: it says more and counts as full. Else prove '..UptoSaid'. A law counts once. -/
mutual
def uptoBulk {H : Type} : DataW H → Nat
  | .lit (.string bytes) => bytes.length + 1
  | .lit _ => 1
  | .nil => 1
  | .ptr d => uptoBulk d + 1
  | .slice elems spare => uptoBulkAll elems + uptoBulkAll spare + 1
  | .agg parts => uptoBulkAll parts + 1
  | .iface _ d => uptoBulk d + 1
  | .map entries => uptoBulkEntries entries + 1
  | .held _ => 1
def uptoBulkAll {H : Type} : List (DataW H) → Nat
  | [] => 0
  | d :: r => uptoBulk d + uptoBulkAll r
def uptoBulkEntries {H : Type} : List (Lit × DataW H) → Nat
  | [] => 0
  | x :: r => uptoBulkEntry x + uptoBulkEntries r
def uptoBulkEntry {H : Type} : Lit × DataW H → Nat
  | (.string bytes, d) => bytes.length + uptoBulk d + 1
  | (_, d) => uptoBulk d + 1
 end
def uptoSmall : (H : Type) → List (DataW H) → Bool := fun _ ds => decide (uptoBulkAll ds ≤ 1048576)
def OpenSpec.upto (s : _root_.Go.ChangeSpec) : _root_.Go.OpenSpec := { _root_.Go.OpenSpec.ofChange s with cond := some uptoSmall }

/-- 'laws.FnExactCountKinds', WHERE WHAT IT READS IS OF BULK AT MOST 1048576: true; the input reads as it did. -/
def fnExactCountKindsUptoRow : OpenClaim := { program := "ytbekdojhcokalaagreatdoor", sum := "037e2ca2b0ecbc41182aae4fb3aac028cc5ea40dd06c32c7d20cc7d3f1d9fa27", func := "loop.example/g01079/laws.FnExactCountKinds", spec := "fnExactCountKinds", inPlace := ["internal/abi.NoEscape", "internal/bytealg.MakeNoZero"], unfollowed := true, recurses := true, named := ["internal/strconv.uint64pow10", "math/bits.deBruijn32tab", "math/bits.deBruijn64tab"], apart := false, laid := [("math/bits.deBruijn32tab", laid_math_bits_deBruijn32tab), ("math/bits.deBruijn64tab", laid_math_bits_deBruijn64tab), ("internal/strconv.uint64pow10", laid_internal_strconv_uint64pow10)], narrowed := true }
def FnExactCountKindsUptoSaid : Prop := fnExactCountKindsUptoRow.holds Tryz.pinned (OpenSpec.upto fnExactCountKindsSpec)

/-- 'laws.FnExactJournalText', WHERE WHAT IT READS IS OF BULK AT MOST 1048576: true; the input reads as it did. -/
def fnExactJournalTextUptoRow : OpenClaim := { program := "ytbekdojhcokalaagreatdoor", sum := "037e2ca2b0ecbc41182aae4fb3aac028cc5ea40dd06c32c7d20cc7d3f1d9fa27", func := "loop.example/g01079/laws.FnExactJournalText", spec := "fnExactJournalText", inPlace := ["internal/abi.NoEscape", "internal/bytealg.MakeNoZero"], unfollowed := true, recurses := true, named := ["internal/strconv.uint64pow10", "math/bits.deBruijn32tab", "math/bits.deBruijn64tab"], apart := false, laid := [("math/bits.deBruijn32tab", laid_math_bits_deBruijn32tab), ("math/bits.deBruijn64tab", laid_math_bits_deBruijn64tab), ("internal/strconv.uint64pow10", laid_internal_strconv_uint64pow10)], narrowed := true }
def FnExactJournalTextUptoSaid : Prop := fnExactJournalTextUptoRow.holds Tryz.pinned (OpenSpec.upto fnExactJournalTextSpec)

/-- 'laws.FnExactStepsChampion', WHERE WHAT IT READS IS OF BULK AT MOST 1048576: true; the input reads as it did. -/
def fnExactStepsChampionUptoRow : OpenClaim := { program := "ytbekdojhcokalaagreatdoor", sum := "037e2ca2b0ecbc41182aae4fb3aac028cc5ea40dd06c32c7d20cc7d3f1d9fa27", func := "loop.example/g01079/laws.FnExactStepsChampion", spec := "fnExactStepsChampion", inPlace := ["internal/abi.NoEscape", "internal/bytealg.MakeNoZero"], unfollowed := true, recurses := true, named := ["internal/strconv.uint64pow10", "math/bits.deBruijn32tab", "math/bits.deBruijn64tab"], apart := false, laid := [("math/bits.deBruijn32tab", laid_math_bits_deBruijn32tab), ("math/bits.deBruijn64tab", laid_math_bits_deBruijn64tab), ("internal/strconv.uint64pow10", laid_internal_strconv_uint64pow10)], narrowed := true }
def FnExactStepsChampionUptoSaid : Prop := fnExactStepsChampionUptoRow.holds Tryz.pinned (OpenSpec.upto fnExactStepsChampionSpec)

/-- 'laws.FnExactCellsChampion', WHERE WHAT IT READS IS OF BULK AT MOST 1048576: true; the input reads as it did. -/
def fnExactCellsChampionUptoRow : OpenClaim := { program := "ytbekdojhcokalaagreatdoor", sum := "037e2ca2b0ecbc41182aae4fb3aac028cc5ea40dd06c32c7d20cc7d3f1d9fa27", func := "loop.example/g01079/laws.FnExactCellsChampion", spec := "fnExactCellsChampion", inPlace := ["internal/abi.NoEscape", "internal/bytealg.MakeNoZero"], unfollowed := true, recurses := true, named := ["internal/strconv.uint64pow10", "math/bits.deBruijn32tab", "math/bits.deBruijn64tab"], apart := false, laid := [("math/bits.deBruijn32tab", laid_math_bits_deBruijn32tab), ("math/bits.deBruijn64tab", laid_math_bits_deBruijn64tab), ("internal/strconv.uint64pow10", laid_internal_strconv_uint64pow10)], narrowed := true }
def FnExactCellsChampionUptoSaid : Prop := fnExactCellsChampionUptoRow.holds Tryz.pinned (OpenSpec.upto fnExactCellsChampionSpec)

/-- 'laws.FnExactMergeVerdicts', WHERE WHAT IT READS IS OF BULK AT MOST 1048576: true; the input reads as it did. -/
def fnExactMergeVerdictsUptoRow : OpenClaim := { program := "ytbekdojhcokalaagreatdoor", sum := "037e2ca2b0ecbc41182aae4fb3aac028cc5ea40dd06c32c7d20cc7d3f1d9fa27", func := "loop.example/g01079/laws.FnExactMergeVerdicts", spec := "fnExactMergeVerdicts", inPlace := ["internal/abi.NoEscape", "internal/bytealg.MakeNoZero"], unfollowed := true, recurses := true, named := ["internal/strconv.uint64pow10", "math/bits.deBruijn32tab", "math/bits.deBruijn64tab"], apart := false, laid := [("math/bits.deBruijn32tab", laid_math_bits_deBruijn32tab), ("math/bits.deBruijn64tab", laid_math_bits_deBruijn64tab), ("internal/strconv.uint64pow10", laid_internal_strconv_uint64pow10)], narrowed := true }
def FnExactMergeVerdictsUptoSaid : Prop := fnExactMergeVerdictsUptoRow.holds Tryz.pinned (OpenSpec.upto fnExactMergeVerdictsSpec)

/-- 'laws.FnExactCheckBackward', WHERE WHAT IT READS IS OF BULK AT MOST 1048576: true; the input reads as it did. -/
def fnExactCheckBackwardUptoRow : OpenClaim := { program := "ytbekdojhcokalaagreatdoor", sum := "037e2ca2b0ecbc41182aae4fb3aac028cc5ea40dd06c32c7d20cc7d3f1d9fa27", func := "loop.example/g01079/laws.FnExactCheckBackward", spec := "fnExactCheckBackward", inPlace := ["internal/abi.NoEscape"], unfollowed := true, recurses := true, named := ["internal/strconv.uint64pow10", "math/bits.deBruijn32tab", "math/bits.deBruijn64tab"], apart := false, laid := [("math/bits.deBruijn32tab", laid_math_bits_deBruijn32tab), ("math/bits.deBruijn64tab", laid_math_bits_deBruijn64tab), ("internal/strconv.uint64pow10", laid_internal_strconv_uint64pow10)], narrowed := true }
def FnExactCheckBackwardUptoSaid : Prop := fnExactCheckBackwardUptoRow.holds Tryz.pinned (OpenSpec.upto fnExactCheckBackwardSpec)

/-- 'laws.FnExactFindBackward', WHERE WHAT IT READS IS OF BULK AT MOST 1048576: true; the input reads as it did. -/
def fnExactFindBackwardUptoRow : OpenClaim := { program := "ytbekdojhcokalaagreatdoor", sum := "037e2ca2b0ecbc41182aae4fb3aac028cc5ea40dd06c32c7d20cc7d3f1d9fa27", func := "loop.example/g01079/laws.FnExactFindBackward", spec := "fnExactFindBackward", inPlace := ["internal/abi.NoEscape"], unfollowed := true, recurses := true, named := ["internal/strconv.uint64pow10", "math/bits.deBruijn32tab", "math/bits.deBruijn64tab"], apart := false, laid := [("math/bits.deBruijn32tab", laid_math_bits_deBruijn32tab), ("math/bits.deBruijn64tab", laid_math_bits_deBruijn64tab), ("internal/strconv.uint64pow10", laid_internal_strconv_uint64pow10)], narrowed := true }
def FnExactFindBackwardUptoSaid : Prop := fnExactFindBackwardUptoRow.holds Tryz.pinned (OpenSpec.upto fnExactFindBackwardSpec)

/-- 'laws.FnBackward', WHERE WHAT IT READS IS OF BULK AT MOST 1048576: true; the input reads as it did. -/
def fnBackwardUptoRow : OpenClaim := { program := "ytbekdojhcokalaagreatdoor", sum := "037e2ca2b0ecbc41182aae4fb3aac028cc5ea40dd06c32c7d20cc7d3f1d9fa27", func := "loop.example/g01079/laws.FnBackward", spec := "fnBackward", inPlace := ["internal/abi.NoEscape", "internal/bytealg.IndexByteString", "internal/bytealg.IndexString"], unfollowed := true, recurses := true, named := ["internal/strconv.uint64pow10", "math/bits.deBruijn32tab", "math/bits.deBruijn64tab", "internal/bytealg.MaxLen", "strconv.ErrSyntax", "strconv.ErrRange"], apart := false, laid := [("math/bits.deBruijn32tab", laid_math_bits_deBruijn32tab), ("math/bits.deBruijn64tab", laid_math_bits_deBruijn64tab), ("internal/strconv.uint64pow10", laid_internal_strconv_uint64pow10), ("strconv.ErrRange", laid_strconv_ErrRange), ("strconv.ErrSyntax", laid_strconv_ErrSyntax)], narrowed := true }
def FnBackwardUptoSaid : Prop := fnBackwardUptoRow.holds Tryz.pinned (OpenSpec.upto fnBackwardSpec)

end Rows
end Go.Proofs.YtbekdojhcokalaaGreatDoor
