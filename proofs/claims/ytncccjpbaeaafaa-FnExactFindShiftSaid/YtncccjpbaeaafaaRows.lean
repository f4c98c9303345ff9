/-
  No cell of these rows narrows 'for every input' (looked for: loops, veiled, ifaces, maps, wideKeys, modest, calm, conditions, laid).
  DERIVED. THE GIVEN ROWS OF THIS SEAT. 8 by the template 'for every input the law returns true; each argument reads behind the call as it read before'; 0 by the template 'total and deterministic' (their statements: YtncccjpbaeaafaaTotals.lean).
  GIVEN WITH THE SEED: the statements are not yours to turn. If you find one false, say at which input.
  Laid BY PROGRAM, IN A SANDBOX (cutbox-rows.mjs): the forced cells as the released guide's own fill.sh prints them over the translation 8e3e89153b14261f… (all of the seat's roots in one cut). By AI agents, Wed Nov 11 2026. No macro, syntax, notation, axiom, sorry.
-/
import Derived.Test.YtncccjpbaeaafaaChecked
import GoSem.Claim
import GoSem.ClaimJoined
import GoSem.ClaimMapViews
import Derived.JoinedTies
import Derived.KernelRfl
namespace Go.Proofs.Ytncccjpbaeaafaa
/- THE CELL 'sum', in the pinned program and in every row, IS THE sha256 OF THE DUMP (.gsa) THAT YtncccjpbaeaafaaProg.lean LOADS. Nothing in Lean hashes anything: it is a label: what it is worth is what the hold of that sum in a sandbox is worth. -/
noncomputable def Try.pinned : Pinned := { name := "ytncccjpbaeaafaa", sum := "8e3e89153b14261fa235af834cd9da94c15c7cacd0b76411bf2c00ab320d783e", checked := Try.checked }
namespace Rows
def none {H : Type} : Left H := { results := [], args := [] }

/-- 'laws.FnExactNormalOf': WHATEVER THE INPUT: true; the input reads as it did. -/
def fnExactNormalOfSpec : ChangeSpec := { name := "fnExactNormalOf", fn := fun _ => fun
  | [d1, d2] => { results := [.lit (.bool true)], args := [d1, d2] }
  | _ => none }
def fnExactNormalOfRow : OpenClaim := { program := "ytncccjpbaeaafaa", sum := "8e3e89153b14261fa235af834cd9da94c15c7cacd0b76411bf2c00ab320d783e", func := "loop.example/g01079/laws.FnExactNormalOf", spec := "fnExactNormalOf", unfollowed := true, recurses := true, apart := false }
def FnExactNormalOfSaid : Prop := fnExactNormalOfRow.holds Try.pinned (OpenSpec.ofChange fnExactNormalOfSpec)

/-- ITS FALSE NEIGHBOUR: 'it returns false'. Refute it at one input. -/
def fnExactNormalOfWrong : ChangeSpec := { name := "fnExactNormalOf", fn := fun _ => fun
  | [d1, d2] => { results := [.lit (.bool false)], args := [d1, d2] }
  | _ => none }
def FnExactNormalOfWrongFalsely : Prop := fnExactNormalOfRow.holds Try.pinned (OpenSpec.ofChange fnExactNormalOfWrong)

/-- 'laws.FnExactMeasureRun': WHATEVER THE INPUT: true; the input reads as it did. -/
def fnExactMeasureRunSpec : ChangeSpec := { name := "fnExactMeasureRun", fn := fun _ => fun
  | [d1, d2, d3] => { results := [.lit (.bool true)], args := [d1, d2, d3] }
  | _ => none }
def fnExactMeasureRunRow : OpenClaim := { program := "ytncccjpbaeaafaa", sum := "8e3e89153b14261fa235af834cd9da94c15c7cacd0b76411bf2c00ab320d783e", func := "loop.example/g01079/laws.FnExactMeasureRun", spec := "fnExactMeasureRun", unfollowed := true, recurses := true, apart := false }
def FnExactMeasureRunSaid : Prop := fnExactMeasureRunRow.holds Try.pinned (OpenSpec.ofChange fnExactMeasureRunSpec)

/-- ITS FALSE NEIGHBOUR: 'it returns false'. Refute it at one input. -/
def fnExactMeasureRunWrong : ChangeSpec := { name := "fnExactMeasureRun", fn := fun _ => fun
  | [d1, d2, d3] => { results := [.lit (.bool false)], args := [d1, d2, d3] }
  | _ => none }
def FnExactMeasureRunWrongFalsely : Prop := fnExactMeasureRunRow.holds Try.pinned (OpenSpec.ofChange fnExactMeasureRunWrong)

/-- 'laws.FnExactRuleCounts': WHATEVER THE INPUT: true; the input reads as it did. -/
def fnExactRuleCountsSpec : ChangeSpec := { name := "fnExactRuleCounts", fn := fun _ => fun
  | [d1, d2, d3] => { results := [.lit (.bool true)], args := [d1, d2, d3] }
  | _ => none }
def fnExactRuleCountsRow : OpenClaim := { program := "ytncccjpbaeaafaa", sum := "8e3e89153b14261fa235af834cd9da94c15c7cacd0b76411bf2c00ab320d783e", func := "loop.example/g01079/laws.FnExactRuleCounts", spec := "fnExactRuleCounts", unfollowed := true, recurses := true, apart := false }
def FnExactRuleCountsSaid : Prop := fnExactRuleCountsRow.holds Try.pinned (OpenSpec.ofChange fnExactRuleCountsSpec)

/-- ITS FALSE NEIGHBOUR: 'it returns false'. Refute it at one input. -/
def fnExactRuleCountsWrong : ChangeSpec := { name := "fnExactRuleCounts", fn := fun _ => fun
  | [d1, d2, d3] => { results := [.lit (.bool false)], args := [d1, d2, d3] }
  | _ => none }
def FnExactRuleCountsWrongFalsely : Prop := fnExactRuleCountsRow.holds Try.pinned (OpenSpec.ofChange fnExactRuleCountsWrong)

/-- 'laws.FnExactStateCounts': WHATEVER THE INPUT: true; the input reads as it did. -/
def fnExactStateCountsSpec : ChangeSpec := { name := "fnExactStateCounts", fn := fun _ => fun
  | [d1, d2, d3] => { results := [.lit (.bool true)], args := [d1, d2, d3] }
  | _ => none }
def fnExactStateCountsRow : OpenClaim := { program := "ytncccjpbaeaafaa", sum := "8e3e89153b14261fa235af834cd9da94c15c7cacd0b76411bf2c00ab320d783e", func := "loop.example/g01079/laws.FnExactStateCounts", spec := "fnExactStateCounts", unfollowed := true, recurses := true, apart := false }
def FnExactStateCountsSaid : Prop := fnExactStateCountsRow.holds Try.pinned (OpenSpec.ofChange fnExactStateCountsSpec)

/-- ITS FALSE NEIGHBOUR: 'it returns false'. Refute it at one input. -/
def fnExactStateCountsWrong : ChangeSpec := { name := "fnExactStateCounts", fn := fun _ => fun
  | [d1, d2, d3] => { results := [.lit (.bool false)], args := [d1, d2, d3] }
  | _ => none }
def FnExactStateCountsWrongFalsely : Prop := fnExactStateCountsRow.holds Try.pinned (OpenSpec.ofChange fnExactStateCountsWrong)

/-- 'laws.FnExactCrossingSequence': WHATEVER THE INPUT: true; the input reads as it did. -/
def fnExactCrossingSequenceSpec : ChangeSpec := { name := "fnExactCrossingSequence", fn := fun _ => fun
  | [d1, d2, d3, d4] => { results := [.lit (.bool true)], args := [d1, d2, d3, d4] }
  | _ => none }
def fnExactCrossingSequenceRow : OpenClaim := { program := "ytncccjpbaeaafaa", sum := "8e3e89153b14261fa235af834cd9da94c15c7cacd0b76411bf2c00ab320d783e", func := "loop.example/g01079/laws.FnExactCrossingSequence", spec := "fnExactCrossingSequence", unfollowed := true, recurses := true, apart := false }
def FnExactCrossingSequenceSaid : Prop := fnExactCrossingSequenceRow.holds Try.pinned (OpenSpec.ofChange fnExactCrossingSequenceSpec)

/-- ITS FALSE NEIGHBOUR: 'it returns false'. Refute it at one input. -/
def fnExactCrossingSequenceWrong : ChangeSpec := { name := "fnExactCrossingSequence", fn := fun _ => fun
  | [d1, d2, d3, d4] => { results := [.lit (.bool false)], args := [d1, d2, d3, d4] }
  | _ => none }
def FnExactCrossingSequenceWrongFalsely : Prop := fnExactCrossingSequenceRow.holds Try.pinned (OpenSpec.ofChange fnExactCrossingSequenceWrong)

/-- 'laws.FnExactVisitCounts': WHATEVER THE INPUT: true; the input reads as it did. -/
def fnExactVisitCountsSpec : ChangeSpec := { name := "fnExactVisitCounts", fn := fun _ => fun
  | [d1, d2, d3] => { results := [.lit (.bool true)], args := [d1, d2, d3] }
  | _ => none }
def fnExactVisitCountsRow : OpenClaim := { program := "ytncccjpbaeaafaa", sum := "8e3e89153b14261fa235af834cd9da94c15c7cacd0b76411bf2c00ab320d783e", func := "loop.example/g01079/laws.FnExactVisitCounts", spec := "fnExactVisitCounts", unfollowed := true, recurses := true, apart := false }
def FnExactVisitCountsSaid : Prop := fnExactVisitCountsRow.holds Try.pinned (OpenSpec.ofChange fnExactVisitCountsSpec)

/-- ITS FALSE NEIGHBOUR: 'it returns false'. Refute it at one input. -/
def fnExactVisitCountsWrong : ChangeSpec := { name := "fnExactVisitCounts", fn := fun _ => fun
  | [d1, d2, d3] => { results := [.lit (.bool false)], args := [d1, d2, d3] }
  | _ => none }
def FnExactVisitCountsWrongFalsely : Prop := fnExactVisitCountsRow.holds Try.pinned (OpenSpec.ofChange fnExactVisitCountsWrong)

/-- 'laws.FnExactCheckShift': WHATEVER THE INPUT: true; the input reads as it did. -/
def fnExactCheckShiftSpec : ChangeSpec := { name := "fnExactCheckShift", fn := fun _ => fun
  | [d1, d2] => { results := [.lit (.bool true)], args := [d1, d2] }
  | _ => none }
def fnExactCheckShiftRow : OpenClaim := { program := "ytncccjpbaeaafaa", sum := "8e3e89153b14261fa235af834cd9da94c15c7cacd0b76411bf2c00ab320d783e", func := "loop.example/g01079/laws.FnExactCheckShift", spec := "fnExactCheckShift", unfollowed := true, recurses := true, apart := false }
def FnExactCheckShiftSaid : Prop := fnExactCheckShiftRow.holds Try.pinned (OpenSpec.ofChange fnExactCheckShiftSpec)

/-- ITS FALSE NEIGHBOUR: 'it returns false'. Refute it at one input. -/
def fnExactCheckShiftWrong : ChangeSpec := { name := "fnExactCheckShift", fn := fun _ => fun
  | [d1, d2] => { results := [.lit (.bool false)], args := [d1, d2] }
  | _ => none }
def FnExactCheckShiftWrongFalsely : Prop := fnExactCheckShiftRow.holds Try.pinned (OpenSpec.ofChange fnExactCheckShiftWrong)

/-- 'laws.FnExactFindShift': WHATEVER THE INPUT: true; the input reads as it did. -/
def fnExactFindShiftSpec : ChangeSpec := { name := "fnExactFindShift", fn := fun _ => fun
  | [d1, d2] => { results := [.lit (.bool true)], args := [d1, d2] }
  | _ => none }
def fnExactFindShiftRow : OpenClaim := { program := "ytncccjpbaeaafaa", sum := "8e3e89153b14261fa235af834cd9da94c15c7cacd0b76411bf2c00ab320d783e", func := "loop.example/g01079/laws.FnExactFindShift", spec := "fnExactFindShift", unfollowed := true, recurses := true, apart := false }
def FnExactFindShiftSaid : Prop := fnExactFindShiftRow.holds Try.pinned (OpenSpec.ofChange fnExactFindShiftSpec)

/-- ITS FALSE NEIGHBOUR: 'it returns false'. Refute it at one input. -/
def fnExactFindShiftWrong : ChangeSpec := { name := "fnExactFindShift", fn := fun _ => fun
  | [d1, d2] => { results := [.lit (.bool false)], args := [d1, d2] }
  | _ => none }
def FnExactFindShiftWrongFalsely : Prop := fnExactFindShiftRow.holds Try.pinned (OpenSpec.ofChange fnExactFindShiftWrong)

/- THE SECOND FORM. 'bulk': how many values and letters a reading holds, each counted each time it is reached (what is shared counts as often as it is met; a slice's spare places count too). A statement '..UptoSaid' is the law's where the arguments, and the package variables that the reading takes, are together of bulk at most 1048576: NARROWER than '..Said'. Prove '..Said' where nothing that the law and all that it calls make is longer than what came in: it says more and counts as full. Else prove '..UptoSaid'. A law counts once. -/
mutual
def uptoBulk {H : Type} : DataW H → Nat
  | .lit (.string bytes) => bytes.length + 1
  | .lit _ => 1
  | .nil => 1
  | .ptr d => uptoBulk d + 1
  | .slice elems spare => uptoBulkAll elems + uptoBulkAll spare + 1
  | .agg parts => uptoBulkAll parts + 1
  | .iface _ d => uptoBulk d + 1
  | .map entries => uptoBulkEntries entries + 1
  | .held _ => 1
def uptoBulkAll {H : Type} : List (DataW H) → Nat
  | [] => 0
  | d :: r => uptoBulk d + uptoBulkAll r
def uptoBulkEntries {H : Type} : List (Lit × DataW H) → Nat
  | [] => 0
  | x :: r => uptoBulkEntry x + uptoBulkEntries r
def uptoBulkEntry {H : Type} : Lit × DataW H → Nat
  | (.string bytes, d) => bytes.length + uptoBulk d + 1
  | (_, d) => uptoBulk d + 1
 end
def uptoSmall : (H : Type) → List (DataW H) → Bool := fun _ ds => decide (uptoBulkAll ds ≤ 1048576)
def OpenSpec.upto (s : _root_.Go.ChangeSpec) : _root_.Go.OpenSpec := { _root_.Go.OpenSpec.ofChange s with cond := some uptoSmall }

/-- 'laws.FnExactNormalOf', WHERE WHAT IT READS IS OF BULK AT MOST 1048576: true; the input reads as it did. -/
def fnExactNormalOfUptoRow : OpenClaim := { program := "ytncccjpbaeaafaa", sum := "8e3e89153b14261fa235af834cd9da94c15c7cacd0b76411bf2c00ab320d783e", func := "loop.example/g01079/laws.FnExactNormalOf", spec := "fnExactNormalOf", unfollowed := true, recurses := true, apart := false, narrowed := true }
def FnExactNormalOfUptoSaid : Prop := fnExactNormalOfUptoRow.holds Try.pinned (OpenSpec.upto fnExactNormalOfSpec)

/-- 'laws.FnExactMeasureRun', WHERE WHAT IT READS IS OF BULK AT MOST 1048576: true; the input reads as it did. -/
def fnExactMeasureRunUptoRow : OpenClaim := { program := "ytncccjpbaeaafaa", sum := "8e3e89153b14261fa235af834cd9da94c15c7cacd0b76411bf2c00ab320d783e", func := "loop.example/g01079/laws.FnExactMeasureRun", spec := "fnExactMeasureRun", unfollowed := true, recurses := true, apart := false, narrowed := true }
def FnExactMeasureRunUptoSaid : Prop := fnExactMeasureRunUptoRow.holds Try.pinned (OpenSpec.upto fnExactMeasureRunSpec)

/-- 'laws.FnExactRuleCounts', WHERE WHAT IT READS IS OF BULK AT MOST 1048576: true; the input reads as it did. -/
def fnExactRuleCountsUptoRow : OpenClaim := { program := "ytncccjpbaeaafaa", sum := "8e3e89153b14261fa235af834cd9da94c15c7cacd0b76411bf2c00ab320d783e", func := "loop.example/g01079/laws.FnExactRuleCounts", spec := "fnExactRuleCounts", unfollowed := true, recurses := true, apart := false, narrowed := true }
def FnExactRuleCountsUptoSaid : Prop := fnExactRuleCountsUptoRow.holds Try.pinned (OpenSpec.upto fnExactRuleCountsSpec)

/-- 'laws.FnExactStateCounts', WHERE WHAT IT READS IS OF BULK AT MOST 1048576: true; the input reads as it did. -/
def fnExactStateCountsUptoRow : OpenClaim := { program := "ytncccjpbaeaafaa", sum := "8e3e89153b14261fa235af834cd9da94c15c7cacd0b76411bf2c00ab320d783e", func := "loop.example/g01079/laws.FnExactStateCounts", spec := "fnExactStateCounts", unfollowed := true, recurses := true, apart := false, narrowed := true }
def FnExactStateCountsUptoSaid : Prop := fnExactStateCountsUptoRow.holds Try.pinned (OpenSpec.upto fnExactStateCountsSpec)

/-- 'laws.FnExactCrossingSequence', WHERE WHAT IT READS IS OF BULK AT MOST 1048576: true; the input reads as it did. -/
def fnExactCrossingSequenceUptoRow : OpenClaim := { program := "ytncccjpbaeaafaa", sum := "8e3e89153b14261fa235af834cd9da94c15c7cacd0b76411bf2c00ab320d783e", func := "loop.example/g01079/laws.FnExactCrossingSequence", spec := "fnExactCrossingSequence", unfollowed := true, recurses := true, apart := false, narrowed := true }
def FnExactCrossingSequenceUptoSaid : Prop := fnExactCrossingSequenceUptoRow.holds Try.pinned (OpenSpec.upto fnExactCrossingSequenceSpec)

/-- 'laws.FnExactVisitCounts', WHERE WHAT IT READS IS OF BULK AT MOST 1048576: true; the input reads as it did. -/
def fnExactVisitCountsUptoRow : OpenClaim := { program := "ytncccjpbaeaafaa", sum := "8e3e89153b14261fa235af834cd9da94c15c7cacd0b76411bf2c00ab320d783e", func := "loop.example/g01079/laws.FnExactVisitCounts", spec := "fnExactVisitCounts", unfollowed := true, recurses := true, apart := false, narrowed := true }
def FnExactVisitCountsUptoSaid : Prop := fnExactVisitCountsUptoRow.holds Try.pinned (OpenSpec.upto fnExactVisitCountsSpec)

/-- 'laws.FnExactCheckShift', WHERE WHAT IT READS IS OF BULK AT MOST 1048576: true; the input reads as it did. -/
def fnExactCheckShiftUptoRow : OpenClaim := { program := "ytncccjpbaeaafaa", sum := "8e3e89153b14261fa235af834cd9da94c15c7cacd0b76411bf2c00ab320d783e", func := "loop.example/g01079/laws.FnExactCheckShift", spec := "fnExactCheckShift", unfollowed := true, recurses := true, apart := false, narrowed := true }
def FnExactCheckShiftUptoSaid : Prop := fnExactCheckShiftUptoRow.holds Try.pinned (OpenSpec.upto fnExactCheckShiftSpec)

/-- 'laws.FnExactFindShift', WHERE WHAT IT READS IS OF BULK AT MOST 1048576: true; the input reads as it did. -/
def fnExactFindShiftUptoRow : OpenClaim := { program := "ytncccjpbaeaafaa", sum := "8e3e89153b14261fa235af834cd9da94c15c7cacd0b76411bf2c00ab320d783e", func := "loop.example/g01079/laws.FnExactFindShift", spec := "fnExactFindShift", unfollowed := true, recurses := true, apart := false, narrowed := true }
def FnExactFindShiftUptoSaid : Prop := fnExactFindShiftUptoRow.holds Try.pinned (OpenSpec.upto fnExactFindShiftSpec)

end Rows
end Go.Proofs.Ytncccjpbaeaafaa
