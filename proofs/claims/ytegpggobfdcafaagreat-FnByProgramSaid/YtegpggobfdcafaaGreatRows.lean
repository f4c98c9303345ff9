/-
  No cell of these rows narrows 'for every input' (looked for: loops, veiled, ifaces, maps, wideKeys, modest, calm, conditions, laid).
  DERIVED. THE GIVEN ROWS OF THIS SEAT. 4 by the template 'for every input the law returns true; each argument reads behind the call as it read before'; 0 by the template 'total and deterministic' (their statements: YtegpggobfdcafaaGreatTotals.lean).
  GIVEN WITH THE SEED: the statements are not yours to turn. If you find one false, say at which input.
  Laid BY PROGRAM, IN A SANDBOX (cutbox-rows.mjs): the forced cells as the released guide's own fill.sh prints them over the translation 410e1354bb4119ba… (all of the seat's roots in one cut). By AI agents, Wed Nov 11 2026. No macro, syntax, notation, axiom, sorry.
-/
import Derived.Test.YtegpggobfdcafaaGreatChecked
import GoSem.Claim
import GoSem.ClaimJoined
import GoSem.ClaimMapViews
import Derived.JoinedTies
import Derived.KernelRfl
namespace Go.Proofs.YtegpggobfdcafaaGreat
/- THE CELL 'sum', in the pinned program and in every row, IS THE sha256 OF THE DUMP (.gsa) THAT YtegpggobfdcafaaGreatProg.lean LOADS. Nothing in Lean hashes anything: it is a label: what it is worth is what the hold of that sum in a sandbox is worth. -/
noncomputable def Tryz.pinned : Pinned := { name := "ytegpggobfdcafaagreat", sum := "410e1354bb4119bafe4dde42e604f2217cd7c8afb91a1f52f40538d2d01c4f3d", checked := Tryz.checked }
namespace Rows
def none {H : Type} : Left H := { results := [], args := [] }

/-- 'laws.FnExactRunCost': WHATEVER THE INPUT: true; the input reads as it did. -/
def fnExactRunCostSpec : ChangeSpec := { name := "fnExactRunCost", fn := fun _ => fun
  | [d1, d2, d3] => { results := [.lit (.bool true)], args := [d1, d2, d3] }
  | _ => none }
def fnExactRunCostRow : OpenClaim := { program := "ytegpggobfdcafaagreat", sum := "410e1354bb4119bafe4dde42e604f2217cd7c8afb91a1f52f40538d2d01c4f3d", func := "loop.example/g01079/laws.FnExactRunCost", spec := "fnExactRunCost", unfollowed := true, recurses := true, apart := false }
def FnExactRunCostSaid : Prop := fnExactRunCostRow.holds Tryz.pinned (OpenSpec.ofChange fnExactRunCostSpec)

/-- ITS FALSE NEIGHBOUR: 'it returns false'. Refute it at one input. -/
def fnExactRunCostWrong : ChangeSpec := { name := "fnExactRunCost", fn := fun _ => fun
  | [d1, d2, d3] => { results := [.lit (.bool false)], args := [d1, d2, d3] }
  | _ => none }
def FnExactRunCostWrongFalsely : Prop := fnExactRunCostRow.holds Tryz.pinned (OpenSpec.ofChange fnExactRunCostWrong)

/-- 'laws.FnByProgram': WHATEVER THE INPUT: true; the input reads as it did. -/
def fnByProgramSpec : ChangeSpec := { name := "fnByProgram", fn := fun _ => fun
  | [d] => { results := [.lit (.bool true)], args := [d] }
  | _ => none }
def fnByProgramRow : OpenClaim := { program := "ytegpggobfdcafaagreat", sum := "410e1354bb4119bafe4dde42e604f2217cd7c8afb91a1f52f40538d2d01c4f3d", func := "loop.example/g01079/laws.FnByProgram", spec := "fnByProgram", unfollowed := true, recurses := true, apart := false }
def FnByProgramSaid : Prop := fnByProgramRow.holds Tryz.pinned (OpenSpec.ofChange fnByProgramSpec)

/-- ITS FALSE NEIGHBOUR: 'it returns false'. Refute it at one input. -/
def fnByProgramWrong : ChangeSpec := { name := "fnByProgram", fn := fun _ => fun
  | [d] => { results := [.lit (.bool false)], args := [d] }
  | _ => none }
def FnByProgramWrongFalsely : Prop := fnByProgramRow.holds Tryz.pinned (OpenSpec.ofChange fnByProgramWrong)

/-- 'laws.FnExactCheckBouncer': WHATEVER THE INPUT: true; the input reads as it did. -/
def fnExactCheckBouncerSpec : ChangeSpec := { name := "fnExactCheckBouncer", fn := fun _ => fun
  | [d1, d2] => { results := [.lit (.bool true)], args := [d1, d2] }
  | _ => none }
def fnExactCheckBouncerRow : OpenClaim := { program := "ytegpggobfdcafaagreat", sum := "410e1354bb4119bafe4dde42e604f2217cd7c8afb91a1f52f40538d2d01c4f3d", func := "loop.example/g01079/laws.FnExactCheckBouncer", spec := "fnExactCheckBouncer", unfollowed := true, recurses := true, apart := false }
def FnExactCheckBouncerSaid : Prop := fnExactCheckBouncerRow.holds Tryz.pinned (OpenSpec.ofChange fnExactCheckBouncerSpec)

/-- ITS FALSE NEIGHBOUR: 'it returns false'. Refute it at one input. -/
def fnExactCheckBouncerWrong : ChangeSpec := { name := "fnExactCheckBouncer", fn := fun _ => fun
  | [d1, d2] => { results := [.lit (.bool false)], args := [d1, d2] }
  | _ => none }
def FnExactCheckBouncerWrongFalsely : Prop := fnExactCheckBouncerRow.holds Tryz.pinned (OpenSpec.ofChange fnExactCheckBouncerWrong)

/-- 'laws.FnExactFindBouncer': WHATEVER THE INPUT: true; the input reads as it did. -/
def fnExactFindBouncerSpec : ChangeSpec := { name := "fnExactFindBouncer", fn := fun _ => fun
  | [d1, d2] => { results := [.lit (.bool true)], args := [d1, d2] }
  | _ => none }
def fnExactFindBouncerRow : OpenClaim := { program := "ytegpggobfdcafaagreat", sum := "410e1354bb4119bafe4dde42e604f2217cd7c8afb91a1f52f40538d2d01c4f3d", func := "loop.example/g01079/laws.FnExactFindBouncer", spec := "fnExactFindBouncer", unfollowed := true, recurses := true, apart := false }
def FnExactFindBouncerSaid : Prop := fnExactFindBouncerRow.holds Tryz.pinned (OpenSpec.ofChange fnExactFindBouncerSpec)

/-- ITS FALSE NEIGHBOUR: 'it returns false'. Refute it at one input. -/
def fnExactFindBouncerWrong : ChangeSpec := { name := "fnExactFindBouncer", fn := fun _ => fun
  | [d1, d2] => { results := [.lit (.bool false)], args := [d1, d2] }
  | _ => none }
def FnExactFindBouncerWrongFalsely : Prop := fnExactFindBouncerRow.holds Tryz.pinned (OpenSpec.ofChange fnExactFindBouncerWrong)

/- THE SECOND FORM. 'bulk': how many values and letters a reading holds, each counted each time it is reached (what is shared counts as often as it is met; a slice's spare places count too). A statement '..UptoSaid' is the law's where the arguments, and the package variables that the reading takes, are together of bulk at most 1048576: NARROWER than '..Said'. Prove '..Said' where nothing that the law and all that it calls make is longer than what came in: it says more and counts as full. Else prove '..UptoSaid'. A law counts once. -/
mutual
def uptoBulk {H : Type} : DataW H → Nat
  | .lit (.string bytes) => bytes.length + 1
  | .lit _ => 1
  | .nil => 1
  | .ptr d => uptoBulk d + 1
  | .slice elems spare => uptoBulkAll elems + uptoBulkAll spare + 1
  | .agg parts => uptoBulkAll parts + 1
  | .iface _ d => uptoBulk d + 1
  | .map entries => uptoBulkEntries entries + 1
  | .held _ => 1
def uptoBulkAll {H : Type} : List (DataW H) → Nat
  | [] => 0
  | d :: r => uptoBulk d + uptoBulkAll r
def uptoBulkEntries {H : Type} : List (Lit × DataW H) → Nat
  | [] => 0
  | x :: r => uptoBulkEntry x + uptoBulkEntries r
def uptoBulkEntry {H : Type} : Lit × DataW H → Nat
  | (.string bytes, d) => bytes.length + uptoBulk d + 1
  | (_, d) => uptoBulk d + 1
 end
def uptoSmall : (H : Type) → List (DataW H) → Bool := fun _ ds => decide (uptoBulkAll ds ≤ 1048576)
def OpenSpec.upto (s : _root_.Go.ChangeSpec) : _root_.Go.OpenSpec := { _root_.Go.OpenSpec.ofChange s with cond := some uptoSmall }

/-- 'laws.FnExactRunCost', WHERE WHAT IT READS IS OF BULK AT MOST 1048576: true; the input reads as it did. -/
def fnExactRunCostUptoRow : OpenClaim := { program := "ytegpggobfdcafaagreat", sum := "410e1354bb4119bafe4dde42e604f2217cd7c8afb91a1f52f40538d2d01c4f3d", func := "loop.example/g01079/laws.FnExactRunCost", spec := "fnExactRunCost", unfollowed := true, recurses := true, apart := false, narrowed := true }
def FnExactRunCostUptoSaid : Prop := fnExactRunCostUptoRow.holds Tryz.pinned (OpenSpec.upto fnExactRunCostSpec)

/-- 'laws.FnByProgram', WHERE WHAT IT READS IS OF BULK AT MOST 1048576: true; the input reads as it did. -/
def fnByProgramUptoRow : OpenClaim := { program := "ytegpggobfdcafaagreat", sum := "410e1354bb4119bafe4dde42e604f2217cd7c8afb91a1f52f40538d2d01c4f3d", func := "loop.example/g01079/laws.FnByProgram", spec := "fnByProgram", unfollowed := true, recurses := true, apart := false, narrowed := true }
def FnByProgramUptoSaid : Prop := fnByProgramUptoRow.holds Tryz.pinned (OpenSpec.upto fnByProgramSpec)

/-- 'laws.FnExactCheckBouncer', WHERE WHAT IT READS IS OF BULK AT MOST 1048576: true; the input reads as it did. -/
def fnExactCheckBouncerUptoRow : OpenClaim := { program := "ytegpggobfdcafaagreat", sum := "410e1354bb4119bafe4dde42e604f2217cd7c8afb91a1f52f40538d2d01c4f3d", func := "loop.example/g01079/laws.FnExactCheckBouncer", spec := "fnExactCheckBouncer", unfollowed := true, recurses := true, apart := false, narrowed := true }
def FnExactCheckBouncerUptoSaid : Prop := fnExactCheckBouncerUptoRow.holds Tryz.pinned (OpenSpec.upto fnExactCheckBouncerSpec)

/-- 'laws.FnExactFindBouncer', WHERE WHAT IT READS IS OF BULK AT MOST 1048576: true; the input reads as it did. -/
def fnExactFindBouncerUptoRow : OpenClaim := { program := "ytegpggobfdcafaagreat", sum := "410e1354bb4119bafe4dde42e604f2217cd7c8afb91a1f52f40538d2d01c4f3d", func := "loop.example/g01079/laws.FnExactFindBouncer", spec := "fnExactFindBouncer", unfollowed := true, recurses := true, apart := false, narrowed := true }
def FnExactFindBouncerUptoSaid : Prop := fnExactFindBouncerUptoRow.holds Tryz.pinned (OpenSpec.upto fnExactFindBouncerSpec)

end Rows
end Go.Proofs.YtegpggobfdcafaaGreat
