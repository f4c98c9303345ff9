/- Parts of the proof (17 of 19). -/
import Derived.Lib.AppendIntMem
import Derived.Test.YtegpggobfdcafaaGreatQ16
section
set_option linter.unusedVariables false
set_option linter.unusedSimpArgs false
set_option maxRecDepth 100000
namespace Go.Proofs.YtegpggobfdcafaaGreat
open Go Foot Go.Shelf Go.RowKit
section
variable {g : Gh} {st : St} {dst : Option Tmp} {ty : TypeId} {pos : String} {after : Array Edge} {guard : Option (Nat × Bool)} {i : Nat}
end
end Go.Proofs.YtegpggobfdcafaaGreat
end
