/- Parts of the proof (8 of 19). -/
import Derived.MapKept
import Derived.Test.YtegpggobfdcafaaGreatQ7
section
set_option linter.unusedVariables false
set_option linter.unusedSimpArgs false
set_option maxRecDepth 100000
namespace Go.Proofs.YtegpggobfdcafaaGreat
open Go Foot MapKept
section
variable {α β : Type} [DecidableEq α]
end
section
variable {P : Program} {g : Gh} {st : St}
variable {dst : Option Tmp} {ty : TypeId} {pos : String} {after : Array Edge} {guard : Option (Nat × Bool)} {x y z : Operand} {T kt et : TypeId}
variable {α β : Type} [DecidableEq α]
end
end Go.Proofs.YtegpggobfdcafaaGreat
end
