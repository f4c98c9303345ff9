/- Parts of the proof (17 of 21). -/
import Derived.Laws.Slices
import Derived.Test.YtjifedbidnmapaaQ16
section
set_option linter.unusedVariables false
set_option linter.unusedSimpArgs false
set_option maxRecDepth 100000
namespace Go.Proofs.Ytjifedbidnmapaa
open Go Foot
section
variable {P : Program} {g : Gh} {st : St} {dst : Option Tmp} {ty : TypeId} {pos : String} {after : Array Edge} {guard : Option (Nat × Bool)} {x lo hi : Operand} {T : TypeId} {a : Bs} {m n : Int}
end
end Go.Proofs.Ytjifedbidnmapaa
end
