/- Parts of the proof (17 of 23). -/
import Derived.Test.YtnkeamihfiobdaaGreatDoorQ16
section
set_option linter.unusedVariables false
set_option linter.unusedSimpArgs false
set_option maxRecDepth 100000
set_option maxHeartbeats 4000000
namespace Go.Proofs.YtnkeamihfiobdaaGreatDoor
open Go Foot
section
variable {m : Mach}
end
end Go.Proofs.YtnkeamihfiobdaaGreatDoor
end
section
set_option linter.unusedVariables false
set_option linter.unusedSimpArgs false
set_option maxRecDepth 100000
set_option maxHeartbeats 4000000
namespace Go.Proofs.YtnkeamihfiobdaaGreatDoor
open Go Foot
structure Part where
  st : Int
  pl : Int
  ce : List Int
  deriving DecidableEq
abbrev eP : Enc Part := ⟨3,fun x => [.sc (.int .i64 x.st),.sc (.int .i64 x.pl),.sl false 1 (rows eI x.ce)],fun _ => rfl,by decide⟩
structure PtGd (x : Part) : Prop where
  a : 0 ≤ x.pl
  b : x.pl < x.ce.length
  c : (x.ce.length : Int) ≤ 1000
end Go.Proofs.YtnkeamihfiobdaaGreatDoor
end
