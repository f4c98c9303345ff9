/- Parts of the proof (7 of 22). -/
import Derived.Laws.Small
import Derived.Laws.StructEq
import Derived.Test.YtnkeamihfiobdaaGreatDoorQ6
section
set_option linter.unusedVariables false
set_option linter.unusedSimpArgs false
set_option maxRecDepth 100000
namespace Go.Proofs.YtnkeamihfiobdaaGreatDoor
open Go Foot
section
variable {g : Gh} {t : List (Nat × SV)} {h : List (Nat × GB)} {n : Nat}
end
section
variable {g : Gh} {t : List (Nat × SV)} {h : List (Nat × GB)} {n : Nat} {a : Act} {w : World} {S : Foot} {ρ : Env} {F : Nat → Foot}
end
section
variable {P : Program} {g : Gh} {st : St}
variable {dst : Option Tmp} {ty : TypeId} {pos : String} {after : Array Edge} {guard : Option (Nat × Bool)} {x y : Operand} {T U : TypeId}
end
theorem setRow_app {α : Type} : ∀ (ds a b c : List α) (f : Nat),f + ds.length ≤ b.length → setRow (a ++ (b ++ c)) (a.length + f) ds = a ++ (setRow b f ds ++ c)
  | [],a,b,c,f,_ => rfl
  | d :: ds,a,b,c,f,h => by
    simp only [List.length_cons] at h
    simp only [setRow]
    rw [List.set_append_right _ _ (by omega),show a.length + f - a.length = f by omega,List.set_append_left _ _ (by omega)]
    rw [show a.length + f + 1 = a.length + (f + 1) by omega]
    exact setRow_app ds a (b.set f d) c (f + 1) (by simp; omega)
section
variable {P : Program} {g : Gh} {st : St}
variable {ty : TypeId} {pos : String} {after : Array Edge} {guard : Option (Nat × Bool)} {x y : Operand} {T : TypeId}
end
end Go.Proofs.YtnkeamihfiobdaaGreatDoor
end
