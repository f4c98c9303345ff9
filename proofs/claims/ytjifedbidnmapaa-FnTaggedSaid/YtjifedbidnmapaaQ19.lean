/- Parts of the proof (19 of 21). -/
import Derived.Stop.IfaceNil
import Derived.Test.YtjifedbidnmapaaQ18
section
set_option linter.unusedVariables false
set_option linter.unusedSimpArgs false
set_option maxRecDepth 100000
namespace Go.Proofs.Ytjifedbidnmapaa
open Go Foot
section
variable {P : Program} {g : Gh} {st : St}
variable {dst : Option Tmp} {ty : TypeId} {pos : String} {after : Array Edge} {guard : Option (Nat × Bool)} {x : Operand} {T U : TypeId}
end
end Go.Proofs.Ytjifedbidnmapaa
end
section
set_option linter.unusedVariables false
set_option linter.unusedSimpArgs false
set_option maxRecDepth 100000
namespace Go.Proofs.Ytjifedbidnmapaa
open Go Foot
abbrev eO1 : Enc (List Int) := ⟨1,fun l => [.sl true 1 (rows eI l)],fun _ => rfl,by decide⟩
structure Back (w : World) (S Z G : Foot) (ps : List (List Int)) (vs : List Value) : Prop where
  r : Reps w no (rows eO1 ps) vs G
  s : le G S
  z : Foot.dis G Z
  t : ∀ t ∈ tabs,∀ o,¬ G t.1 o
theorem Back.keep {w w' : World} {S S' Z G : Foot} {ps : List (List Int)} {vs : List Value} (h : Back w S Z G ps vs) (hS : Agree w w' S) (hle : le S S') : Back w' S' Z G ps vs :=
  ⟨h.r.keep (hS.le h.s) Agree.no (le_refl _) (le_refl _),h.s.trans hle,h.z,h.t⟩
theorem eO_len (ps : List (List Int)) : (rows eO1 ps).length = ps.length := by rw [rows_len]; simp
theorem Back.len {w : World} {S Z G : Foot} {ps : List (List Int)} {vs : List Value} (h : Back w S Z G ps vs) : vs.length = ps.length := by
  have := h.r.length
  rwa [eO_len] at this
section
variable {P : Program} {g : Gh} {t : List (Nat × SV)} {h0 : List (Nat × GB)} {n i j q r : Nat} {a : Act} {w : World} {S Z : Foot} {ρ : Env} {F : Nat → Foot} {ps : List (List Int)} {vs : List Value} {Q : Exit → St → Prop}
end
end Go.Proofs.Ytjifedbidnmapaa
end
