/- Parts of the proof (7 of 21). -/
import Derived.Laws.Small
import Derived.Laws.StructEq
import Derived.Test.YtighjcjmacajoaaDoorQ6
section
set_option linter.unusedVariables false
set_option linter.unusedSimpArgs false
set_option maxRecDepth 100000
namespace Go.Proofs.YtighjcjmacajoaaDoor
open Go Foot
section
variable {g : Gh} {t : List (Nat × SV)} {h : List (Nat × GB)} {n : Nat}
end
section
variable {g : Gh} {t : List (Nat × SV)} {h : List (Nat × GB)} {n : Nat} {a : Act} {w : World} {S : Foot} {ρ : Env} {F : Nat → Foot}
end
section
variable {P : Program} {g : Gh} {st : St}
variable {dst : Option Tmp} {ty : TypeId} {pos : String} {after : Array Edge} {guard : Option (Nat × Bool)} {x y : Operand} {T U : TypeId}
theorem a_neB {a b : Bool} (e1 : opd st x = .one (boo a)) (e2 : opd st y = .one (boo b)) (hT : P.underlying T = some .bool) : Acts P g ⟨dst,.binOp .neq T x y U,ty,pos,after,guard⟩ st (.one (boo (!(a == b)))) [] [] := by
  refine acts_of fun A w S ρ F h => ⟨.bool (!(a == b)),?_,rfl,rfl⟩
  show (do pure (.value (← (do eqGuard .neq T x y (A.eval x) (A.eval y); binOp .neq T (A.eval x) (A.eval y)))) : Sem Next).run P w = _
  rw [opd_sc h e1,opd_sc h e2]
  simp [eqGuard,run_eql_bool,run_neq_bool,hT]
end
section
variable {P : Program} {g : Gh} {st : St}
variable {ty : TypeId} {pos : String} {after : Array Edge} {guard : Option (Nat × Bool)} {x y : Operand} {T : TypeId}
end
end Go.Proofs.YtighjcjmacajoaaDoor
end
