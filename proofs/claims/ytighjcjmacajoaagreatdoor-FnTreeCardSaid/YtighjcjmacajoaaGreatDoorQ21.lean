/- Parts of the proof (21 of 24). -/
import Derived.Stop.IfaceNil
import Derived.Test.YtighjcjmacajoaaGreatDoorQ20
section
set_option linter.unusedVariables false
set_option linter.unusedSimpArgs false
set_option maxRecDepth 100000
namespace Go.Proofs.YtighjcjmacajoaaGreatDoor
open Go Foot
section
variable {P : Program} {g : Gh} {st : St}
variable {dst : Option Tmp} {ty : TypeId} {pos : String} {after : Array Edge} {guard : Option (Nat × Bool)} {x : Operand} {T U : TypeId}
theorem a_neNil (e1 : opd st x = .one (.d (.sc .nilIface))) (hT : P.isIface T = true) : Acts P g ⟨dst,.binOp .neq T x (.const .nilIface) U,ty,pos,after,guard⟩ st (.one (boo false)) [] [] := by
  refine acts_of fun A w S ρ F h => ⟨.bool false,?_,rfl,rfl⟩
  show (do pure (.value (← (do eqGuard .neq T x (.const .nilIface) (A.eval x) (A.eval (.const .nilIface)); binOp .neq T (A.eval x) (A.eval (.const .nilIface))))) : Sem Next).run P w = _
  rw [opd_sc h e1,show A.eval (.const .nilIface) = .nilIface from rfl]
  simp [eqGuard,run_neq_nil_nil_at w T hT]
end
end Go.Proofs.YtighjcjmacajoaaGreatDoor
end
