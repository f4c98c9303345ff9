/- A cell of a box of which no more is said. -/
import Derived.Test.YtncccjpbaeaafaaG16
import Derived.Laws.Small
import Derived.Laws.StructEq
set_option linter.unusedVariables false
set_option linter.unusedSimpArgs false
set_option maxRecDepth 100000
namespace Go.Proofs.Ytncccjpbaeaafaa
open Go Foot
section
variable {g : Gh} {t : List (Nat × SV)} {h : List (Nat × GB)} {n : Nat}
theorem repCs_junk {w : World} {S : Foot} {ρ : Env} : ∀ {cs : List C} {vs : List Value} {k : Nat}, RepCs w S ρ cs vs → RepCs w S ρ (cs.set k (.d .junk)) vs
  | [], _, _, h => h
  | c0 :: cs, vs, 0, h => by
    simp only [RepCs] at h
    obtain ⟨v, us, rfl, h1, h2⟩ := h
    exact ⟨v, us, rfl, h1.one, h2⟩
  | c0 :: cs, vs, k + 1, h => by
    simp only [RepCs] at h
    obtain ⟨v, us, rfl, h1, h2⟩ := h
    exact ⟨v, us, rfl, h1, repCs_junk h2⟩
theorem t_junkB {i k : Nat} {cs : List C} (hd : lkG h i = .bx cs) : Conv g ⟨t, h, n⟩ ⟨t, (i, .bx (cs.set k (.d .junk))) :: h, n⟩ := by
  intro a w S ρ F hr hf
  refine ⟨S, ρ, F, ⟨hr.size, hr.defers, hr.slot, fun j => ?_, hr.dis, hr.disS, hr.own, hr.ex, hr.exS, hr.old, hr.inS, hr.newS, hr.pin⟩, hf⟩
  have hj0 := hr.root j
  by_cases hj : j = i
  · subst hj
    have hb : Nat.beq j j = true := by simp
    simp only [lkG, hb, cond_true]
    simp only at hj0
    rw [hd] at hj0
    rcases hj0 with h0 | ⟨u, r1, r2⟩
    · cases h0
    · refine .inr ⟨u, r1, ?_⟩
      simp only [RepG] at r2 ⊢
      obtain ⟨b, off, vs, q1, q2, q3, q4, q5⟩ := r2
      exact ⟨b, off, vs, q1, q2, repCs_junk q3, by simpa using q4, by simpa using q5⟩
  · have hb := beq_ne hj
    simp only [lkG, hb, cond_false]
    exact hj0
end
section
variable {P : Program} {g : Gh} {st : St}
variable {dst : Option Tmp} {ty : TypeId} {pos : String} {after : Array Edge} {guard : Option (Nat × Bool)} {x y : Operand} {T U : TypeId}
theorem a_eqB {a b : Bool} (e1 : opd st x = .one (boo a)) (e2 : opd st y = .one (boo b)) (hT : P.underlying T = some .bool) : Acts P g ⟨dst, .binOp .eql T x y U, ty, pos, after, guard⟩ st (.one (boo (a == b))) [] [] := by
  refine acts_of fun A w S ρ F h => ⟨.bool (a == b), ?_, rfl, rfl⟩
  show (do pure (.value (← (do eqGuard .eql T x y (A.eval x) (A.eval y); binOp .eql T (A.eval x) (A.eval y)))) : Sem Next).run P w = _
  rw [opd_sc h e1, opd_sc h e2]
  simp [eqGuard, run_eql_bool, run_neq_bool, hT]
theorem a_neB {a b : Bool} (e1 : opd st x = .one (boo a)) (e2 : opd st y = .one (boo b)) (hT : P.underlying T = some .bool) : Acts P g ⟨dst, .binOp .neq T x y U, ty, pos, after, guard⟩ st (.one (boo (!(a == b)))) [] [] := by
  refine acts_of fun A w S ρ F h => ⟨.bool (!(a == b)), ?_, rfl, rfl⟩
  show (do pure (.value (← (do eqGuard .neq T x y (A.eval x) (A.eval y); binOp .neq T (A.eval x) (A.eval y)))) : Sem Next).run P w = _
  rw [opd_sc h e1, opd_sc h e2]
  simp [eqGuard, run_eql_bool, run_neq_bool, hT]
end
end Go.Proofs.Ytncccjpbaeaafaa
