/- Parts of the proof (7 of 14). -/
import Derived.Laws.Small
import Derived.Laws.StructEq
import Derived.Test.YtegpggobfdcafaaGreatQ6
section
set_option linter.unusedVariables false
set_option linter.unusedSimpArgs false
set_option maxRecDepth 100000
namespace Go.Proofs.YtegpggobfdcafaaGreat
open Go Foot
section
variable {g : Gh} {t : List (Nat × SV)} {h : List (Nat × GB)} {n : Nat}
theorem repCs_junk {w : World} {S : Foot} {ρ : Env} : ∀ {cs : List C} {vs : List Value} {k : Nat},RepCs w S ρ cs vs → RepCs w S ρ (cs.set k (.d .junk)) vs
  | [],_,_,h => h
  | c0 :: cs,vs,0,h => by
    simp only [RepCs] at h
    obtain ⟨v,us,rfl,h1,h2⟩ := h
    exact ⟨v,us,rfl,h1.one,h2⟩
  | c0 :: cs,vs,k + 1,h => by
    simp only [RepCs] at h
    obtain ⟨v,us,rfl,h1,h2⟩ := h
    exact ⟨v,us,rfl,h1,repCs_junk h2⟩
theorem t_junkB {i k : Nat} {cs : List C} (hd : lkG h i = .bx cs) : Conv g ⟨t,h,n⟩ ⟨t,(i,.bx (cs.set k (.d .junk))) :: h,n⟩ := by
  intro a w S ρ F hr hf
  refine ⟨S,ρ,F,⟨hr.size,hr.defers,hr.slot,fun j => ?_,hr.dis,hr.disS,hr.own,hr.ex,hr.exS,hr.old,hr.inS,hr.newS,hr.pin,hr.tab,hr.fin⟩,hf⟩
  have hj0 := hr.root j
  by_cases hj : j = i
  · subst hj
    have hb : Nat.beq j j = true := by simp
    simp only [lkG,hb,cond_true]
    simp only at hj0
    rw [hd] at hj0
    rcases hj0 with h0 | ⟨u,r1,r2⟩
    · cases h0
    · refine .inr ⟨u,r1,?_⟩
      simp only [RepG] at r2 ⊢
      obtain ⟨b,off,vs,q1,q2,q3,q4,q5⟩ := r2
      exact ⟨b,off,vs,q1,q2,repCs_junk q3,by simpa using q4,by simpa using q5⟩
  · have hb := beq_ne hj
    simp only [lkG,hb,cond_false]
    exact hj0
end
section
variable {g : Gh} {t : List (Nat × SV)} {h : List (Nat × GB)} {n : Nat} {a : Act} {w : World} {S : Foot} {ρ : Env} {F : Nat → Foot}
end
section
variable {P : Program} {g : Gh} {st : St}
variable {dst : Option Tmp} {ty : TypeId} {pos : String} {after : Array Edge} {guard : Option (Nat × Bool)} {x y : Operand} {T U : TypeId}
theorem a_neB {a b : Bool} (e1 : opd st x = .one (boo a)) (e2 : opd st y = .one (boo b)) (hT : P.underlying T = some .bool) : Acts P g ⟨dst,.binOp .neq T x y U,ty,pos,after,guard⟩ st (.one (boo (!(a == b)))) [] [] := by
  refine acts_of fun A w S ρ F h => ⟨.bool (!(a == b)),?_,rfl,rfl⟩
  show (do pure (.value (← (do eqGuard .neq T x y (A.eval x) (A.eval y); binOp .neq T (A.eval x) (A.eval y)))) : Sem Next).run P w = _
  rw [opd_sc h e1,opd_sc h e2]
  simp [eqGuard,run_eql_bool,run_neq_bool,hT]
end
theorem setRow_app {α : Type} : ∀ (ds a b c : List α) (f : Nat),f + ds.length ≤ b.length → setRow (a ++ (b ++ c)) (a.length + f) ds = a ++ (setRow b f ds ++ c)
  | [],a,b,c,f,_ => rfl
  | d :: ds,a,b,c,f,h => by
    simp only [List.length_cons] at h
    simp only [setRow]
    rw [List.set_append_right _ _ (by omega),show a.length + f - a.length = f by omega,List.set_append_left _ _ (by omega)]
    rw [show a.length + f + 1 = a.length + (f + 1) by omega]
    exact setRow_app ds a (b.set f d) c (f + 1) (by simp; omega)
theorem rows_field {α : Type} (E : Enc α) {l : List α} {i f : Nat} {v : α} {ds : List D} (hi : i < l.length) (hf : f + ds.length ≤ E.z) (he : setRow (E.enc l[i]) f ds = E.enc v) : setRow (rows E l) (i * E.z + f) ds = rows E (l.set i v) := by
  have h1 : rows E l = rows E (l.take i) ++ (E.enc l[i] ++ rows E (l.drop (i + 1))) := by
    conv => lhs; rw [← List.take_append_drop i l,List.drop_eq_getElem_cons hi]
    simp only [rows,List.flatMap_append,List.flatMap_cons]
  have h2 : rows E (l.set i v) = rows E (l.take i) ++ (E.enc v ++ rows E (l.drop (i + 1))) := by
    rw [List.set_eq_take_append_cons_drop,if_pos hi]
    simp only [rows,List.flatMap_append,List.flatMap_cons]
  rw [h1,h2,← he]
  have h3 : i * E.z = (rows E (l.take i)).length := by rw [rows_len,List.length_take]; congr 1; omega
  rw [h3]
  exact setRow_app ds _ _ _ f (by rw [E.len]; exact hf)
section
variable {P : Program} {g : Gh} {st : St}
variable {ty : TypeId} {pos : String} {after : Array Edge} {guard : Option (Nat × Bool)} {x y : Operand} {T : TypeId}
theorem a_stF {α : Type} {E : Enc α} {l : List α} {i f j zz : Nat} {a : α} (v : α) {xs : List C} {ds : List D} (hc : opd st x = .one (.gp j (i * zz + f))) (hg : lkG st.h j = .row zz (rows E l)) (hs : (opd st y).cells = some xs) (hd : allD st.h xs = some ds) (hT : sizeB P T ds.length = true) (h0 : 0 < ds.length) (hf : f + ds.length ≤ E.z) (ha : l[i]? = some a) (he : setRow (E.enc a) f ds = E.enc v) (hz : E.z = zz) :
    Acts P g ⟨none,.store T x y,ty,pos,after,guard⟩ st .any [j] [(j,.row zz (rows E (l.set i v)))] := by
  subst hz
  obtain ⟨hi,rfl⟩ := List.getElem?_eq_some_iff.1 ha
  have hlen := rows_len E l
  have hmul : i * E.z + E.z ≤ l.length * E.z := by
    have := Nat.mul_le_mul_right E.z (Nat.succ_le_of_lt hi)
    rw [Nat.succ_mul] at this
    exact this
  exact a_st_row hc rfl hg hs hd hT h0 (by rw [hlen]; omega) (rows_field E hi hf he)
end
end Go.Proofs.YtegpggobfdcafaaGreat
end
