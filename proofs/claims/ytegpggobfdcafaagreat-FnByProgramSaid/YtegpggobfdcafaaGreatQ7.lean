/- Parts of the proof (7 of 19). -/
import Derived.Laws.Small
import Derived.Laws.StructEq
import Derived.Test.YtegpggobfdcafaaGreatQ6
section
set_option linter.unusedVariables false
set_option linter.unusedSimpArgs false
set_option maxRecDepth 100000
namespace Go.Proofs.YtegpggobfdcafaaGreat
open Go Foot
section
variable {g : Gh} {t : List (Nat × SV)} {h : List (Nat × GB)} {n : Nat}
theorem repCs_junk {w : World} {S : Foot} {ρ : Env} : ∀ {cs : List C} {vs : List Value} {k : Nat},RepCs w S ρ cs vs → RepCs w S ρ (cs.set k (.d .junk)) vs
  | [],_,_,h => h
  | c0 :: cs,vs,0,h => by
    simp only [RepCs] at h
    obtain ⟨v,us,rfl,h1,h2⟩ := h
    exact ⟨v,us,rfl,h1.one,h2⟩
  | c0 :: cs,vs,k + 1,h => by
    simp only [RepCs] at h
    obtain ⟨v,us,rfl,h1,h2⟩ := h
    exact ⟨v,us,rfl,h1,repCs_junk h2⟩
theorem t_junkB {i k : Nat} {cs : List C} (hd : lkG h i = .bx cs) : Conv g ⟨t,h,n⟩ ⟨t,(i,.bx (cs.set k (.d .junk))) :: h,n⟩ := by
  intro a w S ρ F hr hf
  refine ⟨S,ρ,F,⟨hr.size,hr.defers,hr.slot,fun j => ?_,hr.dis,hr.disS,hr.own,hr.ex,hr.exS,hr.old,hr.inS,hr.newS,hr.pin,hr.tab,hr.fin⟩,hf⟩
  have hj0 := hr.root j
  by_cases hj : j = i
  · subst hj
    have hb : Nat.beq j j = true := by simp
    simp only [lkG,hb,cond_true]
    simp only at hj0
    rw [hd] at hj0
    rcases hj0 with h0 | ⟨u,r1,r2⟩
    · cases h0
    · refine .inr ⟨u,r1,?_⟩
      simp only [RepG] at r2 ⊢
      obtain ⟨b,off,vs,q1,q2,q3,q4,q5⟩ := r2
      exact ⟨b,off,vs,q1,q2,repCs_junk q3,by simpa using q4,by simpa using q5⟩
  · have hb := beq_ne hj
    simp only [lkG,hb,cond_false]
    exact hj0
end
section
variable {g : Gh} {t : List (Nat × SV)} {h : List (Nat × GB)} {n : Nat} {a : Act} {w : World} {S : Foot} {ρ : Env} {F : Nat → Foot}
theorem Rel.mvRoot {i : Nat} {gb : GB} (hi : Nat.blt i n = true) (hg : lkG h i = gb) (hr : Rel g ⟨t,h,n⟩ a w S ρ F) (hf : Fresh ⟨t,h,n⟩ ρ) :
    ∃ ρ' F',Rel g ⟨t,(n,gb) :: (i,.dead) :: h,n + 1⟩ a w S ρ' F' ∧ Fresh ⟨t,(n,gb) :: (i,.dead) :: h,n + 1⟩ ρ' ∧ ρ' n = ρ i ∧ Env.le ρ ρ' := by
  have hn : ρ n = none := hf n (Nat.le_refl n)
  have hin : i ≠ n := by have := blt_lt hi; omega
  have hle : Env.le ρ (fun j => if j = n then ρ i else ρ j) := fun k u hk => by
    have : k ≠ n := fun e => by rw [e,hn] at hk; cases hk
    simp only [this,if_false]; exact hk
  refine ⟨fun j => if j = n then ρ i else ρ j,fun j => if j = n then F i else if j = i then no else F j,⟨hr.size,hr.defers.same fun j r o hj => (by split at hj; exact ⟨i,hj⟩; split at hj; exact hj.elim; exact ⟨j,hj⟩),fun j => (hr.slot j).keep (Agree.refl _ _) (le_refl _) hle,fun j => ?_,fun j k hjk => ?_,fun j => ?_,fun j => ?_,fun j b o hb => ?_,hr.exS,hr.old,hr.inS,hr.newS,fun i u hi hu => hle _ _ (hr.pin i u hi hu),hr.tab,(fun ⟨N,hN⟩ => ⟨max N (n + 1),fun i hi => by rw [if_neg (by omega)]; exact hN i (by omega)⟩) hr.fin⟩,fun k hk => ?_,by simp,hle⟩
  · simp only [lkG]
    by_cases hj : j = n
    · subst hj
      have hb : Nat.beq j j = true := by simp
      simp only [hb,cond_true,if_true]
      rcases hr.root i with h0 | ⟨u,r1,r2⟩
      · rw [hg] at h0; exact .inl h0
      · rw [hg] at r2
        exact .inr ⟨u,r1,r2.keep (Agree.refl _ _) (Agree.refl _ _) (le_refl _) hle (le_refl _)⟩
    · simp only [beq_ne hj,cond_false,if_neg hj]
      by_cases hji : j = i
      · subst hji
        have hb : Nat.beq j j = true := by simp
        simp only [hb,cond_true]
        exact .inl trivial
      · simp only [beq_ne hji,cond_false,if_neg hji]
        rcases hr.root j with h0 | ⟨u,r1,r2⟩
        · exact .inl h0
        · exact .inr ⟨u,r1,r2.keep (Agree.refl _ _) (Agree.refl _ _) (le_refl _) hle (le_refl _)⟩
  · by_cases hj : j = n
    · by_cases hk : k = n
      · omega
      · by_cases hki : k = i
        · simp only [hki,hin,if_false,if_true]; exact dis_no _
        · simp only [hj,if_true,if_neg hk,if_neg hki]; exact hr.dis i k (fun e => hki e.symm)
    · by_cases hji : j = i
      · simp only [hji,hin,if_false,if_true]; exact no_dis _
      · by_cases hk : k = n
        · simp only [hk,if_true,if_neg hj,if_neg hji]; exact hr.dis j i hji
        · by_cases hki : k = i
          · simp only [hki,hin,if_false,if_true]; exact dis_no _
          · simp only [if_neg hj,if_neg hk,if_neg hji,if_neg hki]; exact hr.dis j k hjk
  · by_cases hj : j = n
    · simp only [hj,if_true]; exact hr.disS i
    · by_cases hji : j = i
      · simp only [hji,hin,if_false,if_true]; exact no_dis _
      · simp only [if_neg hj,if_neg hji]; exact hr.disS j
  · by_cases hj : j = n
    · simp only [hj,if_true]; exact hr.own i
    · by_cases hji : j = i
      · simp only [hji,hin,if_false,if_true]; exact no_le _
      · simp only [if_neg hj,if_neg hji]; exact hr.own j
  · by_cases hj : j = n
    · simp only [hj,if_true] at hb; exact hr.ex i b o hb
    · by_cases hji : j = i
      · simp only [hji,hin,if_false,if_true] at hb; exact hb.elim
      · simp only [if_neg hj,if_neg hji] at hb; exact hr.ex j b o hb
  · have hk' : n + 1 ≤ k := hk
    have : k ≠ n := by omega
    simp only [this,if_false]
    exact hf k (by show n ≤ k; omega)
theorem repCs_mv {w : World} {S : Foot} {ρ : Env} {i n : Nat} (hn : ρ n = ρ i) : ∀ {cs : List C} {vs : List Value} {k : Nat},RepCs w S ρ cs vs → cs[k]? = some (.gv i) → RepCs w S ρ (cs.set k (.gv n)) vs
  | [],_,_,_,h => by simp at h
  | c0 :: cs,vs,0,h,hk => by
    simp only [RepCs] at h
    obtain ⟨v,us,rfl,h1,h2⟩ := h
    simp at hk
    subst hk
    exact ⟨v,us,rfl,⟨by rw [hn]; exact h1.1,h1.2⟩,h2⟩
  | c0 :: cs,vs,k + 1,h,hk => by
    simp only [RepCs] at h
    obtain ⟨v,us,rfl,h1,h2⟩ := h
    exact ⟨v,us,rfl,h1,repCs_mv hn h2 (by simpa using hk)⟩
theorem t_mvB {i j k : Nat} {gb : GB} {cs : List C} (hi : Nat.blt i n = true) (hj : Nat.blt j n = true) (hij : Nat.beq j i = false) (hg : lkG h i = gb) (hd : lkG h j = .bx cs) (hk : cs[k]? = some (.gv i)) : Conv g ⟨t,h,n⟩ ⟨t,(j,.bx (cs.set k (.gv n))) :: (n,gb) :: (i,.dead) :: h,n + 1⟩ := by
  intro a w S ρ F hr hf
  obtain ⟨ρ',F',h1,h2,h3,h4⟩ := hr.mvRoot hi hg hf
  have hjn : j ≠ n := by have := blt_lt hj; omega
  have hin : i ≠ n := by have := blt_lt hi; omega
  have h3' : ρ' n = ρ' i := by
    rw [h3]
    cases e : ρ i with
    | none =>
      rcases h5 : ρ' i with _ | u
      · rfl
      · exfalso
        rcases hr.root j with h0 | ⟨v,r1,r2⟩
        · rw [hd] at h0; cases h0
        · rw [hd] at r2
          obtain ⟨b,off,vs,q1,q2,q3,q4,q5⟩ := r2
          obtain ⟨v',_,q6⟩ := q3.nth hk
          have := q6.1
          rw [e] at this
          cases this
    | some u => exact (h4 i u e).symm
  refine ⟨S,ρ',F',⟨h1.size,h1.defers,h1.slot,fun l => ?_,h1.dis,h1.disS,h1.own,h1.ex,h1.exS,h1.old,h1.inS,h1.newS,h1.pin,h1.tab,h1.fin⟩,h2⟩
  have hj0 := h1.root l
  by_cases hl : l = j
  · subst hl
    have hb : Nat.beq l l = true := by simp
    simp only [lkG,hb,cond_true]
    simp only [lkG,beq_ne hjn,hij,cond_false] at hj0
    rw [hd] at hj0
    rcases hj0 with h0 | ⟨u,r1,r2⟩
    · cases h0
    · refine .inr ⟨u,r1,?_⟩
      simp only [RepG] at r2 ⊢
      obtain ⟨b,off,vs,q1,q2,q3,q4,q5⟩ := r2
      exact ⟨b,off,vs,q1,q2,repCs_mv h3' q3 hk,by simpa using q4,by simpa using q5⟩
  · have hb := beq_ne hl
    simp only [lkG,hb,cond_false]
    simp only [lkG] at hj0
    exact hj0
end
section
variable {P : Program} {g : Gh} {st : St}
variable {dst : Option Tmp} {ty : TypeId} {pos : String} {after : Array Edge} {guard : Option (Nat × Bool)} {x y : Operand} {T U : TypeId}
theorem a_eqB {a b : Bool} (e1 : opd st x = .one (boo a)) (e2 : opd st y = .one (boo b)) (hT : P.underlying T = some .bool) : Acts P g ⟨dst,.binOp .eql T x y U,ty,pos,after,guard⟩ st (.one (boo (a == b))) [] [] := by
  refine acts_of fun A w S ρ F h => ⟨.bool (a == b),?_,rfl,rfl⟩
  show (do pure (.value (← (do eqGuard .eql T x y (A.eval x) (A.eval y); binOp .eql T (A.eval x) (A.eval y)))) : Sem Next).run P w = _
  rw [opd_sc h e1,opd_sc h e2]
  simp [eqGuard,run_eql_bool,run_neq_bool,hT]
theorem a_neB {a b : Bool} (e1 : opd st x = .one (boo a)) (e2 : opd st y = .one (boo b)) (hT : P.underlying T = some .bool) : Acts P g ⟨dst,.binOp .neq T x y U,ty,pos,after,guard⟩ st (.one (boo (!(a == b)))) [] [] := by
  refine acts_of fun A w S ρ F h => ⟨.bool (!(a == b)),?_,rfl,rfl⟩
  show (do pure (.value (← (do eqGuard .neq T x y (A.eval x) (A.eval y); binOp .neq T (A.eval x) (A.eval y)))) : Sem Next).run P w = _
  rw [opd_sc h e1,opd_sc h e2]
  simp [eqGuard,run_eql_bool,run_neq_bool,hT]
end
theorem setRow_app {α : Type} : ∀ (ds a b c : List α) (f : Nat),f + ds.length ≤ b.length → setRow (a ++ (b ++ c)) (a.length + f) ds = a ++ (setRow b f ds ++ c)
  | [],a,b,c,f,_ => rfl
  | d :: ds,a,b,c,f,h => by
    simp only [List.length_cons] at h
    simp only [setRow]
    rw [List.set_append_right _ _ (by omega),show a.length + f - a.length = f by omega,List.set_append_left _ _ (by omega)]
    rw [show a.length + f + 1 = a.length + (f + 1) by omega]
    exact setRow_app ds a (b.set f d) c (f + 1) (by simp; omega)
theorem rows_field {α : Type} (E : Enc α) {l : List α} {i f : Nat} {v : α} {ds : List D} (hi : i < l.length) (hf : f + ds.length ≤ E.z) (he : setRow (E.enc l[i]) f ds = E.enc v) : setRow (rows E l) (i * E.z + f) ds = rows E (l.set i v) := by
  have h1 : rows E l = rows E (l.take i) ++ (E.enc l[i] ++ rows E (l.drop (i + 1))) := by
    conv => lhs; rw [← List.take_append_drop i l,List.drop_eq_getElem_cons hi]
    simp only [rows,List.flatMap_append,List.flatMap_cons]
  have h2 : rows E (l.set i v) = rows E (l.take i) ++ (E.enc v ++ rows E (l.drop (i + 1))) := by
    rw [List.set_eq_take_append_cons_drop,if_pos hi]
    simp only [rows,List.flatMap_append,List.flatMap_cons]
  rw [h1,h2,← he]
  have h3 : i * E.z = (rows E (l.take i)).length := by rw [rows_len,List.length_take]; congr 1; omega
  rw [h3]
  exact setRow_app ds _ _ _ f (by rw [E.len]; exact hf)
section
variable {P : Program} {g : Gh} {st : St}
variable {ty : TypeId} {pos : String} {after : Array Edge} {guard : Option (Nat × Bool)} {x y : Operand} {T : TypeId}
theorem a_stF {α : Type} {E : Enc α} {l : List α} {i f j zz : Nat} {a : α} (v : α) {xs : List C} {ds : List D} (hc : opd st x = .one (.gp j (i * zz + f))) (hg : lkG st.h j = .row zz (rows E l)) (hs : (opd st y).cells = some xs) (hd : allD st.h xs = some ds) (hT : sizeB P T ds.length = true) (h0 : 0 < ds.length) (hf : f + ds.length ≤ E.z) (ha : l[i]? = some a) (he : setRow (E.enc a) f ds = E.enc v) (hz : E.z = zz) :
    Acts P g ⟨none,.store T x y,ty,pos,after,guard⟩ st .any [j] [(j,.row zz (rows E (l.set i v)))] := by
  subst hz
  obtain ⟨hi,rfl⟩ := List.getElem?_eq_some_iff.1 ha
  have hlen := rows_len E l
  have hmul : i * E.z + E.z ≤ l.length * E.z := by
    have := Nat.mul_le_mul_right E.z (Nat.succ_le_of_lt hi)
    rw [Nat.succ_mul] at this
    exact this
  exact a_st_row hc rfl hg hs hd hT h0 (by rw [hlen]; omega) (rows_field E hi hf he)
end
end Go.Proofs.YtegpggobfdcafaaGreat
end
