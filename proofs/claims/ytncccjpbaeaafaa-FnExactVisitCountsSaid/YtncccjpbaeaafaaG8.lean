/- Other numbers for roots; loops; contracts and calls. No program in sight. -/
import Derived.Test.YtncccjpbaeaafaaG7
set_option linter.unusedVariables false
set_option linter.unusedSimpArgs false
namespace Go.Proofs.Ytncccjpbaeaafaa
open Go Foot

def C.ren (f : Nat → Nat) : C → C
  | .d x => .d x
  | .gv g => .gv (f g)
  | .gp g o => .gp (f g) o
  | .gs g z lo hi => .gs (f g) z lo hi
  | .ifc t ag cs => .ifc t ag (all cs)
  | .fn k cs => .fn k (all cs)
where
  all : List C → List C
  | [] => []
  | c :: cs => c.ren f :: all cs
def tRen (f : Nat → Nat) : List (Bool × List C) → List (Bool × List C)
  | [] => []
  | (ag, cs) :: l => (ag, C.ren.all f cs) :: tRen f l
def SV.ren (f : Nat → Nat) : SV → SV
  | .one c => .one (c.ren f)
  | .agg cs => .agg (C.ren.all f cs)
  | .tup l => .tup (tRen f l)
  | .any => .any
def GB.ren (f : Nat → Nat) : GB → GB
  | .bx cs => .bx (C.ren.all f cs)
  | gb => gb
section
variable {w w' : World} {S S' F F' : Foot} {ρ ρ' : Env} {f : Nat → Nat}
mutual
theorem RepC.ren : ∀ {c : C} {v : Value}, RepC w S ρ (c.ren f) v ↔ RepC w S (fun i => ρ (f i)) c v
  | .d x, v => Iff.rfl
  | .gv g, v => Iff.rfl
  | .gp g o, v => Iff.rfl
  | .gs g z lo hi, v => Iff.rfl
  | .ifc t ag cs, v => by
    simp only [C.ren, RepC]
    cases ag with
    | true => simp only [if_true]; exact ⟨fun ⟨u, h1, vs, h2, h3⟩ => ⟨u, h1, vs, h2, RepCs.ren.1 h3⟩, fun ⟨u, h1, vs, h2, h3⟩ => ⟨u, h1, vs, h2, RepCs.ren.2 h3⟩⟩
    | false => simp only [Bool.false_eq_true, if_false]; exact ⟨fun ⟨u, h1, h3⟩ => ⟨u, h1, RepCs.ren.1 h3⟩, fun ⟨u, h1, h3⟩ => ⟨u, h1, RepCs.ren.2 h3⟩⟩
  | .fn k cs, v => by
    simp only [C.ren, RepC]
    exact ⟨fun ⟨vs, h2, h3⟩ => ⟨vs, h2, RepCs.ren.1 h3⟩, fun ⟨vs, h2, h3⟩ => ⟨vs, h2, RepCs.ren.2 h3⟩⟩
theorem RepCs.ren : ∀ {cs : List C} {vs : List Value}, RepCs w S ρ (C.ren.all f cs) vs ↔ RepCs w S (fun i => ρ (f i)) cs vs
  | [], vs => Iff.rfl
  | c :: cs, vs => by
    simp only [C.ren.all, RepCs]
    exact ⟨fun ⟨v, us, h1, h2, h3⟩ => ⟨v, us, h1, RepC.ren.1 h2, RepCs.ren.1 h3⟩, fun ⟨v, us, h1, h2, h3⟩ => ⟨v, us, h1, RepC.ren.2 h2, RepCs.ren.2 h3⟩⟩
end
theorem RepU.ren {ag : Bool} {cs : List C} {v : Value} : RepU w S ρ ag (C.ren.all f cs) v ↔ RepU w S (fun i => ρ (f i)) ag cs v := by
  unfold RepU
  cases ag with
  | true => simp only [if_true]; exact ⟨fun ⟨vs, h2, h3⟩ => ⟨vs, h2, RepCs.ren.1 h3⟩, fun ⟨vs, h2, h3⟩ => ⟨vs, h2, RepCs.ren.2 h3⟩⟩
  | false => simp only [Bool.false_eq_true, if_false]; exact RepCs.ren
theorem RepT.ren : ∀ {l : List (Bool × List C)} {vs : List Value}, RepT w S ρ (tRen f l) vs ↔ RepT w S (fun i => ρ (f i)) l vs
  | [], vs => Iff.rfl
  | (ag, cs) :: l, vs => by
    simp only [tRen, RepT]
    exact ⟨fun ⟨v, us, h1, h2, h3⟩ => ⟨v, us, h1, RepU.ren.1 h2, RepT.ren.1 h3⟩, fun ⟨v, us, h1, h2, h3⟩ => ⟨v, us, h1, RepU.ren.2 h2, RepT.ren.2 h3⟩⟩
theorem RepS.ren {sv : SV} {v : Value} : RepS w S ρ (sv.ren f) v ↔ RepS w S (fun i => ρ (f i)) sv v := by
  cases sv with
  | one c => exact RepC.ren
  | agg cs => exact ⟨fun ⟨vs, h2, h3⟩ => ⟨vs, h2, RepCs.ren.1 h3⟩, fun ⟨vs, h2, h3⟩ => ⟨vs, h2, RepCs.ren.2 h3⟩⟩
  | tup l => exact ⟨fun ⟨vs, h2, h3⟩ => ⟨vs, h2, RepT.ren.1 h3⟩, fun ⟨vs, h2, h3⟩ => ⟨vs, h2, RepT.ren.2 h3⟩⟩
  | any => exact Iff.rfl
theorem renAll_length (cs : List C) : (C.ren.all f cs).length = cs.length := by induction cs with | nil => rfl | cons c cs ih => simp [C.ren.all, ih]
theorem RepG.ren {gb : GB} {v : Value} : RepG w S ρ (gb.ren f) v F ↔ RepG w S (fun i => ρ (f i)) gb v F := by
  cases gb with
  | bx cs =>
    simp only [GB.ren, RepG, renAll_length]
    exact ⟨fun ⟨b, off, vs, h1, h2, h3, h4⟩ => ⟨b, off, vs, h1, h2, RepCs.ren.1 h3, h4⟩, fun ⟨b, off, vs, h1, h2, h3, h4⟩ => ⟨b, off, vs, h1, h2, RepCs.ren.2 h3, h4⟩⟩
  | _ => exact Iff.rfl
end

mutual
/-- What a cell may be taken for; `ld`: own roots that are lent. -/
inductive CLe (h : List (Nat × GB)) (ld : List Nat) : C → C → Prop where
  | refl {c : C} : CLe h ld c c
  | sh {g z : Nat} {xs : List D} (e : lkG h g = .sh z xs) : CLe h ld (.gv g) (.d (.sl false z xs))
  | nil {z : Nat} (hz : 0 < z) : CLe h ld (.d (.sc (.slice none 0 0))) (.d (.sl false z []))
  | lend {g z : Nat} {xs : List D} (hg : g ∈ ld) (e : lkG h g = .row z xs) (hno : D.noOwn.all xs) : CLe h ld (.gv g) (.d (.sl false z xs))
  | lendV {g : Nat} {cs : List C} {xs : List D} (hg : g ∈ ld) (e : lkG h g = .bx cs) (a : CsLe h ld cs (xs.map C.d)) : CLe h ld (.gv g) (.d (.bx false xs))
  | lendP {g o : Nat} {cs cs' : List C} {ys : List D} (hg : g ∈ ld) (e : lkG h g = .bx cs) (hy : cs.drop o = cs') (a : CsLe h ld cs' (ys.map C.d)) : CLe h ld (.gp g o) (.d (.bx false ys))
  | fn {f : Fn} {cs cs' : List C} (a : CsLe h ld cs cs') : CLe h ld (.fn f cs) (.fn f cs')
  | ifc {t : Nat} {ag : Bool} {cs cs' : List C} (a : CsLe h ld cs cs') : CLe h ld (.ifc t ag cs) (.ifc t ag cs')
  | fnD {f : Fn} {cs : List C} {ds : List D} (a : CsLe h ld cs (ds.map C.d)) : CLe h ld (.fn f cs) (.d (.fn f ds))
  | ifcD {t : Nat} {ag : Bool} {cs : List C} {ds : List D} (a : CsLe h ld cs (ds.map C.d)) : CLe h ld (.ifc t ag cs) (.d (.ifc t ag ds))
inductive CsLe (h : List (Nat × GB)) (ld : List Nat) : List C → List C → Prop where
  | nil : CsLe h ld [] []
  | cons {c c' : C} {cs cs' : List C} (a : CLe h ld c c') (b : CsLe h ld cs cs') : CsLe h ld (c :: cs) (c' :: cs')
end
inductive TLe (h : List (Nat × GB)) (ld : List Nat) : List (Bool × List C) → List (Bool × List C) → Prop where
  | nil : TLe h ld [] []
  | cons {ag : Bool} {cs cs' : List C} {l l' : List (Bool × List C)} (a : CsLe h ld cs cs') (b : TLe h ld l l') : TLe h ld ((ag, cs) :: l) ((ag, cs') :: l')
inductive SVLe (h : List (Nat × GB)) (ld : List Nat) : SV → SV → Prop where
  | tup {l l' : List (Bool × List C)} (a : TLe h ld l l') : SVLe h ld (.tup l) (.tup l')
  | refl {sv : SV} : SVLe h ld sv sv
  | any {sv : SV} : SVLe h ld sv .any
  | one {c c' : C} (a : CLe h ld c c') : SVLe h ld (.one c) (.one c')
  | agg {cs cs' : List C} (a : CsLe h ld cs cs') : SVLe h ld (.agg cs) (.agg cs')
inductive ASLe (h : List (Nat × GB)) (ld : List Nat) : List SV → List SV → Prop where
  | nil : ASLe h ld [] []
  | cons {c c' : SV} {cs cs' : List SV} (a : SVLe h ld c c') (b : ASLe h ld cs cs') : ASLe h ld (c :: cs) (c' :: cs')
section
variable {g : Gh} {st st' : St} {a : Act} {w : World} {S : Foot} {ρ : Env} {F : Nat → Foot} {ld : List Nat}
theorem reps_of : ∀ {xs : List D} {vs : List Value}, RepCs w S ρ (xs.map C.d) vs → Reps w S xs vs no
  | [], vs, h => h
  | x :: xs, vs, h => by
    simp only [List.map_cons, RepCs] at h
    obtain ⟨v, us, rfl, h1, h2⟩ := h
    exact ⟨v, us, no, no, rfl, le_refl _, le_refl _, no_dis _, h1, reps_of h2⟩
theorem cle_sh {i z : Nat} {xs : List D} {v : Value} (h : Rel g st a w S ρ F) (e : lkG st.h i = .sh z xs) (hc : RepC w S ρ (.gv i) v) : RepC w (S.or (chF F ld)) ρ (.d (.sl false z xs)) v :=
  RepC.keep (c := .d _) (h.shv hc (by simp [shv, e])) (Agree.refl _ _) (le_or_left _ _) (Env.le.refl ρ)
theorem cle_nil {z : Nat} {v : Value} (hz : 0 < z) (hc : RepC w S ρ (.d (.sc (.slice none 0 0))) v) : RepC w (S.or (chF F ld)) ρ (.d (.sl false z [])) v := by
  obtain ⟨rfl, _⟩ := hc
  simp only [RepC, Rep]
  exact ⟨none, 0, 0, rfl, by simp, hz, Nat.le_refl _, .inl ⟨rfl, fun _ => rfl⟩⟩
theorem cle_lend {i z : Nat} {xs : List D} {v : Value} (h : Rel g st a w S ρ F) (hg : i ∈ ld) (e : lkG st.h i = .row z xs) (hno : D.noOwn.all xs) (hc : RepC w S ρ (.gv i) v) : RepC w (S.or (chF F ld)) ρ (.d (.sl false z xs)) v := by
  rcases h.root i with h0 | ⟨u, r1, r2⟩
  · rw [e] at h0; cases h0
  rw [e] at r2
  have := hc.1
  rw [r1] at this
  cases this
  exact (sl_freeze r2 hno).keep Agree.no (Agree.refl _ _) (fun b o hb => hb.imp id (fun hb => ⟨i, hg, hb⟩)) (le_refl _)
theorem CsLe.length {h : List (Nat × GB)} : ∀ {cs cs' : List C}, CsLe h ld cs cs' → cs.length = cs'.length
  | _, _, .nil => rfl
  | _, _, .cons a b => by simp [CsLe.length b]
theorem bx_lend {cs cs' : List C} {ys : List D} {i k : Nat} {v : Value} (h : Rel g st a w S ρ F) (hi : i ∈ ld) (e : lkG st.h i = .bx cs) (hy : cs.drop k = cs') (hlen : cs'.length = ys.length) (hrep : ∀ {vs : List Value}, RepCs w S ρ cs' vs → RepCs w (S.or (chF F ld)) ρ (ys.map C.d) vs) (ht : RepC w S ρ (.gp i k) v) : Rep w (S.or (chF F ld)) (.bx false ys) v no := by
  subst hy
  obtain ⟨b, off, vs, e1, e2, e3, e4, e5, e6⟩ := h.tgt_bx (i := i) (k := k) ht rfl e
  have hr := reps_of (hrep (e4.drop k))
  simp only [Rep, Bool.false_eq_true, if_false]
  refine ⟨b, off + k, vs.drop k, no, e1, e3.drop k, hr, ?_, rfl⟩
  rintro b' o' ⟨q1, q2, q3⟩
  rw [List.length_drop] at hlen
  exact .inr ⟨i, hi, e5 _ _ ⟨q1, by omega, by omega⟩⟩
theorem gv_gp {i : Nat} {cs : List C} {v : Value} (h : Rel g st a w S ρ F) (e : lkG st.h i = .bx cs) (hc : RepC w S ρ (.gv i) v) : RepC w S ρ (.gp i 0) v := by
  obtain ⟨b, off, vs, e1, e2, _⟩ := h.tgt_bx (k := 0) hc (by simp [tgt, e]) e
  exact ⟨_, b, off, e2, rfl, e1⟩
mutual
theorem CLe.rep : ∀ {c c' : C} {v : Value}, CLe st.h ld c c' → Rel g st a w S ρ F → RepC w S ρ c v → RepC w (S.or (chF F ld)) ρ c' v
  | _, _, _, .refl, _, hc => hc.keep (Agree.refl _ _) (le_or_left _ _) (Env.le.refl _)
  | _, _, _, .sh e, h, hc => cle_sh h e hc
  | _, _, _, .nil hz, h, hc => cle_nil hz hc
  | _, _, _, .lend hg e hno, h, hc => cle_lend h hg e hno hc
  | _, _, _, .lendV hg e a, h, hc => bx_lend (k := 0) h hg e List.drop_zero (by have := a.length; simpa using this) (fun hr => CsLe.rep a h hr) (gv_gp h e hc)
  | _, _, _, .lendP hg e hy a, h, hc => bx_lend h hg e hy (by have := a.length; simpa using this) (fun hr => CsLe.rep a h hr) hc
  | _, _, v, .fn a, h, hc => by
    simp only [RepC] at hc ⊢
    obtain ⟨vs, rfl, hc⟩ := hc
    exact ⟨vs, rfl, CsLe.rep a h hc⟩
  | _, _, v, .ifc (ag := ag) a, h, hc => by
    simp only [RepC] at hc ⊢
    obtain ⟨u, rfl, hc⟩ := hc
    refine ⟨u, rfl, ?_⟩
    cases ag with
    | true =>
      simp only [if_true] at hc ⊢
      obtain ⟨vs, rfl, hc⟩ := hc
      exact ⟨vs, rfl, CsLe.rep a h hc⟩
    | false =>
      simp only [Bool.false_eq_true, if_false] at hc ⊢
      exact CsLe.rep a h hc
  | _, _, v, .fnD a, h, hc => by
    simp only [RepC] at hc
    simp only [RepC, Rep]
    obtain ⟨vs, rfl, hc⟩ := hc
    exact ⟨vs, rfl, reps_of (CsLe.rep a h hc)⟩
  | _, _, v, .ifcD (ag := ag) a, h, hc => by
    simp only [RepC] at hc
    simp only [RepC, Rep]
    obtain ⟨u, rfl, hc⟩ := hc
    refine ⟨u, rfl, ?_⟩
    cases ag with
    | true =>
      simp only [if_true] at hc ⊢
      obtain ⟨vs, rfl, hc⟩ := hc
      exact ⟨vs, rfl, reps_of (CsLe.rep a h hc)⟩
    | false =>
      simp only [Bool.false_eq_true, if_false] at hc ⊢
      exact reps_of (CsLe.rep a h hc)
theorem CsLe.rep : ∀ {cs cs' : List C} {vs : List Value}, CsLe st.h ld cs cs' → Rel g st a w S ρ F → RepCs w S ρ cs vs → RepCs w (S.or (chF F ld)) ρ cs' vs
  | _, _, _, .nil, _, hc => hc
  | _, _, vs, .cons a b, h, hc => by
    simp only [RepCs] at hc ⊢
    obtain ⟨v, us, rfl, h1, h2⟩ := hc
    exact ⟨v, us, rfl, CLe.rep a h h1, CsLe.rep b h h2⟩
end
theorem TLe.rep {l l' : List (Bool × List C)} (hl : TLe st.h ld l l') (h : Rel g st a w S ρ F) : ∀ {us : List Value}, RepT w S ρ l us → RepT w (S.or (chF F ld)) ρ l' us := by
  induction hl with
  | nil => exact fun h => h
  | @cons ag cs cs' l l' a b ih =>
    intro us hu
    simp only [RepT] at hu ⊢
    obtain ⟨u, vs, rfl, h1, h2⟩ := hu
    refine ⟨u, vs, rfl, ?_, ih h2⟩
    unfold RepU at h1 ⊢
    cases ag with
    | true =>
      simp only [if_true] at h1 ⊢
      obtain ⟨ws, rfl, h1⟩ := h1
      exact ⟨ws, rfl, a.rep h h1⟩
    | false =>
      simp only [Bool.false_eq_true, if_false] at h1 ⊢
      exact a.rep h h1
theorem SVLe.rep {sv sv' : SV} {v : Value} (hl : SVLe st.h ld sv sv') (h : Rel g st a w S ρ F) (hc : RepS w S ρ sv v) : RepS w (S.or (chF F ld)) ρ sv' v := by
  cases hl with
  | refl => exact hc.keep (Agree.refl _ _) (le_or_left _ _) (Env.le.refl _)
  | any => trivial
  | one a => exact a.rep h hc
  | agg a => obtain ⟨vs, rfl, hc⟩ := hc; exact ⟨vs, rfl, a.rep h hc⟩
  | tup a => obtain ⟨us, rfl, hc⟩ := hc; exact ⟨us, rfl, a.rep h hc⟩
theorem chF_nil (F : Nat → Foot) : chF F [] = no := by funext b o; simp [chF, no]
theorem SVLe.rep0 {sv sv' : SV} {v : Value} (hl : SVLe st.h [] sv sv') (h : Rel g st a w S ρ F) (hc : RepS w S ρ sv v) : RepS w S ρ sv' v := by
  have := hl.rep h hc
  rwa [chF_nil, or_no] at this

theorem blt_lt {a b : Nat} (h : Nat.blt a b = true) : a < b := Nat.le_of_ble_eq_true h
/-- Another state tells of the same; `θ`: the numbers of its roots. -/
def thF (θ : List Nat) (i : Nat) : Nat := θ.getD i 0
def leT (f : Nat → Nat) (st : St) : List (Nat × SV) → Prop
  | [] => True
  | (i, sv) :: r => SVLe st.h [] (lkS st.t i) (sv.ren f) ∧ leT f st r
def leH (f : Nat → Nat) (n : Nat) (st : St) : List (Nat × GB) → Prop
  | [] => True
  | (i, gb) :: r => (Nat.blt i n = true ∧ lkG st.h (f i) = gb.ren f) ∧ leH f n st r
theorem leT_lk {f : Nat → Nat} : ∀ {t : List (Nat × SV)}, leT f st t → ∀ i, SVLe st.h [] (lkS st.t i) ((lkS t i).ren f)
  | [], _, i => .any
  | (j, sv) :: r, h, i => by
    simp only [lkS]
    by_cases hij : i = j
    · subst hij
      have hb : Nat.beq i i = true := by simp
      simp only [hb, cond_true]
      exact h.1
    · simp only [beq_ne hij, cond_false]
      exact leT_lk h.2 i
theorem leH_lk {f : Nat → Nat} {n : Nat} : ∀ {t : List (Nat × GB)}, leH f n st t → ∀ i, lkG t i = .dead ∨ (i < n ∧ lkG st.h (f i) = (lkG t i).ren f)
  | [], _, i => .inl rfl
  | (j, sv) :: r, h, i => by
    simp only [lkG]
    by_cases hij : i = j
    · subst hij
      have hb : Nat.beq i i = true := by simp
      simp only [hb, cond_true]
      exact .inr ⟨blt_lt h.1.1, h.1.2⟩
    · simp only [beq_ne hij, cond_false]
      exact leH_lk h.2 i
def nodupB : List Nat → Bool
  | [] => true
  | x :: l => !(l.any (Nat.beq x)) && nodupB l
theorem nodupB_inj : ∀ {l : List Nat}, nodupB l = true → ∀ i j, i < l.length → j < l.length → i ≠ j → thF l i ≠ thF l j
  | [], _, i, _, hi, _, _ => by simp at hi
  | x :: l, h, i, j, hi, hj, hij => by
    simp only [nodupB, Bool.and_eq_true, Bool.not_eq_true', List.any_eq_false] at h
    have hmem : ∀ k, k < l.length → thF l k ≠ x := by
      intro k hk e
      have : l[k] ∈ l := List.getElem_mem hk
      have h2 := h.1 _ this
      have e2 : thF l k = l[k] := by simp [thF, hk]
      rw [e2] at e
      exact h2 (by rw [e]; simp)
    cases i with
    | zero =>
      cases j with
      | zero => exact absurd rfl hij
      | succ j => intro e; exact hmem j (by simpa using hj) e.symm
    | succ i =>
      cases j with
      | zero => intro e; exact hmem i (by simpa using hi) e
      | succ j => exact nodupB_inj h.2 i j (by simpa using hi) (by simpa using hj) (by omega)
/-- No root has a number from `n` on. -/
def C.lt (n : Nat) : C → Bool
  | .d _ => true
  | .gv g => Nat.blt g n
  | .gp g _ => Nat.blt g n
  | .gs g _ _ _ => Nat.blt g n
  | .ifc _ _ cs => all cs
  | .fn _ cs => all cs
where
  all : List C → Bool
  | [] => true
  | c :: cs => c.lt n && all cs
def tLt (n : Nat) : List (Bool × List C) → Bool
  | [] => true
  | (_, cs) :: l => C.lt.all n cs && tLt n l
def SV.lt (n : Nat) : SV → Bool
  | .one c => c.lt n
  | .agg cs => C.lt.all n cs
  | .tup l => tLt n l
  | .any => true
def GB.lt (n : Nat) : GB → Bool
  | .bx cs => C.lt.all n cs
  | _ => true
mutual
theorem RepC.ltE {ρ ρ' : Env} {n : Nat} (hr : ∀ i, i < n → ρ' i = ρ i) : ∀ {c : C} {v : Value}, RepC w S ρ c v → c.lt n = true → RepC w S ρ' c v
  | .d x, v, h, _ => h
  | .gv g, v, h, hl => ⟨(hr g (blt_lt hl)).trans h.1, h.2⟩
  | .gp g o, v, h, hl => by
    simp only [RepC] at h ⊢
    obtain ⟨u, b, off, h1, h2⟩ := h
    exact ⟨u, b, off, (hr g (blt_lt hl)).trans h1, h2⟩
  | .gs g z lo hi, v, h, hl => by
    simp only [RepC] at h ⊢
    obtain ⟨ad, len, cap, h1, h2⟩ := h
    exact ⟨ad, len, cap, (hr g (blt_lt hl)).trans h1, h2⟩
  | .ifc t ag cs, v, h, hl => by
    simp only [RepC] at h ⊢
    simp only [C.lt] at hl
    obtain ⟨u, rfl, h⟩ := h
    refine ⟨u, rfl, ?_⟩
    cases ag with
    | true =>
      simp only [if_true] at h ⊢
      obtain ⟨vs, rfl, h⟩ := h
      exact ⟨vs, rfl, RepCs.ltE hr h hl⟩
    | false =>
      simp only [Bool.false_eq_true, if_false] at h ⊢
      exact RepCs.ltE hr h hl
  | .fn k cs, v, h, hl => by
    simp only [RepC] at h ⊢
    simp only [C.lt] at hl
    obtain ⟨vs, rfl, h⟩ := h
    exact ⟨vs, rfl, RepCs.ltE hr h hl⟩
theorem RepCs.ltE {ρ ρ' : Env} {n : Nat} (hr : ∀ i, i < n → ρ' i = ρ i) : ∀ {cs : List C} {vs : List Value}, RepCs w S ρ cs vs → C.lt.all n cs = true → RepCs w S ρ' cs vs
  | [], vs, h, _ => h
  | c :: cs, vs, h, hl => by
    simp only [RepCs] at h ⊢
    simp only [C.lt.all, Bool.and_eq_true] at hl
    obtain ⟨v, us, rfl, h1, h2⟩ := h
    exact ⟨v, us, rfl, RepC.ltE hr h1 hl.1, RepCs.ltE hr h2 hl.2⟩
end
theorem RepU.ltE {ρ ρ' : Env} {n : Nat} (hr : ∀ i, i < n → ρ' i = ρ i) {ag : Bool} {cs : List C} {v : Value} (h : RepU w S ρ ag cs v) (hl : C.lt.all n cs = true) : RepU w S ρ' ag cs v := by
  unfold RepU at *
  cases ag with
  | true => simp only [if_true] at *; obtain ⟨vs, rfl, h⟩ := h; exact ⟨vs, rfl, h.ltE hr hl⟩
  | false => simp only [Bool.false_eq_true, if_false] at *; exact h.ltE hr hl
theorem RepT.ltE {ρ ρ' : Env} {n : Nat} (hr : ∀ i, i < n → ρ' i = ρ i) : ∀ {l : List (Bool × List C)} {vs : List Value}, RepT w S ρ l vs → tLt n l = true → RepT w S ρ' l vs
  | [], vs, h, _ => h
  | (ag, cs) :: l, vs, h, hl => by
    simp only [RepT] at h ⊢
    simp only [tLt, Bool.and_eq_true] at hl
    obtain ⟨v, us, rfl, h1, h2⟩ := h
    exact ⟨v, us, rfl, h1.ltE hr hl.1, RepT.ltE hr h2 hl.2⟩
theorem RepS.ltE {ρ ρ' : Env} {n : Nat} (hr : ∀ i, i < n → ρ' i = ρ i) {sv : SV} {v : Value} (h : RepS w S ρ sv v) (hl : sv.lt n = true) : RepS w S ρ' sv v := by
  cases sv with
  | one c => exact RepC.ltE hr h hl
  | agg cs => obtain ⟨vs, rfl, h⟩ := h; exact ⟨vs, rfl, h.ltE hr hl⟩
  | tup l => obtain ⟨vs, rfl, h⟩ := h; exact ⟨vs, rfl, h.ltE hr hl⟩
  | any => trivial
theorem RepG.ltE {ρ ρ' : Env} {n : Nat} (hr : ∀ i, i < n → ρ' i = ρ i) {gb : GB} {v : Value} {F : Foot} (h : RepG w S ρ gb v F) (hl : gb.lt n = true) : RepG w S ρ' gb v F := by
  cases gb with
  | bx cs =>
    simp only [RepG] at h ⊢
    obtain ⟨b, off, vs, h1, h2, h3, h4⟩ := h
    exact ⟨b, off, vs, h1, h2, h3.ltE hr hl, h4⟩
  | _ => exact h
def allT (n : Nat) : List (Nat × SV) → Bool
  | [] => true
  | (_, sv) :: r => sv.lt n && allT n r
def allH (n : Nat) : List (Nat × GB) → Bool
  | [] => true
  | (_, gb) :: r => gb.lt n && allH n r
theorem allT_lk {n : Nat} : ∀ {t : List (Nat × SV)}, allT n t = true → ∀ i, (lkS t i).lt n = true
  | [], _, _ => rfl
  | (j, sv) :: r, h, i => by
    simp only [allT, Bool.and_eq_true] at h
    simp only [lkS]
    cases hb : Nat.beq i j with
    | true => exact h.1
    | false => exact allT_lk h.2 i
theorem allH_lk {n : Nat} : ∀ {t : List (Nat × GB)}, allH n t = true → ∀ i, (lkG t i).lt n = true
  | [], _, _ => rfl
  | (j, sv) :: r, h, i => by
    simp only [allH, Bool.and_eq_true] at h
    simp only [lkG]
    cases hb : Nat.beq i j with
    | true => exact h.1
    | false => exact allH_lk h.2 i
def pinB (k : Nat) (θ : List Nat) : Bool := Nat.ble k θ.length && go k θ
where
  go : Nat → List Nat → Bool
  | 0, _ => true
  | k + 1, θ => Nat.beq (thF θ k) k && go k θ
theorem pinB_spec {k : Nat} {θ : List Nat} (h : pinB k θ = true) (i : Nat) (hi : i < k) : i < θ.length ∧ thF θ i = i := by
  simp only [pinB, Bool.and_eq_true] at h
  have hl := Nat.le_of_ble_eq_true h.1
  refine ⟨by omega, ?_⟩
  have key : ∀ k, pinB.go k θ = true → i < k → thF θ i = i := by
    intro k
    induction k with
    | zero => intro _ h; omega
    | succ k ih =>
      intro h hi
      simp only [pinB.go, Bool.and_eq_true] at h
      by_cases e : i = k
      · subst e; exact Nat.eq_of_beq_eq_true h.1
      · exact ih h.2 (by omega)
  exact key k h.2 hi
theorem Rel.renum (h : Rel g st a w S ρ F) {θ : List Nat} (hθ : nodupB θ = true) (hn : st'.n = θ.length) (ht : leT (thF θ) st st'.t) (hh : leH (thF θ) st'.n st st'.h) (h1 : allT st'.n st'.t = true) (h2 : allH st'.n st'.h = true) (hp : pinB g.k θ = true) :
    ∃ ρ' F', Rel g st' a w S ρ' F' ∧ Fresh st' ρ' := by
  have hr : ∀ i, i < st'.n → (fun i => if i < st'.n then ρ (thF θ i) else none) i = (fun i => ρ (thF θ i)) i := fun i hi => if_pos hi
  refine ⟨fun i => if i < st'.n then ρ (thF θ i) else none, fun i => if i < st'.n then F (thF θ i) else no, ⟨h.size, h.defers, fun i => ?_, fun i => ?_, fun i j hij => ?_, fun i => ?_, fun i => ?_, fun i b o hb => ?_, h.exS, h.old, h.inS, h.newS, fun i u hi hu => ?_⟩, fun i hi => if_neg (by omega)⟩
  · exact RepS.ltE hr (RepS.ren.1 ((leT_lk ht i).rep0 h (h.slot i))) (allT_lk h1 i)
  · rcases leH_lk hh i with h0 | ⟨hi, he⟩
    · exact .inl h0
    · rcases h.root (thF θ i) with r0 | ⟨u, r1, r2⟩
      · rw [r0] at he
        refine .inl ?_
        cases hg : lkG st'.h i <;> rw [hg] at he <;> simp [GB.ren] at he
      · rw [he] at r2
        refine .inr ⟨u, by simp only [if_pos hi]; exact r1, ?_⟩
        simp only [if_pos hi]
        exact RepG.ltE hr (RepG.ren.1 r2) (allH_lk h2 i)
  · by_cases hi : i < st'.n <;> by_cases hj : j < st'.n
    · simp only [if_pos hi, if_pos hj]
      exact h.dis _ _ (nodupB_inj hθ i j (by omega) (by omega) hij)
    · simp only [if_neg hj]; exact dis_no _
    · simp only [if_neg hi]; exact no_dis _
    · simp only [if_neg hj]; exact dis_no _
  · by_cases hi : i < st'.n
    · simp only [if_pos hi]; exact h.disS _
    · simp only [if_neg hi]; exact no_dis _
  · by_cases hi : i < st'.n
    · simp only [if_pos hi]; exact h.own _
    · simp only [if_neg hi]; exact no_le _
  · by_cases hi : i < st'.n
    · simp only [if_pos hi] at hb; exact h.ex _ b o hb
    · simp only [if_neg hi] at hb; exact hb.elim
  · obtain ⟨h1, h2⟩ := pinB_spec hp i hi
    simp only [if_pos (show i < st'.n by omega), h2]
    exact h.pin i u hi hu
end

/-- A state as another one tells it. -/
structure StLe (k : Nat) (θ : List Nat) (st st' : St) : Prop where
  pin : pinB k θ = true
  nd : nodupB θ = true
  n : st'.n = θ.length
  t : leT (thF θ) st st'.t
  h : leH (thF θ) st'.n st st'.h
  lt : allT st'.n st'.t = true
  lh : allH st'.n st'.h = true
theorem StLe.rel {g : Gh} {st st' : St} {θ : List Nat} {a : Act} {w : World} {S : Foot} {ρ : Env} {F : Nat → Foot} (hl : StLe g.k θ st st') (h : Rel g st a w S ρ F) : ∃ ρ' F', Rel g st' a w S ρ' F' ∧ Fresh st' ρ' := h.renum hl.nd hl.n hl.t hl.h hl.lt hl.lh hl.pin
section
variable {P : Program} {g : Gh} {st st' : St} {Q : Exit → St → Prop}
theorem g_le {c : Code} {θ : List Nat} (hl : StLe g.k θ st st') (h : GWp P g c st' Q) : GWp P g c st Q := ⟨fun a w S ρ F hr hf =>
  let ⟨ρ', F', h1, h2⟩ := hl.rel hr; h.run a w S ρ' F' h1 h2⟩
theorem o_le {ops : Array Oper} {l : List Oper} {θ : List Nat} (hl : StLe g.k θ st st') (h : GOps P g ops l st' Q) : GOps P g ops l st Q := ⟨fun a w S ρ F hr hf =>
  let ⟨ρ', F', h1, h2⟩ := hl.rel hr; h.run a w S ρ' F' h1 h2⟩
/-- What a round leaves: the loop's relation with less to do, or an exit. -/
inductive qLoop {α : Type} (k : Nat) (I : α → Prop) (T : α → St) (μ : α → Nat) (m : Nat) (Q : Exit → St → Prop) : Exit → St → Prop where
  | again {st : St} (x : α) (θ : List Nat) (hI : I x) (hm : μ x < m) (hl : StLe k θ st (T x)) : qLoop k I T μ m Q .normal st
  | out {e : Exit} {st : St} (hne : e ≠ .normal) (h : Q e st) : qLoop k I T μ m Q e st
theorem g_loop {α : Type} (I : α → Prop) (T : α → St) (μ : α → Nat) (x0 : α) (θ : List Nat) {c : Code} (h0 : I x0) (hin : StLe g.k θ st (T x0)) (hr : ∀ x, I x → GWp P g c (T x) (qLoop g.k I T μ (μ x) Q)) : GWp P g (.loop c) st Q := by
  refine ⟨fun a w S ρ F hrel hf => ?_⟩
  obtain ⟨ρ1, F1, r1, f1⟩ := hin.rel hrel
  intro b k cs
  have key : ∀ n x a w S ρ F, μ x = n → I x → Rel g (T x) a w S ρ F → Fresh (T x) ρ →
      ∃ e a' w', GQ g Q e a' w' ∧ Arrives P (lone (b.at a (.code c :: .inLoop c :: k)) cs w) b k cs e a' w' := by
    intro n
    induction n using Nat.strongRecOn with
    | _ n ih =>
      intro x a w S ρ F hn hI hrel hf
      obtain ⟨e, a₁, w₁, ⟨st1, S1, ρ1, F1, q1, q2, q3⟩, harr⟩ := (hr x hI).run a w S ρ F hrel hf b (.inLoop c :: k) cs
      cases q3 with
      | again x' θ' hI' hlt hle =>
        obtain ⟨ρ2, F2, r2, f2⟩ := hle.rel q1
        obtain ⟨e₂, a₂, w₂, hq₂, harr₂⟩ := ih (μ x') (hn ▸ hlt) x' a₁ w₁ S1 ρ2 F2 rfl hI' r2 f2
        exact ⟨e₂, a₂, w₂, hq₂, .of_steps (Steps.trans harr (.one step_inLoop)) harr₂⟩
      | out hne q3 => exact ⟨e, a₁, w₁, ⟨st1, S1, ρ1, F1, q1, q2, q3⟩, .pass (x := .inLoop c) rfl (fun _ _ => .inl hne) harr⟩
  obtain ⟨e, a', w', hq, harr⟩ := key _ x0 a w S ρ1 F1 rfl h0 r1 f1
  exact ⟨e, a', w', hq, .of_steps (.one step_loop) harr⟩
/-- A cut: what the first part leaves is told anew. -/
inductive qCut {α : Type} (k : Nat) (I : α → Prop) (T : α → St) (Q : Exit → St → Prop) : Exit → St → Prop where
  | here {st : St} (x : α) (θ : List Nat) (hI : I x) (hl : StLe k θ st (T x)) : qCut k I T Q .normal st
  | out {e : Exit} {st : St} (hne : e ≠ .normal) (h : Q e st) : qCut k I T Q e st
theorem g_cut {α : Type} (I : α → Prop) (T : α → St) {x y : Code} (h : GWp P g x st (qCut g.k I T Q)) (hk : ∀ v, I v → GWp P g y (T v) Q) : GWp P g (.seq x y) st Q := by
  refine g_seq (g_mono h ?_)
  intro e s hs
  cases hs with
  | here v θ hI hle => exact .go (g_le hle (hk v hI))
  | out hne h => exact .out hne h
end
end Go.Proofs.Ytncccjpbaeaafaa
