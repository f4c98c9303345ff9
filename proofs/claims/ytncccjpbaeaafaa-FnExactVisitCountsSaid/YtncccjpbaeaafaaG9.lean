/- Contracts and calls. No program in sight. -/
import Derived.Test.YtncccjpbaeaafaaG8
set_option linter.unusedVariables false
set_option linter.unusedSimpArgs false
namespace Go.Proofs.Ytncccjpbaeaafaa
open Go Foot

def RepA (w : World) (S : Foot) (ρ : Env) : List SV → List Value → Prop
  | [], vs => vs = []
  | sv :: l, vs => ∃ v us, vs = v :: us ∧ RepS w S ρ sv v ∧ RepA w S ρ l us
def upTo (F : Nat → Foot) (k : Nat) : Foot := fun b o => ∃ i, i < k ∧ F i b o
def Roots (w : World) (S : Foot) (ρ : Env) (H : List GB) (F : Nat → Foot) : Prop := ∀ i gb, H[i]? = some gb → gb = .dead ∨ ∃ v, ρ i = some v ∧ RepG w S ρ gb v (F i)
/-- What a function has done that was given the roots below `k`. -/
structure Ret (w w' : World) (S S1 : Foot) (ρ ρ' : Env) (F F' : Nat → Foot) (k : Nat) (H' : List GB) : Prop where
  keeps : Keeps (upTo F k) w w'
  newS : le S1 (newOr w (upTo F k))
  exS : ∀ b o, S1 b o → b < w'.heap.size
  len : k ≤ H'.length
  old : ∀ i u, i < k → ρ i = some u → ρ' i = some u
  new : ∀ i, H'.length ≤ i → ρ' i = none
  roots : Roots w' (S.or S1) ρ' H' F'
  dis : ∀ i j, i < H'.length → j < H'.length → i ≠ j → Foot.dis (F' i) (F' j)
  disS : ∀ i, i < H'.length → Foot.dis (F' i) S1
  own : ∀ i, i < H'.length → le (F' i) (newOr w (upTo F k))
  ex : ∀ i, i < H'.length → ∀ b o, F' i b o → b < w'.heap.size
/-- What a function is given. -/
structure Given (w : World) (S : Foot) (ρ : Env) (F : Nat → Foot) (H : List GB) : Prop where
  roots : Roots w S ρ H F
  new : ∀ i, H.length ≤ i → ρ i = none
  dis : ∀ i j, i < H.length → j < H.length → i ≠ j → Foot.dis (F i) (F j)
  disS : ∀ i, i < H.length → Foot.dis (F i) S
  ex : ∀ i, i < H.length → ∀ b o, F i b o → b < w.heap.size
  exS : ∀ b o, S b o → b < w.heap.size
/-- The contract of a function: from arguments and own roots to a result and what has become of the roots. -/
def Does (P : Program) (f : FuncId) (args : List SV) (H : List GB) (res : SV) (H' : List GB) : Prop :=
  ∀ (vs : List Value) (w : World) (S : Foot) (ρ : Env) (F : Nat → Foot), RepA w S ρ args vs → Given w S ρ F H →
    Calls P f vs.toArray w fun e w' => ∃ v S1 ρ' F', e = .returned v ∧ Ret w w' S S1 ρ ρ' F F' H.length H' ∧ RepS w' (S.or S1) ρ' res v

/-- A result of the function. -/
inductive ResOk (P : Program) (st : St) : ResultVar → Bool → List C → Prop where
  | one {t : Nat} {c : C} (h : lkS st.t t = .one c) : ResOk P st (.tmp t) false [c]
  | agg {t : Nat} {cs : List C} (h : lkS st.t t = .agg cs) : ResOk P st (.tmp t) true cs
  | cell {a T i k : Nat} {c0 c : C} {cs : List C} (h : lkS st.t a = .one c0) (ht : tgt st c0 = some (i, k)) (hg : lkG st.h i = .bx cs) (hT : cellB P T = true) (hr : cs[k]? = some c) : ResOk P st (.cell a T) false [c]
  | cells {a T i k n : Nat} {c0 : C} {cs cs' : List C} (h : lkS st.t a = .one c0) (ht : tgt st c0 = some (i, k)) (hg : lkG st.h i = .bx cs) (hT : aggB P T n = true) (hr : k + n ≤ cs.length) (he : (cs.drop k).take n = cs') : ResOk P st (.cell a T) true cs'
inductive RessOk (P : Program) (st : St) : List ResultVar → List (Bool × List C) → Prop where
  | nil : RessOk P st [] []
  | cons {r : ResultVar} {ag : Bool} {cs : List C} {rs : List ResultVar} {l : List (Bool × List C)} (h : ResOk P st r ag cs) (t : RessOk P st rs l) : RessOk P st (r :: rs) ((ag, cs) :: l)
/-- All results as one. -/
def resSV : List (Bool × List C) → SV
  | [(true, cs)] => .agg cs
  | [(false, [c])] => .one c
  | l => .tup l
section
variable {P : Program} {g : Gh} {st : St} {a : Act} {w : World} {S : Foot} {ρ : Env} {F : Nat → Foot}
theorem run_loadVar {t : Nat} {v : Value} {b off : Nat} (h : (Instr.loadAt t (.pointer (some ⟨b, off, none⟩))).run P w = .ok v w) : (do loadVar t (← asAddr (.pointer (some ⟨b, off, none⟩))) : Sem Value).run P w = .ok v w := by
  have : (do loadVar t (← asAddr (.pointer (some ⟨b, off, none⟩))) : Sem Value) = loadVar t ⟨b, off, none⟩ := rfl
  rw [this]
  simpa [Instr.loadAt, Instr.sureAddr] using h
theorem ResOk.run {r : ResultVar} {ag : Bool} {cs : List C} (hr : ResOk P st r ag cs) (h : Rel g st a w S ρ F) :
    ∃ v, ((match r with | .tmp t => pure (a.tmps.getD t undef) | .cell x t => do loadVar t (← asAddr (a.tmps.getD x undef)) : Sem Value)).run P w = .ok v w ∧ RepU w S ρ ag cs v := by
  cases hr with
  | one e =>
    rename_i t c
    have := h.slot t
    rw [e] at this
    exact ⟨_, rfl, by simp only [RepU, Bool.false_eq_true, if_false]; exact ⟨_, [], rfl, this, rfl⟩⟩
  | agg e =>
    rename_i t
    have := h.slot t
    rw [e] at this
    exact ⟨_, rfl, by simp only [RepU, if_true]; exact this⟩
  | cell e ht hg hT hr =>
    rename_i x T i k c0 c cs
    have h0 := h.slot x
    rw [e] at h0
    obtain ⟨b, off, vs, e1, e2, e3, e4, e5, e6⟩ := h.tgt_bx h0 ht hg
    obtain ⟨v, hv, hv'⟩ := e4.nth hr
    refine ⟨v, ?_, by simp only [RepU, Bool.false_eq_true, if_false]; exact ⟨_, [], rfl, hv', rfl⟩⟩
    simp only [e1]
    exact run_loadVar (run_load_cell hT (e3 k v hv))
  | cells e ht hg hT hr he =>
    rename_i x T i k n c0 cs
    subst he
    have h0 := h.slot x
    rw [e] at h0
    obtain ⟨b, off, vs, e1, e2, e3, e4, e5, e6⟩ := h.tgt_bx h0 ht hg
    have hlen := e4.length
    refine ⟨.agg ((vs.drop k).take n).toArray, ?_, by simp only [RepU, if_true]; exact ⟨_, rfl, by simpa using (e4.drop k).take n⟩⟩
    simp only [e1]
    exact run_loadVar (run_load_agg hT ((e3.drop k).take n) (by simp; omega))
theorem RessOk.run {rs : List ResultVar} {l : List (Bool × List C)} (hr : RessOk P st rs l) (h : Rel g st a w S ρ F) :
    ∃ vs, (rs.mapM fun (r : ResultVar) => (match r with | .tmp t => pure (a.tmps.getD t undef) | .cell x t => do loadVar t (← asAddr (a.tmps.getD x undef)) : Sem Value)).run P w = .ok vs w ∧ RepT w S ρ l vs := by
  induction hr with
  | nil => exact ⟨[], by simp, rfl⟩
  | cons h1 t ih =>
    obtain ⟨v, e1, e2⟩ := h1.run h
    obtain ⟨vs, e3, e4⟩ := ih
    refine ⟨v :: vs, ?_, ⟨v, vs, rfl, e2, e4⟩⟩
    haveI := sem_lawful
    rw [List.mapM_cons]
    simp only [Sem.run_bind, e1, Result.andThen_ok, e3]
    simp
theorem results_run {fn : Func} {l : List (Bool × List C)} (hr : RessOk P st fn.results.toList l) (h : Rel g st a w S ρ F) : ∃ v, (results fn a.tmps).run P w = .ok v w ∧ RepS w S ρ (resSV l) v := by
  obtain ⟨vs, e1, e2⟩ := hr.run h
  have hm : (fn.results.mapM fun (r : ResultVar) => (match r with | .tmp t => pure (a.tmps.getD t undef) | .cell x t => do loadVar t (← asAddr (a.tmps.getD x undef)) : Sem Value)).run P w = .ok vs.toArray w := by
    haveI := sem_lawful
    rw [Array.mapM_eq_mapM_toList]
    have : ∀ (x : Sem (List Value)), (List.toArray <$> x).run P w = (x.run P w).andThen fun l w' => .ok l.toArray w' := fun x => by
      show (Sem.bind x (fun y => Sem.pure y.toArray)).run P w = _
      exact Sem.run_bind _ _ _ _
    rw [this, e1]
    rfl
  have hlen : vs.length = l.length := by
    clear hm e1 hr
    induction l generalizing vs with
    | nil => simp only [RepT] at e2; subst e2; rfl
    | cons x l ih => obtain ⟨ag, cs⟩ := x; simp only [RepT] at e2; obtain ⟨u, us, rfl, _, e3⟩ := e2; simp [ih us e3]
  refine ⟨if h : vs.toArray.size = 1 then vs.toArray[0] else .tuple vs.toArray, ?_, ?_⟩
  · unfold results
    refine (Sem.run_bind _ _ _ _).trans ?_
    refine (congrArg (fun r => Result.andThen r _) hm).trans ?_
    rfl
  · have tup : ∀ l' : List (Bool × List C), RepT w S ρ l' vs → vs.length ≠ 1 → RepS w S ρ (.tup l') (if h : vs.toArray.size = 1 then vs.toArray[0] else .tuple vs.toArray) := fun l' h1 h2 => by
      rw [dif_neg (by simpa using h2)]
      exact ⟨vs.toArray, rfl, by simpa using h1⟩
    match l, e2, hlen with
    | [], e2, hlen => exact tup _ e2 (by simp [hlen])
    | [(ag, cs)], e2, hlen =>
      simp only [RepT] at e2
      obtain ⟨u, us, rfl, h1, rfl⟩ := e2
      rw [dif_pos (by simp)]
      cases ag with
      | true => simp only [RepU, if_true] at h1; exact h1
      | false =>
        simp only [RepU, Bool.false_eq_true, if_false] at h1
        match cs, h1 with
        | [], h1 => simp [RepCs] at h1
        | [c], h1 =>
          simp only [RepCs] at h1
          obtain ⟨v, us', e, h2, h3⟩ := h1
          simp only [List.cons.injEq] at e
          obtain ⟨rfl, _⟩ := e
          exact h2
        | c :: c' :: cs, h1 =>
          simp only [RepCs] at h1
          obtain ⟨v, us', e, h2, v', us'', e', _⟩ := h1
          simp only [List.cons.injEq] at e
          rw [← e.2] at e'
          cases e'
    | x :: y :: l, e2, hlen => exact (by simp only [resSV]; exact tup _ e2 (by simp [hlen]))
end

/-- The state at the beginning. -/
def argT : Nat → List SV → List (Nat × SV)
  | _, [] => []
  | k, sv :: l => (k, sv) :: argT (k + 1) l
def argH : Nat → List GB → List (Nat × GB)
  | _, [] => []
  | k, gb :: l => (k, gb) :: argH (k + 1) l
theorem argT_lk {w : World} {S : Foot} {ρ : Env} {u : Nat → Value} : ∀ {args : List SV} {vs : List Value} {k : Nat}, RepA w S ρ args vs → (∀ i, i < vs.length → u (k + i) = vs.getD i undef) → ∀ i, RepS w S ρ (lkS (argT k args) i) (u i)
  | [], vs, k, h, hu, i => trivial
  | sv :: l, vs, k, h, hu, i => by
    simp only [RepA] at h
    obtain ⟨v, us, rfl, h1, h2⟩ := h
    simp only [argT, lkS]
    by_cases hi : i = k
    · subst hi
      have hb : Nat.beq i i = true := by simp
      simp only [hb, cond_true]
      have := hu 0 (by simp)
      simp only [Nat.add_zero, List.getD_cons_zero] at this
      rw [this]
      exact h1
    · simp only [beq_ne hi, cond_false]
      refine argT_lk h2 (fun j hj => ?_) i
      have := hu (j + 1) (by simpa using hj)
      rw [show k + 1 + j = k + (j + 1) by omega, this]
      simp
theorem argH_lk : ∀ {H : List GB} {k i : Nat}, lkG (argH k H) i = .dead ∨ (k ≤ i ∧ H[i - k]? = some (lkG (argH k H) i))
  | [], k, i => .inl rfl
  | gb :: l, k, i => by
    simp only [argH, lkG]
    by_cases hi : i = k
    · subst hi
      have hb : Nat.beq i i = true := by simp
      simp only [hb, cond_true]
      exact .inr ⟨Nat.le_refl _, by simp⟩
    · simp only [beq_ne hi, cond_false]
      rcases argH_lk (H := l) (k := k + 1) (i := i) with h | ⟨h1, h2⟩
      · exact .inl h
      · refine .inr ⟨by omega, ?_⟩
        rw [show i - k = (i - (k + 1)) + 1 by omega, List.getElem?_cons_succ]
        exact h2
/-- The roots that the caller knows: those that were given, and some of the new ones. -/
def resF (k : Nat) (ids : List Nat) (i : Nat) : Nat := bif Nat.blt i k then i else ids.getD (i - k) 0
def rootsLe (f : Nat → Nat) (st : St) : Nat → List GB → Prop
  | _, [] => True
  | i, gb :: l => (gb = .dead ∨ lkG st.h (f i) = gb.ren f) ∧ rootsLe f st (i + 1) l
theorem rootsLe_get {f : Nat → Nat} {st : St} : ∀ {H : List GB} {k i : Nat} {gb : GB}, rootsLe f st k H → H[i]? = some gb → gb = .dead ∨ lkG st.h (f (k + i)) = gb.ren f
  | [], k, i, gb, _, h => by simp at h
  | g0 :: l, k, 0, gb, h, hi => by simp at hi; subst hi; exact h.1
  | g0 :: l, k, i + 1, gb, h, hi => by
    have := rootsLe_get h.2 (i := i) (by simpa using hi)
    rwa [show k + (i + 1) = k + 1 + i by omega]
def allG (n : Nat) : List GB → Bool
  | [] => true
  | gb :: r => gb.lt n && allG n r
theorem allG_get {n : Nat} : ∀ {H : List GB} {i : Nat} {gb : GB}, allG n H = true → H[i]? = some gb → gb.lt n = true
  | [], i, gb, _, h => by simp at h
  | g0 :: l, 0, gb, h, hi => by simp only [allG, Bool.and_eq_true] at h; simp at hi; subst hi; exact h.1
  | g0 :: l, i + 1, gb, h, hi => by simp only [allG, Bool.and_eq_true] at h; exact allG_get h.2 (by simpa using hi)
def GB.lives : GB → Bool
  | .dead => false
  | _ => true
def liveIds (f : Nat → Nat) : Nat → List GB → List Nat
  | _, [] => []
  | i, gb :: l => bif gb.lives then f i :: liveIds f (i + 1) l else liveIds f (i + 1) l
theorem liveIds_mem {f : Nat → Nat} : ∀ {H : List GB} {k i : Nat} {gb : GB}, H[i]? = some gb → gb.lives = true → f (k + i) ∈ liveIds f k H
  | [], k, i, gb, h, _ => by simp at h
  | g0 :: l, k, 0, gb, h, hl => by simp at h; subst h; simp only [liveIds, hl, cond_true]; simp
  | g0 :: l, k, i + 1, gb, h, hl => by
    have := liveIds_mem (f := f) (k := k + 1) (i := i) (by simpa using h) hl
    rw [show k + 1 + i = k + (i + 1) by omega] at this
    simp only [liveIds]
    cases g0.lives with
    | true => exact List.mem_cons_of_mem _ this
    | false => exact this
theorem liveIds_inj {f : Nat → Nat} : ∀ {H : List GB} {k i j : Nat} {gi gj : GB}, nodupB (liveIds f k H) = true → H[i]? = some gi → gi.lives = true → H[j]? = some gj → gj.lives = true → i ≠ j → f (k + i) ≠ f (k + j)
  | [], k, i, j, gi, gj, _, h, _, _, _, _ => by simp at h
  | g0 :: l, k, i, j, gi, gj, hn, hi, hli, hj, hlj, hij => by
    have key : ∀ m gm, l[m]? = some gm → gm.lives = true → g0.lives = true → f (k + (m + 1)) ≠ f k := by
      intro m gm hm hlm h0 e
      simp only [liveIds, h0, cond_true, nodupB, Bool.and_eq_true, Bool.not_eq_true', List.any_eq_false] at hn
      have := liveIds_mem (f := f) (k := k + 1) (i := m) hm hlm
      rw [show k + 1 + m = k + (m + 1) by omega] at this
      exact hn.1 _ this (by rw [e]; simp)
    have hn' : nodupB (liveIds f (k + 1) l) = true := by
      simp only [liveIds] at hn
      cases h0 : g0.lives with
      | true => rw [h0] at hn; simp only [cond_true, nodupB, Bool.and_eq_true] at hn; exact hn.2
      | false => rw [h0] at hn; exact hn
    cases i with
    | zero =>
      simp at hi
      subst hi
      cases j with
      | zero => exact absurd rfl hij
      | succ j => exact fun e => key j gj (by simpa using hj) hlj hli e.symm
    | succ i =>
      cases j with
      | zero => simp at hj; subst hj; exact fun e => key i gi (by simpa using hi) hli hlj e
      | succ j =>
        have := liveIds_inj (k := k + 1) (i := i) (j := j) hn' (by simpa using hi) hli (by simpa using hj) hlj (by omega)
        rw [show k + 1 + i = k + (i + 1) by omega, show k + 1 + j = k + (j + 1) by omega] at this
        exact this
/-- How a body must end. -/
def Ends (P : Program) (fn : Func) (k : Nat) (res : SV) (H' : List GB) : Exit → St → Prop := fun e st =>
  (e = .normal ∨ e = .ret) ∧ ∃ l ids, RessOk P st fn.results.toList l ∧ SVLe st.h [] (resSV l) (res.ren (resF k ids)) ∧ rootsLe (resF k ids) st 0 H' ∧ H'.length = k + ids.length ∧ nodupB (liveIds (resF k ids) 0 H') = true ∧ res.lt H'.length = true ∧ allG H'.length H' = true
theorem does_of0 {P : Program} {f : FuncId} {fn : Func} {c : Code} {n : Nat} {args : List SV} {H H' : List GB} {res : SV} (hf : P.funcs[f]? = some fn) (hb : fn.body = some c) (hn : fn.ntmps = n) (hargs : Nat.ble args.length n = true)
    (h : ∀ w F0 S0 ρ0, GWp P ⟨n, w, F0, S0, H.length, ρ0⟩ c ⟨argT 0 args, argH 0 H, H.length⟩ (Ends P fn H.length res H')) : Does P f args H res H' := by
  intro vs w S ρ F hA hG
  have hargs2 := Nat.le_of_ble_eq_true hargs
  clear hargs
  have hargs := hargs2
  clear hargs2
  refine calls_of_wp hf hb ?_
  have hlen : vs.length = args.length := by
    clear h hargs
    induction args generalizing vs with
    | nil => simp only [RepA] at hA; subst hA; rfl
    | cons x l ih => simp only [RepA] at hA; obtain ⟨u, us, rfl, _, e3⟩ := hA; simp [ih us e3]
  have hsz : (vs.toArray ++ Array.replicate (fn.ntmps - vs.toArray.size) undef).size = n := by simp; omega
  let F1 : Nat → Foot := fun i => if i < H.length then F i else no
  have hrel : Rel ⟨n, w, upTo F H.length, S, H.length, ρ⟩ ⟨argT 0 args, argH 0 H, H.length⟩ { tmps := vs.toArray ++ Array.replicate (fn.ntmps - vs.toArray.size) undef, defers := [] } w S ρ F1 := by
    refine ⟨hsz, rfl, fun i => ?_, fun i => ?_, fun i j hij => ?_, fun i => ?_, fun i => ?_, fun i b o hb => ?_, hG.exS, Keeps.refl _ _, le_refl _, fun b o h => .inl h, fun i u _ h => h⟩
    · refine argT_lk (u := fun i => (vs.toArray ++ Array.replicate (fn.ntmps - vs.toArray.size) undef).getD i undef) hA (fun j hj => ?_) i
      simp only [Nat.zero_add, Array.getD_eq_getD_getElem?, List.getD_eq_getElem?_getD]
      rw [Array.getElem?_append_left (by simpa using hj)]
      simp
    · rcases argH_lk (H := H) (k := 0) (i := i) with h0 | ⟨_, h1⟩
      · exact .inl h0
      · have hi : i < H.length := (List.getElem?_eq_some_iff.1 h1).1
        rcases hG.roots i _ h1 with h2 | ⟨v, h2, h3⟩
        · exact .inl h2
        · refine .inr ⟨v, h2, ?_⟩
          simp only [F1, if_pos hi]
          exact h3
    · simp only [F1]
      by_cases hi : i < H.length <;> by_cases hj : j < H.length
      · rw [if_pos hi, if_pos hj]; exact hG.dis i j hi hj hij
      · rw [if_neg hj]; exact dis_no _
      · rw [if_neg hi]; exact no_dis _
      · rw [if_neg hj]; exact dis_no _
    · simp only [F1]
      by_cases hi : i < H.length
      · rw [if_pos hi]; exact hG.disS i hi
      · rw [if_neg hi]; exact no_dis _
    · simp only [F1]
      by_cases hi : i < H.length
      · rw [if_pos hi]; exact fun b o hb => .inl ⟨i, hi, hb⟩
      · rw [if_neg hi]; exact no_le _
    · simp only [F1] at hb
      by_cases hi : i < H.length
      · rw [if_pos hi] at hb; exact hG.ex i hi b o hb
      · rw [if_neg hi] at hb; exact hb.elim
  refine wp_mono ((h w (upTo F H.length) S ρ).run _ w S ρ F1 hrel (fun i hi => hG.new i hi)) ?_
  rintro e a' w' ⟨st, S', ρ', F', hrel', hfr, he, l, ids, h1, h2, h3, h4, h5, h7, h8⟩
  obtain ⟨v, hv1, hv2⟩ := results_run h1 hrel'
  have hv3 := RepS.ren.1 (h2.rep0 hrel' hv2)
  let f' := resF H.length ids
  let S1 : Foot := fun b o => S' b o ∧ newOr w (upTo F H.length) b o
  have hSS : S.or S1 = S' := by
    funext b o
    refine propext ⟨fun h => h.elim (hrel'.inS b o) (fun h => h.1), fun h => ?_⟩
    rcases hrel'.newS b o h with h' | h'
    · exact .inl h'
    · exact .inr ⟨h, h'⟩
  let ρ2 : Env := fun i => if i < H'.length then ρ' (f' i) else none
  have hr2 : ∀ i, i < H'.length → ρ2 i = (fun i => ρ' (f' i)) i := fun i hi => if_pos hi
  let F3 : Nat → Foot := fun i => match H'[i]? with | some gb => bif gb.lives then F' (f' i) else no | none => no
  have hF3 : ∀ i, F3 i = no ∨ (F3 i = F' (f' i) ∧ ∃ gb, H'[i]? = some gb ∧ gb.lives = true) := by
    intro i
    simp only [F3]
    cases hg : H'[i]? with
    | none => exact .inl rfl
    | some gb =>
      cases hl : gb.lives with
      | true => exact .inr ⟨by simp [hl], gb, rfl, hl⟩
      | false => exact .inl (by simp [hl])
  have hret : Ret w w' S S1 ρ ρ2 F F3 H.length H' := by
    refine ⟨hrel'.old, fun b o h => h.2, fun b o h => hrel'.exS b o h.1, by omega, fun i u hi hu => ?_, fun i hi => if_neg (by omega), fun i gb hi => ?_, fun i j hi hj hij => ?_, fun i hi => ?_, fun i hi => ?_, fun i hi => ?_⟩
    · have e1 : f' i = i := by
        show resF H.length ids i = i
        unfold resF
        have : Nat.blt i H.length = true := Nat.ble_eq_true_of_le hi
        rw [this]
        rfl
      show (if i < H'.length then ρ' (f' i) else none) = some u
      rw [if_pos (by omega), e1]
      exact hrel'.pin i u hi hu
    · have hil : i < H'.length := (List.getElem?_eq_some_iff.1 hi).1
      rw [hSS]
      rcases rootsLe_get h3 hi with h0 | h0
      · exact .inl h0
      · rw [Nat.zero_add] at h0
        rcases hrel'.root (f' i) with r0 | ⟨u, r1, r2⟩
        · rw [h0] at r0
          refine .inl ?_
          cases gb <;> first | rfl | (simp [GB.ren] at r0)
        · rw [h0] at r2
          cases hl : gb.lives with
          | false =>
            refine .inl ?_
            cases gb <;> first | rfl | (simp [GB.lives] at hl)
          | true =>
            have e' : F3 i = F' (f' i) := by simp only [F3, hi, hl, cond_true]
            exact .inr ⟨u, (hr2 i hil).trans r1, by rw [e']; exact RepG.ltE hr2 (RepG.ren.1 r2) (allG_get h8 hi)⟩
    · rcases hF3 i with e | ⟨e, gi, hgi, hli⟩
      · rw [e]; exact no_dis _
      · rcases hF3 j with e' | ⟨e', gj, hgj, hlj⟩
        · rw [e']; exact dis_no _
        · rw [e, e']
          have := liveIds_inj (f := resF H.length ids) (k := 0) h5 hgi hli hgj hlj hij
          rw [Nat.zero_add, Nat.zero_add] at this
          exact hrel'.dis _ _ this
    · rcases hF3 i with e | ⟨e, _⟩
      · rw [e]; exact no_dis _
      · rw [e]; exact fun b o hb hs => hrel'.disS _ b o hb hs.1
    · rcases hF3 i with e | ⟨e, _⟩
      · rw [e]; exact no_le _
      · rw [e]; exact hrel'.own _
    · rcases hF3 i with e | ⟨e, _⟩
      · rw [e]; exact fun b o hb => hb.elim
      · rw [e]; exact hrel'.ex _
  have hres : ∃ v0 S1 ρ' F', Ending.returned v = .returned v0 ∧ Ret w w' S S1 ρ ρ' F F' H.length H' ∧ RepS w' (S.or S1) ρ' res v0 := ⟨v, S1, ρ2, _, rfl, hret, by rw [hSS]; exact RepS.ltE hr2 hv3 h7⟩
  rcases he with rfl | rfl
  · exact ⟨hrel'.defers, v, hv1, hres⟩
  · exact ⟨hrel'.defers, v, hv1, hres⟩
theorem does_of {P : Program} {f : FuncId} {fn : Func} {c : Code} {n k : Nat} {args : List SV} {H H' : List GB} {res : SV} (hf : P.funcs[f]? = some fn) (hb : fn.body = some c) (hn : fn.ntmps = n) (hargs : Nat.ble args.length n = true) (hk : H.length = k)
    (h : ∀ w F0 S0 ρ0, GWp P ⟨n, w, F0, S0, k, ρ0⟩ c ⟨argT 0 args, argH 0 H, k⟩ (Ends P fn k res H')) : Does P f args H res H' := by
  subst hk
  exact does_of0 hf hb hn hargs h
end Go.Proofs.Ytncccjpbaeaafaa
