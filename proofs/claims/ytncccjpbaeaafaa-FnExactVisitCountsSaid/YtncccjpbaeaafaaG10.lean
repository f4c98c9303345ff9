/- Calls. No program in sight. -/
import Derived.Test.YtncccjpbaeaafaaG9
set_option linter.unusedVariables false
set_option linter.unusedSimpArgs false
namespace Go.Proofs.Ytncccjpbaeaafaa
open Go Foot

/-- Data without an address in it. -/
def D.plain : D → Prop
  | .bx _ _ => False
  | .sl _ _ _ => False
  | .ifc _ _ cs => all cs
  | .fn _ cs => all cs
  | _ => True
where
  all : List D → Prop
  | [] => True
  | c :: cs => c.plain ∧ all cs
def C.plain : C → Prop
  | .d x => x.plain
  | .ifc _ _ cs => all cs
  | .fn _ cs => all cs
  | _ => True
where
  all : List C → Prop
  | [] => True
  | c :: cs => c.plain ∧ all cs
def tPlain : List (Bool × List C) → Prop
  | [] => True
  | (_, cs) :: l => C.plain.all cs ∧ tPlain l
def SV.plain : SV → Prop
  | .one c => c.plain
  | .agg cs => C.plain.all cs
  | .tup l => tPlain l
  | .any => True
def GB.plain : GB → Prop
  | .dead => True
  | .bx cs => C.plain.all cs
  | .row _ xs => D.plain.all xs
  | .sh _ _ => False
  | .mp _ => True
  | .isv _ => True
  | .it _ _ _ _ => True
def plainH : List GB → Prop
  | [] => True
  | gb :: l => gb.plain ∧ plainH l
section
variable {w : World} {S S' F : Foot} {ρ : Env}
mutual
theorem Rep.plain : ∀ {c : D} {v : Value} {F : Foot}, Rep w S c v F → c.plain → Rep w S' c v F
  | .sc _, v, F, h, _ => h
  | .bx _ _, v, F, h, hp => hp.elim
  | .sl _ _ _, v, F, h, hp => hp.elim
  | .ifc t ag cs, v, F, h, hp => by
    simp only [Rep] at h ⊢
    obtain ⟨u, rfl, h⟩ := h
    refine ⟨u, rfl, ?_⟩
    cases ag with
    | true => simp only [if_true] at h ⊢; obtain ⟨vs, rfl, h⟩ := h; exact ⟨vs, rfl, Reps.plain h hp⟩
    | false => simp only [Bool.false_eq_true, if_false] at h ⊢; exact Reps.plain h hp
  | .fn f cs, v, F, h, hp => by
    simp only [Rep] at h ⊢
    obtain ⟨vs, rfl, h⟩ := h
    exact ⟨vs, rfl, Reps.plain h hp⟩
  | .junk, v, F, h, _ => h
theorem Reps.plain : ∀ {cs : List D} {vs : List Value} {F : Foot}, Reps w S cs vs F → D.plain.all cs → Reps w S' cs vs F
  | [], vs, F, h, _ => h
  | c :: cs, vs, F, h, hp => by
    simp only [Reps] at h ⊢
    obtain ⟨v, us, F1, F2, rfl, h1, h2, h3, h4, h5⟩ := h
    exact ⟨v, us, F1, F2, rfl, h1, h2, h3, Rep.plain h4 hp.1, Reps.plain h5 hp.2⟩
end
mutual
theorem RepC.plain : ∀ {c : C} {v : Value}, RepC w S ρ c v → c.plain → RepC w S' ρ c v
  | .d x, v, h, hp => Rep.plain h hp
  | .gv g, v, h, _ => h
  | .gp g o, v, h, _ => h
  | .gs g z lo hi, v, h, _ => h
  | .ifc t ag cs, v, h, hp => by
    simp only [RepC] at h ⊢
    obtain ⟨u, rfl, h⟩ := h
    refine ⟨u, rfl, ?_⟩
    cases ag with
    | true => simp only [if_true] at h ⊢; obtain ⟨vs, rfl, h⟩ := h; exact ⟨vs, rfl, RepCs.plain h hp⟩
    | false => simp only [Bool.false_eq_true, if_false] at h ⊢; exact RepCs.plain h hp
  | .fn f cs, v, h, hp => by
    simp only [RepC] at h ⊢
    obtain ⟨vs, rfl, h⟩ := h
    exact ⟨vs, rfl, RepCs.plain h hp⟩
theorem RepCs.plain : ∀ {cs : List C} {vs : List Value}, RepCs w S ρ cs vs → C.plain.all cs → RepCs w S' ρ cs vs
  | [], vs, h, _ => h
  | c :: cs, vs, h, hp => by
    simp only [RepCs] at h ⊢
    obtain ⟨v, us, rfl, h1, h2⟩ := h
    exact ⟨v, us, rfl, RepC.plain h1 hp.1, RepCs.plain h2 hp.2⟩
end
theorem RepT.plain : ∀ {l : List (Bool × List C)} {vs : List Value}, RepT w S ρ l vs → tPlain l → RepT w S' ρ l vs
  | [], vs, h, _ => h
  | (ag, cs) :: l, vs, h, hp => by
    simp only [RepT] at h ⊢
    obtain ⟨v, us, rfl, h1, h2⟩ := h
    refine ⟨v, us, rfl, ?_, RepT.plain h2 hp.2⟩
    unfold RepU at *
    cases ag with
    | true => simp only [if_true] at *; obtain ⟨vs, rfl, h⟩ := h1; exact ⟨vs, rfl, h.plain hp.1⟩
    | false => simp only [Bool.false_eq_true, if_false] at *; exact h1.plain hp.1
theorem RepS.plain {sv : SV} {v : Value} (h : RepS w S ρ sv v) (hp : sv.plain) : RepS w S' ρ sv v := by
  cases sv with
  | one c => exact RepC.plain h hp
  | agg cs => obtain ⟨vs, rfl, h⟩ := h; exact ⟨vs, rfl, h.plain hp⟩
  | tup l => obtain ⟨vs, rfl, h⟩ := h; exact ⟨vs, rfl, h.plain hp⟩
  | any => trivial
theorem RepG.plain {gb : GB} {v : Value} (h : RepG w S ρ gb v F) (hp : gb.plain) : RepG w S' ρ gb v F := by
  cases gb with
  | dead => trivial
  | bx cs =>
    simp only [RepG] at h ⊢
    obtain ⟨b, off, vs, h1, h2, h3, h4⟩ := h
    exact ⟨b, off, vs, h1, h2, h3.plain hp, h4⟩
  | row z xs =>
    simp only [RepG, Rep, if_true] at h ⊢
    obtain ⟨a, len, cap, h1, h2, h3, h4, h5⟩ := h
    refine ⟨a, len, cap, h1, h2, h3, h4, h5.imp id ?_⟩
    rintro ⟨b, off, vs, G, e1, e2, e3, e4⟩
    exact ⟨b, off, vs, G, e1, e2, e3.plain hp, e4⟩
  | sh z xs => exact hp.elim
  | mp kv => exact h
  | isv v0 => exact h
  | it b kv todo cur => exact h
end
theorem plainH_get : ∀ {H : List GB} {i : Nat} {gb : GB}, plainH H → H[i]? = some gb → gb.plain
  | [], i, gb, _, h => by simp at h
  | g0 :: l, 0, gb, h, hi => by simp at hi; subst hi; exact h.1
  | g0 :: l, i + 1, gb, h, hi => plainH_get h.2 (by simpa using hi)

/-- The numbers of a callee's roots in the caller. -/
def calF : List Nat → Nat → Nat → Nat
  | [], m, i => m + i
  | t :: _, _, 0 => t
  | _ :: θ, m, i + 1 => calF θ m i
theorem calF_eq : ∀ (θ : List Nat) (m i : Nat), calF θ m i = bif Nat.blt i θ.length then thF θ i else m + (i - θ.length)
  | [], m, i => by
    have : Nat.blt i 0 = false := by cases i <;> rfl
    simp [calF, this]
  | t :: θ, m, 0 => rfl
  | t :: θ, m, i + 1 => by
    have e : Nat.blt (i + 1) (t :: θ).length = Nat.blt i θ.length := rfl
    rw [calF, calF_eq θ m i, e, List.length_cons, show i + 1 - (θ.length + 1) = i - θ.length by omega]
    rfl
def upOf (f : Nat → Nat) : Nat → List GB → List (Nat × GB)
  | _, [] => []
  | k, gb :: l => (f k, gb.ren f) :: upOf f (k + 1) l
theorem upOf_mem {f : Nat → Nat} : ∀ {H : List GB} {k : Nat} {x : Nat × GB}, x ∈ upOf f k H → ∃ i gb, H[i]? = some gb ∧ x = (f (k + i), gb.ren f)
  | [], k, x, h => by simp [upOf] at h
  | g0 :: l, k, x, h => by
    simp only [upOf, List.mem_cons] at h
    rcases h with rfl | h
    · exact ⟨0, g0, by simp, by simp⟩
    · obtain ⟨i, gb, h1, h2⟩ := upOf_mem h
      exact ⟨i + 1, gb, by simpa using h1, by rw [h2, show k + 1 + i = k + (i + 1) by omega]⟩
theorem upOf_has {f : Nat → Nat} : ∀ {H : List GB} {k i : Nat}, i < H.length → ∃ gb, (f (k + i), gb) ∈ upOf f k H
  | [], k, i, h => by simp at h
  | g0 :: l, k, 0, h => ⟨_, by simp [upOf]; exact .inl rfl⟩
  | g0 :: l, k, i + 1, h => by
    obtain ⟨gb, hm⟩ := upOf_has (f := f) (H := l) (k := k + 1) (i := i) (by simpa using h)
    exact ⟨gb, by rw [show k + (i + 1) = k + 1 + i by omega]; simp [upOf, hm]⟩
def rootsEq (f : Nat → Nat) (st : St) : Nat → List GB → Prop
  | _, [] => True
  | i, gb :: l => (lkG st.h (f i) = gb.ren f ∧ gb.lives = true) ∧ rootsEq f st (i + 1) l
theorem rootsEq_get {f : Nat → Nat} {st : St} : ∀ {H : List GB} {k i : Nat} {gb : GB}, rootsEq f st k H → H[i]? = some gb → lkG st.h (f (k + i)) = gb.ren f ∧ GB.lives gb = true
  | [], k, i, gb, _, h => by simp at h
  | g0 :: l, k, 0, gb, h, hi => by simp at hi; subst hi; exact h.1
  | g0 :: l, k, i + 1, gb, h, hi => by
    have := rootsEq_get h.2 (i := i) (by simpa using hi)
    rwa [show k + (i + 1) = k + 1 + i by omega]
def fnv : C → Option (Fn × List C)
  | .d (.fn f ds) => some (f, ds.map C.d)
  | .fn f cs => some (f, cs)
  | _ => none
def entB (P : Program) (f : Nat) : Bool := match P.funcs[f]? with
  | some fn => fn.body.isSome && !(fn.name == "runtime.NumGoroutine")
  | none => false
def ltA (n : Nat) : List SV → Bool
  | [] => true
  | sv :: l => sv.lt n && ltA n l
section
variable {P : Program} {g : Gh} {st : St} {sv : SV}
theorem ASLe.rep {a : Act} {w : World} {S : Foot} {ρ : Env} {F : Nat → Foot} {ld : List Nat} {as as' : List SV} (hl : ASLe st.h ld as as') (h : Rel g st a w S ρ F) : ∀ {vs : List Value}, RepA w S ρ as vs → RepA w (S.or (chF F ld)) ρ as' vs := by
  induction hl with
  | nil => exact fun h => h
  | cons a b ih =>
    intro vs hc
    simp only [RepA] at hc
    obtain ⟨v, us, rfl, h1, h2⟩ := hc
    exact ⟨v, us, rfl, a.rep h h1, ih h2⟩
theorem repA_ren {w : World} {S : Foot} {ρ ρ' : Env} {f : Nat → Nat} {n : Nat} (hr : ∀ i, i < n → ρ' i = ρ (f i)) : ∀ {as : List SV} {vs : List Value}, RepA w S ρ (as.map (SV.ren f)) vs → ltA n as = true → RepA w S ρ' as vs
  | [], vs, h, _ => h
  | sv :: l, vs, h, hl => by
    simp only [List.map_cons, RepA] at h
    simp only [ltA, Bool.and_eq_true] at hl
    obtain ⟨v, us, rfl, h1, h2⟩ := h
    exact ⟨v, us, rfl, RepS.ltE hr (RepS.ren.1 h1) hl.1, repA_ren hr h2 hl.2⟩
theorem repA_opd {a : Act} {w : World} {S : Foot} {ρ : Env} {F : Nat → Foot} (h : Rel g st a w S ρ F) : ∀ (xs : List Operand), RepA w S ρ (xs.map (opd st)) (xs.map a.eval)
  | [] => rfl
  | x :: xs => ⟨_, _, rfl, h.opd x, repA_opd h xs⟩
theorem repA_app {w : World} {S : Foot} {ρ : Env} : ∀ {as bs : List SV} {vs us : List Value}, RepA w S ρ as vs → RepA w S ρ bs us → RepA w S ρ (as ++ bs) (vs ++ us)
  | [], bs, vs, us, h, h' => by simp only [RepA] at h; subst h; exact h'
  | sv :: l, bs, vs, us, h, h' => by
    simp only [RepA] at h
    obtain ⟨v, vs', rfl, h1, h2⟩ := h
    exact ⟨v, vs' ++ us, rfl, h1, repA_app h2 h'⟩
theorem repA_one {w : World} {S : Foot} {ρ : Env} : ∀ {cs : List C} {vs : List Value}, RepCs w S ρ cs vs → RepA w S ρ (cs.map .one) vs
  | [], vs, h => h
  | c :: cs, vs, h => by
    simp only [RepCs] at h
    obtain ⟨v, us, rfl, h1, h2⟩ := h
    exact ⟨v, us, rfl, h1, repA_one h2⟩
theorem fnv_eval {w : World} {S : Foot} {ρ : Env} {c : C} {v : Value} {f : Fn} {cap : List C} (h : RepC w S ρ c v) (hv : fnv c = some (f, cap)) : ∃ vs, v = .func f #[] vs ∧ RepCs w S ρ cap vs.toList := by
  unfold fnv at hv
  split at hv
  · simp only [Option.some.injEq, Prod.mk.injEq] at hv
    obtain ⟨rfl, rfl⟩ := hv
    simp only [RepC, Rep] at h
    obtain ⟨vs, rfl, h⟩ := h
    exact ⟨vs, rfl, repCs_d h⟩
  · simp only [Option.some.injEq, Prod.mk.injEq] at hv
    obtain ⟨rfl, rfl⟩ := hv
    simp only [RepC] at h
    obtain ⟨vs, rfl, h⟩ := h
    exact ⟨vs, rfl, h⟩
  · cases hv

/-- A call of a function with a contract, as it is entered. -/
theorem call_core {f m : Nat} {as args : List SV} {H H' : List GB} {res : SV} {θ ld : List Nat} {up : List (Nat × GB)} {o : Oper}
    (hD : Does P f as H res H') (ha : ASLe st.h ld args (as.map (SV.ren (calF θ m)))) (hH : rootsEq (calF θ m) st 0 H) (hk : H.length = θ.length) (hθ : nodupB θ = true) (hm : θ.all (fun t => Nat.blt t m) = true) (hld : ld.all (fun i => !(θ.any (Nat.beq i))) = true)
    (hpl : ld = [] ∨ (res.plain ∧ plainH H')) (hlt : ltA H.length as = true) (hltH : allG H.length H = true) (hltr : res.lt H'.length = true) (hltH' : allG H'.length H' = true) (hsv : res.ren (calF θ m) = sv) (hup : upOf (calF θ m) 0 H' = up)
    (hrun : ∀ a w S ρ F, Rel g st a w S ρ F → ∃ vs, (execOp a.eval o).run P w = .ok (.enter f vs.toArray) w ∧ RepA w S ρ args vs) : Acts P g o st sv θ up := by
  subst hsv hup
  refine ⟨fun a w S ρ F h hfr K Q hK => ?_⟩
  obtain ⟨vs, hr1, hr2⟩ := hrun a w S ρ F h
  have hA := ha.rep h hr2
  let k := θ.length
  let Sc : Foot := S.or (chF F ld)
  have cal1 : ∀ i, i < k → calF θ m i = thF θ i := fun i hi => by
    rw [calF_eq]
    have : Nat.blt i θ.length = true := Nat.ble_eq_true_of_le hi
    rw [this]; rfl
  have cal2 : ∀ i, k ≤ i → calF θ m i = m + (i - k) := fun i hi => by
    rw [calF_eq]
    have : Nat.blt i θ.length = false := by
      cases hb : Nat.blt i θ.length with
      | false => rfl
      | true => have := blt_lt hb; omega
    rw [this]; rfl
  have thmem : ∀ i, i < k → thF θ i ∈ θ := fun i hi => by simp [thF, show i < θ.length from hi]
  have thlt : ∀ i, i < k → thF θ i < m := fun i hi => blt_lt ((List.all_eq_true.1 hm) _ (thmem i hi))
  have calinj : ∀ i j, i ≠ j → calF θ m i ≠ calF θ m j := by
    intro i j hij
    rcases Nat.lt_or_ge i k with hi | hi <;> rcases Nat.lt_or_ge j k with hj | hj
    · rw [cal1 i hi, cal1 j hj]; exact nodupB_inj hθ i j hi hj hij
    · rw [cal1 i hi, cal2 j hj]; have := thlt i hi; omega
    · rw [cal2 i hi, cal1 j hj]; have := thlt j hj; omega
    · rw [cal2 i hi, cal2 j hj]; omega
  have live : ∀ i, i < k → ∃ u, ρ (thF θ i) = some u := by
    intro i hi
    have hi' : i < H.length := by rw [hk]; exact hi
    obtain ⟨e1, e2⟩ := rootsEq_get hH (List.getElem?_eq_getElem hi')
    rw [Nat.zero_add, cal1 i hi] at e1
    rcases h.root (thF θ i) with r0 | ⟨u, r1, _⟩
    · rw [e1] at r0
      cases hg : H[i] <;> rw [hg] at r0 e2 <;> simp [GB.ren, GB.lives] at r0 e2
    · exact ⟨u, r1⟩
  let ρc : Env := fun i => if i < k then ρ (thF θ i) else none
  let Fc : Nat → Foot := fun i => F (thF θ i)
  have hrc : ∀ i, i < H.length → ρc i = ρ (calF θ m i) := fun i hi => by
    have hi' : i < k := by rw [hk] at hi; exact hi
    simp only [ρc, if_pos hi', cal1 i hi']
  have hldθ : ∀ j ∈ ld, ∀ i, i < k → j ≠ thF θ i := by
    intro j hj i hi e
    have := (List.all_eq_true.1 hld) j hj
    simp only [Bool.not_eq_true', List.any_eq_false] at this
    exact this _ (thmem i hi) (by rw [e]; simp)
  have hdisSc : ∀ i, i < k → Foot.dis (F (thF θ i)) Sc := by
    intro i hi b o hb hs
    rcases hs with hs | ⟨j, hj, hs⟩
    · exact h.disS _ b o hb hs
    · exact h.dis _ _ (hldθ j hj i hi).symm b o hb hs
  have hgiven : Given w Sc ρc Fc H := by
    refine ⟨fun i gb hi => ?_, fun i hi => if_neg (by rw [hk] at hi; exact Nat.not_lt.2 hi), fun i j hi hj hij => ?_, fun i hi => ?_, fun i hi => h.ex _, fun b o hb => ?_⟩
    · have hil : i < H.length := (List.getElem?_eq_some_iff.1 hi).1
      have hik : i < k := by rw [hk] at hil; exact hil
      obtain ⟨e1, e2⟩ := rootsEq_get hH hi
      rw [Nat.zero_add] at e1
      rcases h.root (calF θ m i) with r0 | ⟨u, r1, r2⟩
      · rw [e1] at r0
        refine .inl ?_
        cases gb <;> first | rfl | (simp [GB.ren] at r0)
      · rw [e1] at r2
        refine .inr ⟨u, (hrc i hil).trans r1, ?_⟩
        rw [cal1 i hik] at r2
        exact (RepG.ltE hrc (RepG.ren.1 r2) (allG_get hltH hi)).keep (Agree.refl _ _) (Agree.refl _ _) (le_or_left _ _) (Env.le.refl _) (le_refl _)
    · exact h.dis _ _ (nodupB_inj hθ i j (by rw [hk] at hi; exact hi) (by rw [hk] at hj; exact hj) hij)
    · exact hdisSc i (by rw [hk] at hi; exact hi)
    · exact hb.elim (h.exS b o) (fun ⟨j, _, hj⟩ => h.ex j b o hj)
  have hcall := hD vs w Sc ρc Fc (repA_ren hrc hA hlt) hgiven
  unfold Oper.wp
  rw [hr1, Oper.upon_enter]
  refine Calls.mono hcall ?_
  rintro e w' ⟨v, S1, ρ', F', rfl, hret, hres⟩
  have hup : upTo Fc H.length = chF F θ := by
    funext b o
    refine propext ⟨fun ⟨i, hi, hb⟩ => ⟨_, thmem i (by rw [hk] at hi; exact hi), hb⟩, fun ⟨t, ht, hb⟩ => ?_⟩
    obtain ⟨i, hi, rfl⟩ := List.getElem_of_mem ht
    refine ⟨i, by rw [hk]; exact hi, ?_⟩
    simp only [Fc, thF, List.getD_eq_getElem?_getD, List.getElem?_eq_getElem hi, Option.getD_some]
    exact hb
  let ρ2 : Env := fun i => if m ≤ i ∧ i < m + (H'.length - k) then ρ' (k + (i - m)) else ρ i
  let F2 : Nat → Foot := fun x b o => ∃ j, j < H'.length ∧ calF θ m j = x ∧ F' j b o
  have hF2 : ∀ j, j < H'.length → F2 (calF θ m j) = F' j := fun j hj => by
    funext b o
    refine propext ⟨fun ⟨j', h1, h2, h3⟩ => ?_, fun h => ⟨j, hj, rfl, h⟩⟩
    by_cases e : j' = j
    · rw [← e]; exact h3
    · exact absurd h2 (calinj j' j e)
  have hkl : k ≤ H'.length := by have := hret.len; omega
  have hρ2 : ∀ j, j < H'.length → ρ' j = ρ2 (calF θ m j) := by
    intro j hj
    rcases Nat.lt_or_ge j k with hjk | hjk
    · obtain ⟨u, hu⟩ := live j hjk
      have h1 := hret.old j u (by rw [hk]; exact hjk) (by simp only [ρc, if_pos hjk]; exact hu)
      have h2 := thlt j hjk
      simp only [ρ2, cal1 j hjk]
      rw [if_neg (by omega), h1, hu]
    · simp only [ρ2, cal2 j hjk]
      rw [if_pos (by omega), show k + (m + (j - k) - m) = j by omega]
  have hnew : ∀ j, k ≤ j → j < H'.length → ρ (m + (j - k)) = none := by
    intro j hj1 hj2
    obtain ⟨gb, hmem⟩ := upOf_has (f := calF θ m) (H := H') (k := 0) (i := j) hj2
    rw [Nat.zero_add, cal2 j hj1] at hmem
    rcases hfr _ hmem with h1 | h1
    · have := blt_lt ((List.all_eq_true.1 hm) _ h1)
      simp only at this
      omega
    · exact h1
  have hdone : Done w w' S S1 ρ ρ2 F F2 θ (upOf (calF θ m) 0 H') := by
    refine ⟨fun t ht => ?_, by rw [← hup]; exact hret.keeps, by rw [← hup]; exact hret.newS, hret.exS, fun i u hu => ?_, fun i hi hn => ?_, fun x hx => ?_, fun x hx => ?_, fun x hx => ?_, fun x hx => ?_, fun x hx y hy hxy => ?_⟩
    · obtain ⟨i, hi, rfl⟩ := List.getElem_of_mem ht
      obtain ⟨gb, hmem⟩ := upOf_has (f := calF θ m) (H := H') (k := 0) (i := i) (by omega)
      rw [Nat.zero_add, cal1 i hi] at hmem
      refine ⟨gb, ?_⟩
      have : thF θ i = θ[i] := by simp [thF, hi]
      rwa [this] at hmem
    · by_cases hc : m ≤ i ∧ i < m + (H'.length - k)
      · have := hnew (k + (i - m)) (by omega) (by omega)
        rw [show m + (k + (i - m) - k) = i by omega, hu] at this
        cases this
      · simp only [ρ2, if_neg hc]; exact hu
    · by_cases hc : m ≤ i ∧ i < m + (H'.length - k)
      · obtain ⟨gb, hmem⟩ := upOf_has (f := calF θ m) (H := H') (k := 0) (i := k + (i - m)) (by omega)
        rw [Nat.zero_add, cal2 _ (by omega), show m + (k + (i - m) - k) = i by omega] at hmem
        exact absurd hmem (hn gb)
      · simp only [ρ2, if_neg hc]; exact hi
    · obtain ⟨i, gb, h1, rfl⟩ := upOf_mem hx
      rw [Nat.zero_add]
      have hil : i < H'.length := (List.getElem?_eq_some_iff.1 h1).1
      rcases hret.roots i gb h1 with r0 | ⟨u, r1, r2⟩
      · refine .inl ?_
        rw [r0]; rfl
      · refine .inr ⟨u, (hρ2 i hil).symm.trans r1, ?_⟩
        show RepG w' (S.or S1) ρ2 (gb.ren (calF θ m)) u (F2 (calF θ m i))
        rw [hF2 i hil]
        refine RepG.ren.2 (RepG.ltE (ρ := ρ') (fun j hj => (hρ2 j hj).symm) ?_ (allG_get hltH' h1))
        rcases hpl with rfl | ⟨_, hp⟩
        · have : Sc = S := by show S.or (chF F []) = S; rw [chF_nil, or_no]
          rw [this] at r2
          exact r2
        · exact r2.plain (plainH_get hp h1)
    · obtain ⟨i, gb, h1, rfl⟩ := upOf_mem hx
      rw [Nat.zero_add]
      have hil : i < H'.length := (List.getElem?_eq_some_iff.1 h1).1
      show le (F2 (calF θ m i)) _
      rw [hF2 i hil, ← hup]
      exact hret.own i hil
    · obtain ⟨i, gb, h1, rfl⟩ := upOf_mem hx
      rw [Nat.zero_add]
      have hil : i < H'.length := (List.getElem?_eq_some_iff.1 h1).1
      show ∀ b o, F2 (calF θ m i) b o → _
      rw [hF2 i hil]
      exact hret.ex i hil
    · obtain ⟨i, gb, h1, rfl⟩ := upOf_mem hx
      rw [Nat.zero_add]
      have hil : i < H'.length := (List.getElem?_eq_some_iff.1 h1).1
      show Foot.dis (F2 (calF θ m i)) S1
      rw [hF2 i hil]
      exact hret.disS i hil
    · obtain ⟨i, gb, h1, rfl⟩ := upOf_mem hx
      obtain ⟨j, gb', h2, rfl⟩ := upOf_mem hy
      simp only [Nat.zero_add] at hxy ⊢
      have hil : i < H'.length := (List.getElem?_eq_some_iff.1 h1).1
      have hjl : j < H'.length := (List.getElem?_eq_some_iff.1 h2).1
      rw [hF2 i hil, hF2 j hjl]
      exact hret.dis i j hil hjl (fun e => hxy (by rw [e]))
  refine hK v w' S1 ρ2 F2 hdone (RepS.ren.2 (RepS.ltE (ρ := ρ') (fun j hj => (hρ2 j hj).symm) ?_ hltr))
  rcases hpl with rfl | ⟨hp, _⟩
  · have : Sc = S := by show S.or (chF F []) = S; rw [chF_nil, or_no]
    rw [this] at hres
    exact hres
  · exact hres.plain hp

variable {dst : Option Tmp} {ty : TypeId} {pos : String} {after : Array Edge} {guard : Option (Nat × Bool)} {x : Operand}
theorem run_callFunc {f : Nat} (hE : entB P f = true) (args : Array Value) (w : World) : (callFunc f args).run P w = .ok (.enter f args) w := by
  unfold entB at hE
  split at hE
  · rename_i fn hf
    simp only [Bool.and_eq_true, Bool.not_eq_true'] at hE
    obtain ⟨h1, h2⟩ := hE
    have h1' : fn.body.isNone = false := by cases hb : fn.body <;> simp_all
    have h3 : ¬ fn.name = "runtime.NumGoroutine" := by simpa using h2
    have h4 : ¬ fn.body = none := by intro e; rw [e] at h1; cases h1
    simp [callFunc, program, Sem.run, hf, h3, h4]
  · cases hE
theorem a_call {f m : Nat} {c0 : C} {cap : List C} {xs : List Operand} {Ts : Array TypeId} {as : List SV} {H H' : List GB} {res : SV} {θ ld : List Nat} {up : List (Nat × GB)}
    (hD : Does P f as H res H') (hc : opd st x = .one c0) (hv : fnv c0 = some (.func f, cap)) (hE : entB P f = true)
    (ha : ASLe st.h ld (xs.map (opd st) ++ cap.map .one) (as.map (SV.ren (calF θ m)))) (hH : rootsEq (calF θ m) st 0 H) (hk : H.length = θ.length) (hθ : nodupB θ = true) (hm : θ.all (fun t => Nat.blt t m) = true) (hld : ld.all (fun i => !(θ.any (Nat.beq i))) = true)
    (hpl : ld = [] ∨ (res.plain ∧ plainH H')) (hlt : ltA H.length as = true) (hltH : allG H.length H = true) (hltr : res.lt H'.length = true) (hltH' : allG H'.length H' = true) (hsv : res.ren (calF θ m) = sv) (hup : upOf (calF θ m) 0 H' = up) :
    Acts P g ⟨dst, .call { callee := .value x, args := xs.toArray, argTypes := Ts }, ty, pos, after, guard⟩ st sv θ up := by
  refine call_core hD ha hH hk hθ hm hld hpl hlt hltH hltr hltH' hsv hup fun a w S ρ F h => ?_
  obtain ⟨vs, e1, e2⟩ := fnv_eval (opd_one h hc) hv
  refine ⟨xs.map a.eval ++ vs.toList, ?_, repA_app (repA_opd h xs) (repA_one e2)⟩
  have : (execOp a.eval ⟨dst, .call { callee := .value x, args := xs.toArray, argTypes := Ts }, ty, pos, after, guard⟩).run P w = (callFunc f ((xs.map a.eval).toArray ++ vs)).run P w := by
    simp [execOp, resolve, e1, Deferred.ofValue, invoke]
  rw [this, run_callFunc hE]
  congr 2
  simp
/-- A call of a method through an interface value. -/
theorem a_invk {f m Ty : Nat} {c1 : C} {name : String} {xs : List Operand} {Ts : Array TypeId} {as : List SV} {H H' : List GB} {res : SV} {θ ld : List Nat} {up : List (Nat × GB)}
    (hD : Does P f as H res H') (hc : opd st x = .one (.ifc Ty false [c1])) (hM : ∀ (v : Value) (w : World), (method (P.types.size + Made.depth) Ty v name).run P w = .ok (f, v) w) (hE : entB P f = true)
    (ha : ASLe st.h ld (.one c1 :: xs.map (opd st)) (as.map (SV.ren (calF θ m)))) (hH : rootsEq (calF θ m) st 0 H) (hk : H.length = θ.length) (hθ : nodupB θ = true) (hm : θ.all (fun t => Nat.blt t m) = true) (hld : ld.all (fun i => !(θ.any (Nat.beq i))) = true)
    (hpl : ld = [] ∨ (res.plain ∧ plainH H')) (hlt : ltA H.length as = true) (hltH : allG H.length H = true) (hltr : res.lt H'.length = true) (hltH' : allG H'.length H' = true) (hsv : res.ren (calF θ m) = sv) (hup : upOf (calF θ m) 0 H' = up) :
    Acts P g ⟨dst, .call { callee := .invoke x name, args := xs.toArray, argTypes := Ts }, ty, pos, after, guard⟩ st sv θ up := by
  refine call_core hD ha hH hk hθ hm hld hpl hlt hltH hltr hltH' hsv hup fun a w S ρ F h => ?_
  have h1 := opd_one h hc
  simp only [RepC, Bool.false_eq_true, if_false] at h1
  obtain ⟨u, e1, h2⟩ := h1
  simp only [RepCs] at h2
  obtain ⟨v, us, e2, h3, h4⟩ := h2
  simp only [List.cons.injEq] at e2
  obtain ⟨rfl, rfl⟩ := e2
  refine ⟨u :: xs.map a.eval, ?_, ⟨u, _, rfl, h3, repA_opd h xs⟩⟩
  have : (execOp a.eval ⟨dst, .call { callee := .invoke x name, args := xs.toArray, argTypes := Ts }, ty, pos, after, guard⟩).run P w = (callFunc f (u :: xs.map a.eval).toArray).run P w := by
    have e3 : (#[Value.iface Ty u] ++ (xs.map a.eval).toArray).extract 1 (#[Value.iface Ty u] ++ (xs.map a.eval).toArray).size = (xs.map a.eval).toArray := by
      simp only [List.append_toArray, List.singleton_append, List.extract_toArray, List.extract_eq_take_drop, List.size_toArray, List.length_cons, List.length_map, Nat.add_sub_cancel, List.drop_succ_cons, List.drop_zero]
      congr 1
      exact List.take_of_length_le (by simp)
    have e4 : (callMethod (Value.iface Ty u) name (xs.map a.eval).toArray).run P w = (callFunc f (u :: xs.map a.eval).toArray).run P w := by
      show (do let (f, receiver) ← method ((← program).types.size + Made.depth) Ty u name; callFunc f (#[receiver] ++ (xs.map a.eval).toArray) : Sem Next).run P w = _
      rw [Sem.run_bind, run_program, Result.andThen_ok, Sem.run_bind, hM, Result.andThen_ok]
      simp
    rw [← e4]
    show (do let d ← resolve a.eval { callee := .invoke x name, args := xs.toArray, argTypes := Ts } ty; invoke d.target d.args : Sem Next).run P w = _
    have e5 : (resolve a.eval { callee := .invoke x name, args := xs.toArray, argTypes := Ts } ty) = pure { target := .fn (.method name) #[], args := #[Value.iface Ty u] ++ (xs.map a.eval).toArray } := by
      simp only [resolve, e1, List.map_toArray]
    rw [e5, pure_bind]
    show (invoke (.fn (.method name) #[]) (#[Value.iface Ty u] ++ (xs.map a.eval).toArray)).run P w = _
    simp only [invoke]
    have e6 : (#[Value.iface Ty u] ++ (xs.map a.eval).toArray)[0]? = some (Value.iface Ty u) := by simp
    rw [e6]
    simp only []
    rw [e3]
  rw [this, run_callFunc hE]
/-- A call in a forced order. -/
theorem a_callS {f : Nat} {c0 : C} {cap : List C} {xs : List Operand} {Ts : Array TypeId} {as : List SV} {H H' : List GB} {res : SV} {θ ld : List Nat} {t : List (Nat × SV)} {h : List (Nat × GB)} {n : Nat}
    (hD : Does P f as H res H') (hc : opd ⟨t, h, n⟩ x = .one c0) (hv : fnv c0 = some (.func f, cap)) (hE : entB P f = true)
    (ha : ASLe h ld (xs.map (opd ⟨t, h, n⟩) ++ cap.map .one) (as.map (SV.ren (calF θ n)))) (hH : rootsEq (calF θ n) ⟨t, h, n⟩ 0 H) (hk : H.length = θ.length) (hθ : nodupB θ = true) (hm : θ.all (fun t => Nat.blt t n) = true) (hld : ld.all (fun i => !(θ.any (Nat.beq i))) = true)
    (hpl : ld = [] ∨ (res.plain ∧ plainH H')) (hlt : ltA H.length as = true) (hltH : allG H.length H = true) (hltr : res.lt H'.length = true) (hltH' : allG H'.length H' = true) :
    Acts P g ⟨dst, .call { callee := .value x, args := xs.toArray, argTypes := Ts }, ty, pos, after, guard⟩ ⟨t, h, n⟩ (res.ren (calF θ n)) θ (upOf (calF θ n) 0 H') :=
  a_call hD hc hv hE ha hH hk hθ hm hld hpl hlt hltH hltr hltH' rfl rfl
end
end Go.Proofs.Ytncccjpbaeaafaa
