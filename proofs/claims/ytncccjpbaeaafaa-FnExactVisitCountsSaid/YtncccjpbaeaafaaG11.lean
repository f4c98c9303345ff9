/- A region that draws its order: one walk in the order of the text serves every order. No program in sight. -/
import Derived.Test.YtncccjpbaeaafaaG10
set_option linter.unusedVariables false
set_option linter.unusedSimpArgs false
namespace Go.Proofs.Ytncccjpbaeaafaa
open Go Foot

def memB (x : Nat) (l : List Nat) : Bool := l.any (Nat.beq x)
theorem memB_iff {x : Nat} {l : List Nat} : memB x l = true ↔ x ∈ l := by
  unfold memB
  rw [List.any_eq_true]
  exact ⟨fun ⟨y, h1, h2⟩ => by rw [Nat.eq_of_beq_eq_true h2]; exact h1, fun h => ⟨x, h, by simp⟩⟩
theorem memB_not {x : Nat} {l : List Nat} (h : memB x l = false) : x ∉ l := fun hm => by rw [memB_iff.2 hm] at h; cases h
def dirs (o : Oper) : List Nat := (o.after.toList.filter fun e => Region.binds .any e).map Edge.on
/-- `bf`: what certainly comes before an operation. -/
def befOk (bf : List (List Nat)) : Nat → List Oper → Bool
  | _, [] => true
  | i, o :: l => (dirs o).all (fun k => Nat.blt k i) && (bf.getD i []).all (fun k => Nat.blt k i && (memB k (dirs o) || (dirs o).any (fun d => memB k (bf.getD d [])))) && befOk bf (i + 1) l
def unord (bf : List (List Nat)) (i j : Nat) : Bool := !Nat.beq i j && !memB i (bf.getD j []) && !memB j (bf.getD i [])
def dstNe (a b : Option Nat) : Bool := match a, b with
  | some x, some y => !Nat.beq x y
  | _, _ => true
def disB (l m : List Nat) : Bool := l.all fun x => !memB x m
structure Rs where
  dst : Option Nat
  sv : SV
  ch : List Nat
  up : List (Nat × GB)
/-- New roots and changed roots of each operation. -/
abbrev Keys := List (List Nat × List Nat)
def Keys.nw (kk : Keys) (i : Nat) : List Nat := (kk.getD i ([], [])).1
def Keys.ck (kk : Keys) (i : Nat) : List Nat := (kk.getD i ([], [])).2
def pairOk (bf : List (List Nat)) (kk : Keys) (i j : Nat) (oi oj : Oper) : Bool :=
  disB (kk.nw i) (kk.nw j) && (disB (kk.ck i) (kk.nw j) || memB j (bf.getD i [])) && (!unord bf i j || (dstNe oi.dst oj.dst && disB (kk.nw i ++ kk.ck i) (kk.nw j ++ kk.ck j)))
def rowOk (bf : List (List Nat)) (kk : Keys) (i : Nat) (oi : Oper) : Nat → List Oper → Bool
  | _, [] => true
  | j, oj :: l => (Nat.beq i j || pairOk bf kk i j oi oj) && rowOk bf kk i oi (j + 1) l
def indepOk (bf : List (List Nat)) (kk : Keys) (ops : List Oper) : Nat → List Oper → Bool
  | _, [] => true
  | i, o :: l => rowOk bf kk i o 0 ops && indepOk bf kk ops (i + 1) l
def newOk (n n' : Nat) : Keys → Bool
  | [] => Nat.ble n n'
  | (nw, ck) :: l => nw.all (fun x => Nat.ble n x && Nat.blt x n') && ck.all (fun x => Nat.blt x n') && newOk n n' l
def mixT (D : Nat → Bool) : Nat → List Rs → List (Nat × SV) → List (Nat × SV)
  | _, [], t => t
  | i, r :: l, t => mixT D (i + 1) l (bif D i then (match r.dst with | some d => (d, r.sv) :: t | none => t) else t)
def mixH (D : Nat → Bool) : Nat → List Rs → List (Nat × GB) → List (Nat × GB)
  | _, [], t => t
  | i, r :: l, t => mixH D (i + 1) l (bif D i then r.up ++ t else t)
def maskT (bf : List (List Nat)) (i : Nat) : Nat → List Oper → List (Nat × SV) → List (Nat × SV)
  | _, [], t => t
  | j, o :: l, t => bif unord bf i j then (match o.dst with | some d => (d, .any) :: maskT bf i (j + 1) l t | none => maskT bf i (j + 1) l t) else maskT bf i (j + 1) l t
def deadL : List Nat → List (Nat × GB) → List (Nat × GB)
  | [], t => t
  | x :: l, t => (x, .dead) :: deadL l t
def maskH (bf : List (List Nat)) (kk : Keys) (i : Nat) : Nat → List Oper → List (Nat × GB) → List (Nat × GB)
  | _, [], t => t
  | j, o :: l, t => bif unord bf i j then deadL (kk.nw j ++ kk.ck j) (maskH bf kk i (j + 1) l t) else maskH bf kk i (j + 1) l t
/-- What operation `i` may lean on. -/
def minSt (bf : List (List Nat)) (kk : Keys) (ops : List Oper) (st : St) (rs : List Rs) (i : Nat) : St :=
  ⟨maskT bf i 0 ops (mixT (fun k => memB k (bf.getD i [])) 0 rs st.t), maskH bf kk i 0 ops (mixH (fun k => memB k (bf.getD i [])) 0 rs st.h), st.n⟩
def upIn (l : List Nat) : List (Nat × GB) → Prop
  | [] => True
  | (x, _) :: r => x ∈ l ∧ upIn l r
theorem upIn_mem {l : List Nat} : ∀ {up : List (Nat × GB)}, upIn l up → ∀ x ∈ up, x.1 ∈ l
  | [], _, _, h => by simp at h
  | (i, _) :: r, h, x, hx => by
    rcases List.mem_cons.1 hx with rfl | hx
    · exact h.1
    · exact upIn_mem h.2 x hx
/-- One operation. -/
def OpOk (P : Program) (g : Gh) (bf : List (List Nat)) (kk : Keys) (ops : List Oper) (st : St) (rs : List Rs) (i : Nat) (o : Oper) (r : Rs) : Prop :=
  r.dst = o.dst ∧ (∀ d, o.dst = some d → d < g.n) ∧ r.ch = kk.ck i ∧ upIn (kk.nw i ++ kk.ck i) r.up ∧
  ((o.guard = none ∧ Acts P g o (minSt bf kk ops st rs i) r.sv r.ch r.up) ∨
   (∃ j d b, o.guard = some (j, b) ∧ ((ops.toArray)[j]?).bind (·.dst) = some d ∧ d < g.n ∧ lkS (minSt bf kk ops st rs i).t d = .one (.d (.sc (.bool b))) ∧ Acts P g o (minSt bf kk ops st rs i) r.sv r.ch r.up) ∨
   (∃ j d b, o.guard = some (j, b) ∧ ((ops.toArray)[j]?).bind (·.dst) = some d ∧ d < g.n ∧ skips b (lkS (minSt bf kk ops st rs i).t d) = true ∧ r.sv = .tup [] ∧ r.up = [] ∧ r.ch = []))
def GDraw (P : Program) (g : Gh) (bf : List (List Nat)) (kk : Keys) (ops : List Oper) (st : St) (n' : Nat) (Q : Exit → St → Prop) : List Oper → List Rs → Prop
  | [], rs => Q .normal ⟨mixT (fun _ => true) 0 rs st.t, mixH (fun _ => true) 0 rs st.h, n'⟩
  | o :: l, rs => ∃ r, OpOk P g bf kk ops st rs rs.length o r ∧ GDraw P g bf kk ops st n' Q l (rs ++ [r])

section
theorem mixT_app (D : Nat → Bool) : ∀ (l m : List Rs) (i : Nat) (t : List (Nat × SV)), mixT D i (l ++ m) t = mixT D (i + l.length) m (mixT D i l t)
  | [], m, i, t => rfl
  | r :: l, m, i, t => by simp only [List.cons_append, mixT, List.length_cons]; rw [mixT_app D l m (i + 1)]; congr 1; omega
theorem mixH_app (D : Nat → Bool) : ∀ (l m : List Rs) (i : Nat) (t : List (Nat × GB)), mixH D i (l ++ m) t = mixH D (i + l.length) m (mixH D i l t)
  | [], m, i, t => rfl
  | r :: l, m, i, t => by simp only [List.cons_append, mixH, List.length_cons]; rw [mixH_app D l m (i + 1)]; congr 1; omega
theorem mixT_no {D : Nat → Bool} : ∀ (l : List Rs) (i : Nat) (t : List (Nat × SV)), (∀ k, i ≤ k → D k = false) → mixT D i l t = t
  | [], i, t, _ => rfl
  | r :: l, i, t, h => by simp only [mixT, h i (Nat.le_refl _), cond_false]; exact mixT_no l (i + 1) t (fun k hk => h k (by omega))
theorem mixH_no {D : Nat → Bool} : ∀ (l : List Rs) (i : Nat) (t : List (Nat × GB)), (∀ k, i ≤ k → D k = false) → mixH D i l t = t
  | [], i, t, _ => rfl
  | r :: l, i, t, h => by simp only [mixH, h i (Nat.le_refl _), cond_false]; exact mixH_no l (i + 1) t (fun k hk => h k (by omega))
/-- Two sets that differ only in operations that do not touch the slot. -/
theorem mixT_agree {D E : Nat → Bool} {s : Nat} : ∀ (l : List Rs) (i : Nat) (t t' : List (Nat × SV)), lkS t s = lkS t' s → (∀ k r, l[k]? = some r → D (i + k) ≠ E (i + k) → r.dst ≠ some s) → lkS (mixT D i l t) s = lkS (mixT E i l t') s
  | [], i, t, t', ht, _ => ht
  | r :: l, i, t, t', ht, h => by
    simp only [mixT]
    refine mixT_agree l (i + 1) _ _ ?_ (fun k r' hk hne => h (k + 1) r' (by simpa using hk) (by rwa [show i + (k + 1) = i + 1 + k by omega]))
    have h0 := h 0 r (by simp)
    rw [Nat.add_zero] at h0
    cases hd : r.dst with
    | none => cases D i <;> cases E i <;> exact ht
    | some d =>
      cases hD : D i <;> cases hE : E i <;> simp only [cond_true, cond_false, lkS]
      · exact ht
      · have hne : s ≠ d := fun e => h0 (by rw [hD, hE]; decide) (by rw [hd, e])
        rw [beq_ne hne]; exact ht
      · have hne : s ≠ d := fun e => h0 (by rw [hD, hE]; decide) (by rw [hd, e])
        rw [beq_ne hne]; exact ht
      · rw [ht]
theorem mixH_agree {D E : Nat → Bool} {s : Nat} : ∀ (l : List Rs) (i : Nat) (t t' : List (Nat × GB)), lkG t s = lkG t' s → (∀ k r, l[k]? = some r → D (i + k) ≠ E (i + k) → ¬ keyIn r.up s) → lkG (mixH D i l t) s = lkG (mixH E i l t') s
  | [], i, t, t', ht, _ => ht
  | r :: l, i, t, t', ht, h => by
    simp only [mixH]
    refine mixH_agree l (i + 1) _ _ ?_ (fun k r' hk hne => h (k + 1) r' (by simpa using hk) (by rwa [show i + (k + 1) = i + 1 + k by omega]))
    have h0 := h 0 r (by simp)
    rw [Nat.add_zero] at h0
    have happ : ∀ (up : List (Nat × GB)) (a b : List (Nat × GB)), lkG a s = lkG b s → lkG (up ++ a) s = lkG (up ++ b) s := by
      intro up
      induction up with
      | nil => exact fun a b h => h
      | cons x up ih =>
        obtain ⟨j, gb⟩ := x
        intro a b h
        simp only [List.cons_append, lkG]
        rw [ih a b h]
    cases hD : D i <;> cases hE : E i <;> simp only [cond_true, cond_false]
    · exact ht
    · rw [lkG_append _ _ _ (h0 (by rw [hD, hE]; decide))]; exact ht
    · rw [lkG_append _ _ _ (h0 (by rw [hD, hE]; decide))]; exact ht
    · exact happ _ _ _ ht
theorem maskT_lk {bf : List (List Nat)} {i s : Nat} : ∀ (l : List Oper) (j : Nat) (t : List (Nat × SV)), lkS (maskT bf i j l t) s = .any ∨ (lkS (maskT bf i j l t) s = lkS t s ∧ ∀ k o, l[k]? = some o → unord bf i (j + k) = true → o.dst ≠ some s)
  | [], j, t => .inr ⟨rfl, by simp⟩
  | o :: l, j, t => by
    simp only [maskT]
    have ih := maskT_lk (bf := bf) (i := i) (s := s) l (j + 1) t
    have lift : (∀ k o, l[k]? = some o → unord bf i (j + 1 + k) = true → o.dst ≠ some s) → (unord bf i j = true → o.dst ≠ some s) → ∀ k o', (o :: l)[k]? = some o' → unord bf i (j + k) = true → o'.dst ≠ some s := by
      intro h1 h2 k o' hk hu
      cases k with
      | zero => simp at hk; subst hk; exact h2 hu
      | succ k => exact h1 k o' (by simpa using hk) (by rwa [show j + 1 + k = j + (k + 1) by omega])
    cases hu : unord bf i j with
    | false =>
      simp only [cond_false]
      exact ih.imp id (fun ⟨a, b⟩ => ⟨a, lift b (fun h => by rw [hu] at h; cases h)⟩)
    | true =>
      simp only [cond_true]
      cases hd : o.dst with
      | none => exact ih.imp id (fun ⟨a, b⟩ => ⟨a, lift b (fun _ => by rw [hd]; simp)⟩)
      | some d =>
        simp only [lkS]
        by_cases hs : s = d
        · subst hs
          have hb : Nat.beq s s = true := by simp
          rw [hb]
          exact .inl rfl
        · rw [beq_ne hs]
          exact ih.imp id (fun ⟨a, b⟩ => ⟨a, lift b (fun _ => by rw [hd]; simpa using fun e => hs e.symm)⟩)
theorem deadL_lk {s : Nat} : ∀ (l : List Nat) (t : List (Nat × GB)), lkG (deadL l t) s = .dead ∨ (lkG (deadL l t) s = lkG t s ∧ s ∉ l)
  | [], t => .inr ⟨rfl, by simp⟩
  | x :: l, t => by
    simp only [deadL, lkG]
    by_cases hs : s = x
    · subst hs
      have hb : Nat.beq s s = true := by simp
      rw [hb]
      exact .inl rfl
    · rw [beq_ne hs]
      exact (deadL_lk l t).imp id (fun ⟨a, b⟩ => ⟨a, by simp [hs, b]⟩)
theorem maskH_lk {bf : List (List Nat)} {kk : Keys} {i s : Nat} : ∀ (l : List Oper) (j : Nat) (t : List (Nat × GB)), lkG (maskH bf kk i j l t) s = .dead ∨ (lkG (maskH bf kk i j l t) s = lkG t s ∧ ∀ k, k < l.length → unord bf i (j + k) = true → s ∉ kk.nw (j + k) ++ kk.ck (j + k))
  | [], j, t => .inr ⟨rfl, by simp⟩
  | o :: l, j, t => by
    simp only [maskH]
    have ih := maskH_lk (bf := bf) (kk := kk) (i := i) (s := s) l (j + 1) t
    have lift : (∀ k, k < l.length → unord bf i (j + 1 + k) = true → s ∉ kk.nw (j + 1 + k) ++ kk.ck (j + 1 + k)) → (unord bf i j = true → s ∉ kk.nw j ++ kk.ck j) → ∀ k, k < (o :: l).length → unord bf i (j + k) = true → s ∉ kk.nw (j + k) ++ kk.ck (j + k) := by
      intro h1 h2 k hk hu
      cases k with
      | zero => exact h2 hu
      | succ k =>
        have := h1 k (by simpa using hk)
        rw [show j + 1 + k = j + (k + 1) by omega] at this
        exact this hu
    cases hu : unord bf i j with
    | false =>
      simp only [cond_false]
      exact ih.imp id (fun ⟨a, b⟩ => ⟨a, lift b (fun h => by rw [hu] at h; cases h)⟩)
    | true =>
      simp only [cond_true]
      rcases deadL_lk (s := s) (kk.nw j ++ kk.ck j) (maskH bf kk i (j + 1) l t) with h | ⟨h1, h2⟩
      · exact .inl h
      · rw [h1]
        exact ih.imp id (fun ⟨a, b⟩ => ⟨a, lift b (fun _ => h2)⟩)
/-- An operation put where it stands in the text, or last. -/
theorem mixT_last {D : Nat → Bool} {s d : Nat} {sv : SV} : ∀ (l : List Rs) (i : Nat) (t : List (Nat × SV)), (∀ k r, l[k]? = some r → D (i + k) = true → r.dst ≠ some d) → lkS (mixT D i l ((d, sv) :: t)) s = lkS ((d, sv) :: mixT D i l t) s
  | [], i, t, _ => rfl
  | r :: l, i, t, h => by
    simp only [mixT]
    have h0 := h 0 r (by simp)
    rw [Nat.add_zero] at h0
    have ih := fun t => mixT_last (D := D) (s := s) (d := d) (sv := sv) l (i + 1) t (fun k r' hk hd => h (k + 1) r' (by simpa using hk) (by rwa [show i + (k + 1) = i + 1 + k by omega]))
    cases hD : D i with
    | false => simp only [cond_false]; exact ih t
    | true =>
      simp only [cond_true]
      cases hr : r.dst with
      | none => simp only; exact ih t
      | some e =>
        simp only
        have hne : e ≠ d := fun he => h0 hD (by rw [hr, he])
        rw [← ih ((e, r.sv) :: t)]
        refine mixT_agree l (i + 1) _ _ ?_ (fun k r' _ hx => absurd rfl hx)
        simp only [lkS]
        by_cases h1 : s = e
        · have h2 : s ≠ d := fun e' => hne (h1.symm.trans e')
          rw [beq_ne h2]
          subst h1
          simp
        · by_cases h2 : s = d
          · subst h2; rw [beq_ne h1]; simp
          · rw [beq_ne h1, beq_ne h2]; simp
theorem mixH_last {D : Nat → Bool} {s : Nat} {up : List (Nat × GB)} : ∀ (l : List Rs) (i : Nat) (t : List (Nat × GB)), (∀ k r, l[k]? = some r → D (i + k) = true → ∀ x, keyIn up x → ¬ keyIn r.up x) → lkG (mixH D i l (up ++ t)) s = lkG (up ++ mixH D i l t) s
  | [], i, t, _ => rfl
  | r :: l, i, t, h => by
    simp only [mixH]
    have h0 := h 0 r (by simp)
    rw [Nat.add_zero] at h0
    have ih := fun t => mixH_last (D := D) (s := s) (up := up) l (i + 1) t (fun k r' hk hd => h (k + 1) r' (by simpa using hk) (by rwa [show i + (k + 1) = i + 1 + k by omega]))
    cases hD : D i with
    | false => simp only [cond_false]; exact ih t
    | true =>
      simp only [cond_true]
      rw [← ih (r.up ++ t)]
      refine mixH_agree l (i + 1) _ _ ?_ (fun k r' _ hx => absurd rfl hx)
      by_cases h1 : keyIn up s
      · have h2 := h0 hD s h1
        rw [lkG_append _ _ _ h2]
        have : ∀ (u a b : List (Nat × GB)), keyIn u s → lkG (u ++ a) s = lkG (u ++ b) s := by
          intro u
          induction u with
          | nil => rintro a b ⟨_, hm⟩; simp at hm
          | cons y u ih =>
            obtain ⟨j, gb⟩ := y
            intro a b hk
            simp only [List.cons_append, lkG]
            by_cases hj : s = j
            · subst hj; simp
            · rw [beq_ne hj]
              refine ih a b ?_
              obtain ⟨gb', hm⟩ := hk
              rcases List.mem_cons.1 hm with e | hm
              · exact absurd (Prod.mk.inj e).1 hj
              · exact ⟨gb', hm⟩
        exact this _ _ _ h1
      · rw [lkG_append up _ _ h1]
        by_cases h2 : keyIn r.up s
        · have : ∀ (u a b : List (Nat × GB)), lkG a s = lkG b s → lkG (u ++ a) s = lkG (u ++ b) s := by
            intro u
            induction u with
            | nil => exact fun a b h => h
            | cons x up ih =>
              obtain ⟨j, gb⟩ := x
              intro a b h
              simp only [List.cons_append, lkG]
              rw [ih a b h]
          exact this _ _ _ (lkG_append up t s h1)
        · rw [lkG_append _ _ _ h2, lkG_append _ _ _ h2, lkG_append _ _ _ h1]
end
end Go.Proofs.Ytncccjpbaeaafaa
