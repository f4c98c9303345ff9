/- What an operation does to the state; walks of code. No program in sight. -/
import Derived.Test.YtncccjpbaeaafaaG2
import Derived.Orders
set_option linter.unusedVariables false
set_option linter.unusedSimpArgs false
namespace Go.Proofs.Ytncccjpbaeaafaa
open Go Foot

def chF (F : Nat → Foot) (ch : List Nat) : Foot := fun b o => ∃ g ∈ ch, F g b o
/-- What an operation may have done: the roots `ch` changed, the roots `up` are known anew. -/
structure Done (w w' : World) (S S1 : Foot) (ρ ρ' : Env) (F F' : Nat → Foot) (ch : List Nat) (up : List (Nat × GB)) : Prop where
  cov : ∀ g ∈ ch, ∃ gb, (g, gb) ∈ up
  keeps : Keeps (chF F ch) w w'
  newS : le S1 (newOr w (chF F ch))
  exS : ∀ b o, S1 b o → b < w'.heap.size
  sub : Env.le ρ ρ'
  dom : ∀ i, ρ i = none → (∀ gb, (i, gb) ∉ up) → ρ' i = none
  rep : ∀ x ∈ up, x.2 = .dead ∨ ∃ u, ρ' x.1 = some u ∧ RepG w' (S.or S1) ρ' x.2 u (F' x.1)
  own : ∀ x ∈ up, le (F' x.1) (newOr w (chF F ch))
  ex : ∀ x ∈ up, ∀ b o, F' x.1 b o → b < w'.heap.size
  disS : ∀ x ∈ up, Foot.dis (F' x.1) S1
  dis : ∀ x ∈ up, ∀ y ∈ up, x.1 ≠ y.1 → Foot.dis (F' x.1) (F' y.1)
def keyIn (up : List (Nat × GB)) (i : Nat) : Prop := ∃ gb, (i, gb) ∈ up
open Classical in
noncomputable def mrg (F F' : Nat → Foot) (up : List (Nat × GB)) : Nat → Foot := fun i => if keyIn up i then F' i else F i
def St.eff (st : St) (dst : Option Nat) (sv : SV) (up : List (Nat × GB)) (n : Nat) : St :=
  ⟨match dst with | some d => (d, sv) :: st.t | none => st.t, up ++ st.h, n⟩
structure Acts (P : Program) (g : Gh) (o : Oper) (st : St) (sv : SV) (ch : List Nat) (up : List (Nat × GB)) : Prop where
  run : ∀ a w S ρ F, Rel g st a w S ρ F → (∀ x ∈ up, x.1 ∈ ch ∨ ρ x.1 = none) → ∀ K Q,
    (∀ v w' S1 ρ' F', Done w w' S S1 ρ ρ' F F' ch up → RepS w' (S.or S1) ρ' sv v → K (a.put o.dst v) w') → o.wp P a w K Q

theorem beq_ne {i j : Nat} (h : i ≠ j) : Nat.beq i j = false := by
  cases hb : Nat.beq i j with
  | false => rfl
  | true => exact absurd (Nat.eq_of_beq_eq_true hb) h
theorem getD_put (a : Act) {d : Nat} (v : Value) (hd : d < a.tmps.size) (i : Nat) : (a.put (some d) v).tmps.getD i undef = if i = d then v else a.tmps.getD i undef := by
  simp only [Act.put, Array.getD_eq_getD_getElem?]
  by_cases h : i = d
  · subst h
    simp [hd]
  · rw [Array.getElem?_setIfInBounds_ne (Ne.symm h)]
    simp [h]
theorem lkG_append (up h : List (Nat × GB)) (i : Nat) (hi : ¬ keyIn up i) : lkG (up ++ h) i = lkG h i := by
  induction up with
  | nil => rfl
  | cons x up ih =>
    obtain ⟨j, gb⟩ := x
    have hne : i ≠ j := fun e => hi ⟨gb, by subst e; simp⟩
    have hb : Nat.beq i j = false := beq_ne hne
    simp only [List.cons_append, lkG, hb, cond_false]
    exact ih fun ⟨gb', hm⟩ => hi ⟨gb', by simp [hm]⟩
theorem lkG_key (up h : List (Nat × GB)) (i : Nat) (hi : keyIn up i) : (i, lkG (up ++ h) i) ∈ up := by
  induction up with
  | nil => obtain ⟨_, hm⟩ := hi; simp at hm
  | cons x up ih =>
    obtain ⟨j, gb⟩ := x
    by_cases hne : i = j
    · subst hne
      have hb : Nat.beq i i = true := by simp
      simp [lkG, hb]
    · have hb : Nat.beq i j = false := beq_ne hne
      simp only [List.cons_append, lkG, hb, cond_false]
      refine List.mem_cons_of_mem _ (ih ?_)
      obtain ⟨gb', hm⟩ := hi
      rcases List.mem_cons.1 hm with e | hm
      · exact absurd (Prod.mk.inj e).1 hne
      · exact ⟨gb', hm⟩

section
variable {P : Program} {g : Gh} {st st' : St} {a a' : Act} {w w' : World} {S S1 : Foot} {ρ ρ' : Env} {F F' : Nat → Foot} {ch : List Nat} {up : List (Nat × GB)} {sv : SV} {o : Oper}

theorem Rel.done (h : Rel g st a w S ρ F) (hd : Done w w' S S1 ρ ρ' F F' ch up) {n : Nat} {dst : Option Nat} {v : Value} (hdst : ∀ d, dst = some d → d < g.n) (hv : RepS w' (S.or S1) ρ' sv v) :
    Rel g (st.eff dst sv up n) (a.put dst v) w' (S.or S1) ρ' (mrg F F' up) := by
  have hchF : ∀ i, ¬ keyIn up i → Foot.dis (F i) (chF F ch) := by
    rintro i hi b o hb ⟨j, hj, hjb⟩
    by_cases hij : i = j
    · subst hij; exact hi (hd.cov i hj)
    · exact h.dis i j hij b o hb hjb
  have hSch : Foot.dis S (chF F ch) := fun b o hs ⟨j, _, hj⟩ => h.disS j b o hj hs
  have hagS : Agree w w' S := hd.keeps.agree h.exS hSch
  have hagF : ∀ i, ¬ keyIn up i → Agree w w' (F i) := fun i hi => hd.keeps.agree (h.ex i) (hchF i hi)
  have hm1 : ∀ i, keyIn up i → mrg F F' up i = F' i := fun i hi => by simp [mrg, hi]
  have hm2 : ∀ i, ¬ keyIn up i → mrg F F' up i = F i := fun i hi => by simp [mrg, hi]
  have hnew : le (newOr w (chF F ch)) (newOr g.w0 g.F0) := by
    rintro b o (⟨j, _, hj⟩ | hb)
    · exact h.own j b o hj
    · exact .inr (Nat.le_trans h.old.size hb)
  have hFnew : ∀ i, ¬ keyIn up i → Foot.dis (F i) (newOr w (chF F ch)) := by
    rintro i hi b o hb (hc | hc)
    · exact hchF i hi b o hb hc
    · have := h.ex i b o hb; omega
  have hSnew : Foot.dis S (newOr w (chF F ch)) := by
    rintro b o hb (hc | hc)
    · exact hSch b o hb hc
    · have := h.exS b o hb; omega
  refine ⟨?_, ?_, fun i => ?_, fun i => ?_, fun i j hij => ?_, fun i => ?_, fun i => ?_, fun i b o hb => ?_, fun b o hb => ?_, ?_, ?_, fun b o hb => ?_, fun i u hi hu => hd.sub _ _ (h.pin i u hi hu)⟩
  · rw [← h.size]; cases dst <;> simp [Act.put]
  · rw [← h.defers]; cases dst <;> simp [Act.put]
  · cases dst with
    | none => exact (h.slot i).keep hagS (le_or_left _ _) hd.sub
    | some d =>
      rw [getD_put a v (by rw [h.size]; exact hdst d rfl)]
      simp only [St.eff, lkS]
      by_cases hi : i = d
      · subst hi
        have hb : Nat.beq i i = true := by simp
        simp only [hb, cond_true, if_true]
        exact hv
      · have hb : Nat.beq i d = false := beq_ne hi
        simp only [hb, cond_false, if_neg hi]
        exact (h.slot i).keep hagS (le_or_left _ _) hd.sub
  · by_cases hi : keyIn up i
    · have hk := lkG_key up st.h i hi
      rw [hm1 i hi]
      exact hd.rep _ hk
    · rw [hm2 i hi]
      show lkG (up ++ st.h) i = .dead ∨ _
      simp only [St.eff, lkG_append up st.h i hi]
      rcases h.root i with h0 | ⟨u, h1, h2⟩
      · exact .inl h0
      · exact .inr ⟨u, hd.sub _ _ h1, h2.keep (hagF i hi) hagS (le_or_left _ _) hd.sub (le_refl _)⟩
  · by_cases hi : keyIn up i <;> by_cases hj : keyIn up j
    · rw [hm1 i hi, hm1 j hj]
      obtain ⟨x, hx⟩ := hi
      obtain ⟨y, hy⟩ := hj
      exact hd.dis _ hx _ hy hij
    · rw [hm1 i hi, hm2 j hj]
      obtain ⟨x, hx⟩ := hi
      exact (hFnew j hj).symm.le (hd.own _ hx) (le_refl _)
    · rw [hm2 i hi, hm1 j hj]
      obtain ⟨y, hy⟩ := hj
      exact (hFnew i hi).le (le_refl _) (hd.own _ hy)
    · rw [hm2 i hi, hm2 j hj]; exact h.dis i j hij
  · by_cases hi : keyIn up i
    · rw [hm1 i hi]
      obtain ⟨x, hx⟩ := hi
      exact fun b o hb hs => hs.elim (fun hs => hSnew b o hs (hd.own _ hx b o hb)) (fun hs => hd.disS _ hx b o hb hs)
    · rw [hm2 i hi]
      exact fun b o hb hs => hs.elim (fun hs => h.disS i b o hb hs) (fun hs => hFnew i hi b o hb (hd.newS b o hs))
  · by_cases hi : keyIn up i
    · rw [hm1 i hi]
      obtain ⟨x, hx⟩ := hi
      exact (hd.own _ hx).trans hnew
    · rw [hm2 i hi]; exact h.own i
  · by_cases hi : keyIn up i
    · rw [hm1 i hi] at hb
      obtain ⟨x, hx⟩ := hi
      exact hd.ex _ hx b o hb
    · rw [hm2 i hi] at hb
      exact Nat.lt_of_lt_of_le (h.ex i b o hb) hd.keeps.size
  · exact hb.elim (fun hb => Nat.lt_of_lt_of_le (h.exS b o hb) hd.keeps.size) (hd.exS b o)
  · exact h.old.trans hd.keeps (fun b o ⟨j, _, hj⟩ => h.own j b o hj)
  · exact h.inS.trans (le_or_left _ _)
  · exact hb.elim (h.newS b o) (fun hb => .inr (hnew b o (hd.newS b o hb)))

/-- Nothing happens. -/
theorem Done.nil (w : World) (S : Foot) (ρ : Env) (F : Nat → Foot) : Done w w S no ρ ρ F F [] [] :=
  ⟨by simp, Keeps.refl _ _, no_le _, fun _ _ h => h.elim, Env.le.refl _, fun _ h _ => h, by simp, by simp, by simp, by simp, by simp⟩
theorem or_no (F : Foot) : F.or no = F := by funext b o; simp [Foot.or, no]
/-- An operation that computes. -/
theorem acts_of (h : ∀ a w S ρ F, Rel g st a w S ρ F → ∃ v, (execOp a.eval o).run P w = .ok (.value v) w ∧ RepS w S ρ sv v) : Acts P g o st sv [] [] := by
  refine ⟨fun a w S ρ F hr _ K Q hK => ?_⟩
  obtain ⟨v, h1, h2⟩ := h a w S ρ F hr
  unfold Oper.wp
  rw [h1]
  exact hK v w no ρ F (Done.nil w S ρ F) (by rw [or_no]; exact h2)

/-- Less is known. -/
def leS : List (Nat × SV) → List (Nat × SV) → Prop
  | [], _ => True
  | (i, sv) :: r, t => (sv = .any ∨ lkS t i = sv) ∧ leS r t
theorem leS_lk {t t' : List (Nat × SV)} (h : leS t' t) (i : Nat) : lkS t' i = .any ∨ lkS t' i = lkS t i := by
  induction t' with
  | nil => exact .inl rfl
  | cons x r ih =>
    obtain ⟨j, sv⟩ := x
    simp only [leS] at h
    simp only [lkS]
    by_cases hij : i = j
    · subst hij
      have hb : Nat.beq i i = true := by simp
      simp only [hb, cond_true]
      exact h.1.imp id Eq.symm
    · have hb : Nat.beq i j = false := beq_ne hij
      simp only [hb, cond_false]
      exact ih h.2
theorem Rel.weaken (h : Rel g st a w S ρ F) (hs : ∀ i, lkS st'.t i = .any ∨ lkS st'.t i = lkS st.t i) (hg : ∀ i, lkG st'.h i = .dead ∨ lkG st'.h i = lkG st.h i) : Rel g st' a w S ρ F :=
  ⟨h.size, h.defers, fun i => (hs i).elim (fun e => by rw [e]; trivial) (fun e => by rw [e]; exact h.slot i), fun i => (hg i).elim .inl (fun e => by rw [e]; exact h.root i), h.dis, h.disS, h.own, h.ex, h.exS, h.old, h.inS, h.newS, h.pin⟩
theorem Rel.same (h : Rel g st a w S ρ F) (hs : ∀ i, lkS st'.t i = lkS st.t i) (hg : ∀ i, lkG st'.h i = lkG st.h i) : Rel g st' a w S ρ F := h.weaken (fun i => .inr (hs i)) (fun i => .inr (hg i))

/-- The number of draws has changed alone. -/
theorem Rep.drew : ∀ {c : D} {v : Value} {F : Foot}, Rep w S c v F → Rep { w with drawn := w.drawn + 1 } S c v F := fun h => h.keep (w' := { w with drawn := w.drawn + 1 }) (fun _ _ _ => ⟨rfl, rfl, rfl⟩) (fun _ _ _ => ⟨rfl, rfl, rfl⟩) (le_refl _) (le_refl _)
theorem Rel.drew (h : Rel g st a w S ρ F) : Rel g st a { w with drawn := w.drawn + 1 } S ρ F := by
  have ha : ∀ X, Agree w { w with drawn := w.drawn + 1 } X := fun _ _ _ _ => ⟨rfl, rfl, rfl⟩
  exact ⟨h.size, h.defers, fun i => (h.slot i).keep (ha _) (le_refl _) (Env.le.refl _), fun i => (h.root i).imp id (fun ⟨u, h1, h2⟩ => ⟨u, h1, h2.keep (ha _) (ha _) (le_refl _) (Env.le.refl _) (le_refl _)⟩), h.dis, h.disS, h.own, h.ex, h.exS,
    ⟨h.old.os, h.old.tape, h.old.output, h.old.size, h.old.block, h.old.cell⟩, h.inS, h.newS, h.pin⟩
end

/-- A walk: from every frame and world that the state tells of. -/
def GQ (g : Gh) (Q : Exit → St → Prop) : Exit → Act → World → Prop := fun e a w => ∃ st S ρ F, Rel g st a w S ρ F ∧ Fresh st ρ ∧ Q e st
structure GWp (P : Program) (g : Gh) (c : Code) (st : St) (Q : Exit → St → Prop) : Prop where
  run : ∀ a w S ρ F, Rel g st a w S ρ F → Fresh st ρ → c.wp P (GQ g Q) a w
structure GOps (P : Program) (g : Gh) (ops : Array Oper) (l : List Oper) (st : St) (Q : Exit → St → Prop) : Prop where
  run : ∀ a w S ρ F, Rel g st a w S ρ F → Fresh st ρ → wpList P ops (GQ g Q) l a w
inductive qSeq (P : Program) (g : Gh) (y : Code) (Q : Exit → St → Prop) : Exit → St → Prop where
  | go {st : St} (h : GWp P g y st Q) : qSeq P g y Q .normal st
  | out {e : Exit} {st : St} (hne : e ≠ .normal) (h : Q e st) : qSeq P g y Q e st
inductive qBlk (id : Nat) (Q : Exit → St → Prop) : Exit → St → Prop where
  | hit {id' : Nat} {st : St} (hb : Nat.beq id' id = true) (h : Q .normal st) : qBlk id Q (.exit id') st
  | out {e : Exit} {st : St} (hb : ∀ i, e = .exit i → Nat.beq i id = false) (h : Q e st) : qBlk id Q e st
section
variable {P : Program} {g : Gh} {st st' : St} {Q : Exit → St → Prop}

theorem g_mono {c : Code} {Q' : Exit → St → Prop} (h : GWp P g c st Q) (hq : ∀ e st, Q e st → Q' e st) : GWp P g c st Q' := ⟨fun a w S ρ F hr hf =>
  wp_mono (h.run a w S ρ F hr hf) fun e a w ⟨st, S, ρ, F, h1, h2, h3⟩ => ⟨st, S, ρ, F, h1, h2, hq e st h3⟩⟩
theorem g_skip (h : Q .normal st) : GWp P g .skip st Q := ⟨fun a w S ρ F hr hf => wp_skip ⟨st, S, ρ, F, hr, hf, h⟩⟩
theorem g_ret (h : Q .ret st) : GWp P g .ret st Q := ⟨fun a w S ρ F hr hf => wp_ret ⟨st, S, ρ, F, hr, hf, h⟩⟩
theorem g_exit {id : Nat} (h : Q (.exit id) st) : GWp P g (.exit id) st Q := ⟨fun a w S ρ F hr hf => wp_exit ⟨st, S, ρ, F, hr, hf, h⟩⟩
theorem g_seq {x y : Code} (h : GWp P g x st (qSeq P g y Q)) : GWp P g (.seq x y) st Q := by
  refine ⟨fun a w S ρ F hr hf => ?_⟩
  refine wp_seq (wp_mono (h.run a w S ρ F hr hf) ?_)
  rintro e a w ⟨st, S, ρ, F, h1, h2, h3⟩
  cases h3 with
  | go h3 => exact h3.run a w S ρ F h1 h2
  | out hne h3 =>
    cases e with
    | normal => exact absurd rfl hne
    | _ => exact ⟨st, S, ρ, F, h1, h2, h3⟩
theorem g_block {id : Nat} {c : Code} (h : GWp P g c st (qBlk id Q)) : GWp P g (.block id c) st Q := by
  refine ⟨fun a w S ρ F hr hf => ?_⟩
  refine wp_block (wp_mono (h.run a w S ρ F hr hf) ?_)
  rintro e a w ⟨st, S, ρ, F, h1, h2, h3⟩
  cases h3 with
  | hit hb h3 =>
    rename_i id'
    simp only [Exit.inBlock, if_pos (Nat.eq_of_beq_eq_true hb)]
    exact ⟨st, S, ρ, F, h1, h2, h3⟩
  | out hb h3 =>
    cases e with
    | exit id' =>
      have hne : id' ≠ id := fun e => by have := hb id' rfl; rw [e] at this; simp at this
      simp only [Exit.inBlock, if_neg hne]
      exact ⟨st, S, ρ, F, h1, h2, h3⟩
    | _ => exact ⟨st, S, ρ, F, h1, h2, h3⟩
theorem bool_of {a : Act} {w : World} {S : Foot} {ρ : Env} {F : Nat → Foot} (hr : Rel g st a w S ρ F) {c : Operand} {b : Bool} (hc : opd st c = .one (.d (.sc (.bool b)))) : a.eval c = .bool b := by
  have := hr.opd c
  rw [hc] at this
  exact this.1
theorem g_cond {c : Operand} {x y : Code} {b : Bool} (hc : opd st c = .one (.d (.sc (.bool b)))) (ht : b = true → GWp P g x st Q) (hf : b = false → GWp P g y st Q) : GWp P g (.cond c x y) st Q := by
  refine ⟨fun a w S ρ F hr hfr => ?_⟩
  exact wp_cond_split (bool_of hr hc) (fun h => (ht h).run a w S ρ F hr hfr) (fun h => (hf h).run a w S ρ F hr hfr)
theorem g_weaken {c : Code} (h : GWp P g c st' Q) (hs : leS st'.t st.t) (hg : ∀ i, lkG st'.h i = .dead ∨ lkG st'.h i = lkG st.h i) (hn : st.n ≤ st'.n) : GWp P g c st Q := ⟨fun a w S ρ F hr hf =>
  h.run a w S ρ F (hr.weaken (leS_lk hs) hg) (fun i hi => hf i (Nat.le_trans hn hi))⟩

theorem g_region {id : Nat} {l : List Oper} (h : GOps P g l.toArray l st Q) : GWp P g (.region id l.toArray false) st Q := ⟨fun a w S ρ F hr hf => wp_region_lit (h.run a w S ρ F hr hf)⟩
theorem o_nil {ops : Array Oper} (h : Q .normal st) : GOps P g ops [] st Q := ⟨fun a w S ρ F hr hf => ⟨st, S, ρ, F, hr, hf, h⟩⟩
/-- New roots have numbers from `n` to `n'`. -/
def upOk (n n' : Nat) (ch : List Nat) : List (Nat × GB) → Prop
  | [] => n ≤ n'
  | (i, _) :: r => (i ∈ ch ∨ (n ≤ i ∧ i < n')) ∧ upOk n n' ch r
theorem upOk_mem {n n' : Nat} {ch : List Nat} : ∀ {up : List (Nat × GB)}, upOk n n' ch up → ∀ x ∈ up, x.1 ∈ ch ∨ (n ≤ x.1 ∧ x.1 < n')
  | [], _, _, h => by simp at h
  | (i, _) :: r, h, x, hx => by
    rcases List.mem_cons.1 hx with rfl | hx
    · exact h.1
    · exact upOk_mem h.2 x hx
theorem upOk_le {n n' : Nat} {ch : List Nat} : ∀ {up : List (Nat × GB)}, upOk n n' ch up → n ≤ n'
  | [], h => h
  | (i, _) :: r, h => upOk_le h.2
theorem fresh_done {w w' : World} {S S1 : Foot} {ρ ρ' : Env} {F F' : Nat → Foot} {ch : List Nat} {up : List (Nat × GB)} {n : Nat} {dst : Option Nat} {sv : SV} {a : Act} (hr : Rel g st a w S ρ F) (hf : Fresh st ρ) (hchl : ∀ i ∈ ch, lkG st.h i ≠ .dead) (hu : upOk st.n n ch up) (hd : Done w w' S S1 ρ ρ' F F' ch up) : Fresh (st.eff dst sv up n) ρ' := by
  intro i hi
  have hi' : n ≤ i := hi
  have hn := upOk_le hu
  refine hd.dom i (hf i (by omega)) fun gb hm => ?_
  rcases upOk_mem hu _ hm with h | h
  · rcases hr.root i with h0 | ⟨u, h1, _⟩
    · exact hchl i h h0
    · rw [hf i (by omega)] at h1; cases h1
  · simp only at h; omega
theorem o_act {ops : Array Oper} {l : List Oper} {o : Oper} {sv : SV} {ch : List Nat} {up : List (Nat × GB)} {n : Nat} (hg : o.guard = none) (h : Acts P g o st sv ch up) (hd : ∀ d, o.dst = some d → d < g.n) (hchl : ∀ i ∈ ch, lkG st.h i ≠ .dead) (hu : upOk st.n n ch up)
    (hk : GOps P g ops l (st.eff o.dst sv up n) Q) : GOps P g ops (o :: l) st Q := by
  refine ⟨fun a w S ρ F hr hf => ?_⟩
  refine wpList_plain hg fun K hK => ?_
  refine h.run a w S ρ F hr (fun x hx => (upOk_mem hu x hx).imp id (fun h => hf _ h.1)) K _ ?_
  intro v w' S1 ρ' F' hdone hv
  exact hK _ _ (hk.run _ _ _ _ _ (hr.done hdone hd hv) (fresh_done hr hf hchl hu hdone))
theorem yielded_of {a : Act} {w : World} {S : Foot} {ρ : Env} {F : Nat → Foot} (hr : Rel g st a w S ρ F) {ops : Array Oper} {j d : Nat} {b : Bool} (hj : (ops[j]?).bind (·.dst) = some d) (hd : d < g.n) (hb : lkS st.t d = .one (.d (.sc (.bool b)))) : yielded ops a.tmps j = some b := by
  have h1 := hr.slot d
  rw [hb] at h1
  have h2 : a.tmps[d]? = some (.bool b) := by
    have hlt : d < a.tmps.size := by rw [hr.size]; exact hd
    have h3 := h1.1
    simp only [Array.getD_eq_getD_getElem?, Array.getElem?_eq_getElem hlt, Option.getD_some] at h3
    rw [Array.getElem?_eq_getElem hlt, h3]
  simp [yielded, hj, h2]
/-- What a guard finds in a slot does not let the operation run. -/
def skips (b : Bool) : SV → Bool
  | .one (.d (.sc (.bool b'))) => !(b' == b)
  | .tup [] => true
  | _ => false
theorem unyielded {a : Act} {w : World} {S : Foot} {ρ : Env} {F : Nat → Foot} (hr : Rel g st a w S ρ F) {ops : Array Oper} {j d : Nat} {b : Bool} (hj : (ops[j]?).bind (·.dst) = some d) (hd : d < g.n) (hb : skips b (lkS st.t d) = true) : (yielded ops a.tmps j == some b) = false := by
  have hlt : d < a.tmps.size := by rw [hr.size]; exact hd
  cases hs : lkS st.t d with
  | one c =>
    cases c with
    | d x =>
      cases x with
      | sc v =>
        cases v with
        | bool b' =>
          rw [yielded_of hr hj hd hs]
          rw [hs] at hb
          simp only [skips, Bool.not_eq_true'] at hb
          simpa using hb
        | _ => rw [hs] at hb; simp [skips] at hb
      | _ => rw [hs] at hb; simp [skips] at hb
    | _ => rw [hs] at hb; simp [skips] at hb
  | tup l =>
    cases l with
    | nil =>
      have h1 := hr.slot d
      rw [hs] at h1
      obtain ⟨us, e, h2⟩ := h1
      have h3 : a.tmps[d]? = some (.tuple us) := by
        simp only [Array.getD_eq_getD_getElem?, Array.getElem?_eq_getElem hlt, Option.getD_some] at e
        rw [Array.getElem?_eq_getElem hlt, e]
      simp [yielded, hj, h3]
    | cons x l => rw [hs] at hb; simp [skips] at hb
  | agg l => rw [hs] at hb; simp [skips] at hb
  | any => rw [hs] at hb; simp [skips] at hb
theorem rep_undef {w : World} {S : Foot} {ρ : Env} : RepS w S ρ (.tup []) undef := ⟨#[], rfl, rfl⟩
/-- An operation behind a guard that holds. -/
theorem o_act_yes {ops : Array Oper} {l : List Oper} {o : Oper} {sv : SV} {ch : List Nat} {up : List (Nat × GB)} {n j d : Nat} {b : Bool} (hg : o.guard = some (j, b)) (hj : (ops[j]?).bind (·.dst) = some d) (hdn : d < g.n) (hb : lkS st.t d = .one (.d (.sc (.bool b))))
    (h : Acts P g o st sv ch up) (hd : ∀ d, o.dst = some d → d < g.n) (hchl : ∀ i ∈ ch, lkG st.h i ≠ .dead) (hu : upOk st.n n ch up)
    (hk : GOps P g ops l (st.eff o.dst sv up n) Q) : GOps P g ops (o :: l) st Q := by
  refine ⟨fun a w S ρ F hr hf => ?_⟩
  refine wpList_step fun K hK => ?_
  simp only [Region.wanted, hg, yielded_of hr hj hdn hb, beq_self_eq_true, if_true]
  refine h.run a w S ρ F hr (fun x hx => (upOk_mem hu x hx).imp id (fun h => hf _ h.1)) K _ ?_
  intro v w' S1 ρ' F' hdone hv
  exact hK _ _ (hk.run _ _ _ _ _ (hr.done hdone hd hv) (fresh_done hr hf hchl hu hdone))
/-- An operation behind a guard that does not hold. -/
theorem o_act_no {ops : Array Oper} {l : List Oper} {o : Oper} {j d : Nat} {b : Bool} (hg : o.guard = some (j, b)) (hj : (ops[j]?).bind (·.dst) = some d) (hdn : d < g.n) (hb : skips b (lkS st.t d) = true)
    (hd : ∀ d, o.dst = some d → d < g.n)
    (hk : GOps P g ops l (st.eff o.dst (.tup []) [] st.n) Q) : GOps P g ops (o :: l) st Q := by
  refine ⟨fun a w S ρ F hr hf => ?_⟩
  refine wpList_step fun K hK => ?_
  simp only [Region.wanted, hg, unyielded hr hj hdn hb, Bool.false_eq_true, if_false]
  have h1 := hr.done (n := st.n) (Done.nil w S ρ F) (dst := o.dst) (v := undef) (sv := .tup []) hd rep_undef
  exact hK _ _ (hk.run _ _ _ _ _ h1 (fun i hi => hf i hi))
end
end Go.Proofs.Ytncccjpbaeaafaa
