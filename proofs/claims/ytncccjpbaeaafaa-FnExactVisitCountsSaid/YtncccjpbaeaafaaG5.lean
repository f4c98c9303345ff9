/- Memory that is made or written, in terms of slots and roots. No program in sight. -/
import Derived.Test.YtncccjpbaeaafaaG4
import Derived.ArgAppend
set_option linter.unusedVariables false
set_option linter.unusedSimpArgs false
namespace Go.Proofs.Ytncccjpbaeaafaa
open Go Foot

section
variable {w w' : World} {S F F' : Foot} {ρ ρ' : Env}
theorem cell_set_same {b o : Nat} {v u : Value} (h : w.cell? ⟨b, o, none⟩ = some v) : (w.setCell ⟨b, o, none⟩ u).cell? ⟨b, o, none⟩ = some u := by
  unfold World.cell? at h ⊢
  unfold World.setCell
  simp only [Array.getElem?_modify]
  cases hb : w.heap[b]? with
  | none => rw [hb] at h; simp at h
  | some ob =>
    rw [hb] at h
    cases ob <;> simp at h
    rename_i c e fr
    simp only [if_true, Option.map_some]
    have hlt : o < c.size := (Array.getElem?_eq_some_iff.1 h).1
    simp [hlt]
theorem cell_set_ne {b o b' o' : Nat} {u : Value} (h : ¬ (b' = b ∧ o' = o)) : (w.setCell ⟨b, o, none⟩ u).cell? ⟨b', o', none⟩ = w.cell? ⟨b', o', none⟩ := by
  unfold World.cell? World.setCell
  simp only [Array.getElem?_modify]
  by_cases hb : b = b'
  · subst hb
    have ho : o ≠ o' := fun e => h ⟨rfl, e.symm⟩
    cases hh : w.heap[b]? with
    | none => simp
    | some ob => cases ob <;> simp [ho]
  · simp [hb]
theorem frozen_set {b o b' o' : Nat} {u : Value} : (w.setCell ⟨b, o, none⟩ u).frozen? ⟨b', o', none⟩ = w.frozen? ⟨b', o', none⟩ := by
  unfold World.frozen? World.setCell
  simp only [Array.getElem?_modify]
  by_cases hb : b = b'
  · subst hb
    cases hh : w.heap[b]? with
    | none => simp
    | some ob => cases ob <;> simp
  · simp [hb]
theorem map_set {b o b' : Nat} {u : Value} : mapAt (w.setCell ⟨b, o, none⟩ u) b' = mapAt w b' := by
  unfold mapAt
  simp only [World.setCell, Array.getElem?_modify]
  by_cases hb : b = b'
  · subst hb
    simp only [if_true]
    cases hh : w.heap[b]? with
    | none => rfl
    | some ob => cases ob <;> rfl
  · simp only [if_neg hb]
theorem keeps_set (b o : Nat) (u : Value) : Keeps (fun b' o' => b' = b ∧ o' = o) w (w.setCell ⟨b, o, none⟩ u) := by
  refine ⟨rfl, rfl, rfl, by simp [World.setCell], fun b' hb hn => ?_, fun b' o' hb hn => ⟨cell_set_ne hn, frozen_set, map_set⟩⟩
  have : b ≠ b' := fun e => hn o ⟨e.symm, rfl⟩
  simp [World.setCell, Array.getElem?_modify, this]
theorem heap_alloc (ob : Obj) : (w.alloc ob).heap = w.heap.push ob := rfl
theorem run_newRow {P : Program} (e : TypeId) (cs : Array Value) : (newRow e cs).run P w = .ok ⟨w.heap.size, 0, none⟩ (w.alloc (.cells cs e)) := rfl
theorem keeps_alloc (ob : Obj) : Keeps no w (w.alloc ob) := by
  have hh : ∀ b, b < w.heap.size → (w.alloc ob).heap[b]? = w.heap[b]? := fun b hb => by rw [heap_alloc]; simp [Array.getElem?_push, Nat.ne_of_lt hb]
  refine ⟨rfl, rfl, rfl, by simp, fun b hb _ => hh b hb, fun b o hb _ => ?_⟩
  simp [World.cell?, World.frozen?, mapAt, hh b hb]
theorem lies_alloc (vs : List Value) (e : TypeId) : lies (w.alloc (.cells vs.toArray e)) w.heap.size 0 vs := by
  intro i v hv
  simp [World.cell?, heap_alloc, hv]
theorem free_alloc (vs : List Value) (e : TypeId) : free (w.alloc (.cells vs.toArray e)) w.heap.size 0 vs.length := by
  intro i hi
  simp [World.cell?, World.frozen?, heap_alloc, hi]
theorem keeps_sets (b : Nat) : ∀ (us : List Value) (o : Nat) (w : World), Keeps (rng b o us.length) w (w.setCells b o us)
  | [], o, w => Keeps.refl _ _
  | u :: us, o, w => by
    have h1 := (keeps_set (w := w) b o u).mono (F1 := rng b o (us.length + 1)) (by rintro b' o' ⟨rfl, rfl⟩; exact ⟨rfl, by omega, by omega⟩)
    have h2 := (keeps_sets b us (o + 1) (w.setCell ⟨b, o, none⟩ u)).mono (F1 := rng b o (us.length + 1)) (by rintro b' o' ⟨rfl, h1, h2⟩; exact ⟨rfl, by omega, by omega⟩)
    exact h1.trans h2 (fun b' o' h => .inl h)
theorem keeps_drew : Keeps no w w.drew := ⟨rfl, rfl, rfl, Nat.le_refl _, fun _ _ _ => rfl, fun _ _ _ _ => ⟨rfl, rfl, rfl⟩⟩
/-- A root is made. -/
theorem Done.new {g : Nat} {gb : GB} {u : Value} {S S1 : Foot} {Fs : Nat → Foot} {G : Foot} (hk : Keeps no w w') (hn : ρ g = none) (hr : ∀ ρ', Env.le ρ ρ' → ρ' g = some u → RepG w' S ρ' gb u G) (hG : ∀ b o, G b o → w.heap.size ≤ b ∧ b < w'.heap.size) :
    Done w w' S no ρ (fun i => if i = g then some u else ρ i) Fs (fun i => if i = g then G else Fs i) [] [(g, gb)] := by
  have hsub : Env.le ρ (fun i => if i = g then some u else ρ i) := by
    intro i x hx
    by_cases hi : i = g
    · subst hi; rw [hn] at hx; cases hx
    · simp [hi, hx]
  refine ⟨by simp, hk.mono (no_le _), no_le _, fun _ _ h => h.elim, hsub, ?_, ?_, ?_, ?_, ?_, ?_⟩
  · intro i hi hm
    have : i ≠ g := fun e => hm gb (by subst e; simp)
    simp [this, hi]
  · intro x hx
    obtain rfl : x = (g, gb) := by simpa using hx
    refine .inr ⟨u, by simp, ?_⟩
    rw [or_no]
    simp only [if_true]
    exact hr _ hsub (by simp)
  · intro x hx
    obtain rfl : x = (g, gb) := by simpa using hx
    simp only [if_true]
    exact fun b o hb => .inr (hG b o hb).1
  · intro x hx
    obtain rfl : x = (g, gb) := by simpa using hx
    simp only [if_true]
    exact fun b o hb => (hG b o hb).2
  · exact fun _ _ => dis_no _
  · intro x hx y hy hne
    obtain rfl : x = (g, gb) := by simpa using hx
    obtain rfl : y = (g, gb) := by simpa using hy
    exact absurd rfl hne
/-- A root has changed in place. -/
theorem Done.chg {g : Nat} {gb : GB} {u : Value} {S : Foot} {Fs : Nat → Foot} {G : Foot} (hk : Keeps (Fs g) w w') (hu : ρ g = some u) (hr : RepG w' S ρ gb u G) (hG : ∀ b o, G b o → (Fs g b o ∨ w.heap.size ≤ b) ∧ b < w'.heap.size) :
    Done w w' S no ρ ρ Fs (fun i => if i = g then G else Fs i) [g] [(g, gb)] := by
  refine ⟨by simp, hk.mono (fun b o h => ⟨g, by simp, h⟩), no_le _, fun _ _ h => h.elim, Env.le.refl _, fun _ h _ => h, ?_, ?_, ?_, ?_, ?_⟩
  · intro x hx
    obtain rfl : x = (g, gb) := by simpa using hx
    refine .inr ⟨u, hu, ?_⟩
    rw [or_no]
    simp only [if_true]
    exact hr
  · intro x hx
    obtain rfl : x = (g, gb) := by simpa using hx
    simp only [if_true]
    exact fun b o hb => (hG b o hb).1.imp (fun h => ⟨g, by simp, h⟩) id
  · intro x hx
    obtain rfl : x = (g, gb) := by simpa using hx
    simp only [if_true]
    exact fun b o hb => (hG b o hb).2
  · exact fun _ _ => dis_no _
  · intro x hx y hy hne
    obtain rfl : x = (g, gb) := by simpa using hx
    obtain rfl : y = (g, gb) := by simpa using hy
    exact absurd rfl hne
/-- A root is given up for a new one. -/
theorem Done.swap {g g' : Nat} {gb : GB} {u u' : Value} {S : Foot} {Fs : Nat → Foot} {G : Foot} (hk : Keeps (Fs g) w w') (hu : ρ g = some u) (hn : ρ g' = none) (hr : ∀ ρ', Env.le ρ ρ' → RepG w' S ρ' gb u' G) (hG : ∀ b o, G b o → (Fs g b o ∨ w.heap.size ≤ b) ∧ b < w'.heap.size) :
    Done w w' S no ρ (fun i => if i = g' then some u' else ρ i) Fs (fun i => if i = g' then G else if i = g then no else Fs i) [g] [(g', gb), (g, .dead)] := by
  have hne : g ≠ g' := by rintro rfl; rw [hn] at hu; cases hu
  have hsub : Env.le ρ (fun i => if i = g' then some u' else ρ i) := by
    intro i x hx
    by_cases hi : i = g'
    · subst hi; rw [hn] at hx; cases hx
    · simp [hi, hx]
  have hno : ∀ {b o : Nat}, ¬ (no b o) := fun h => h
  refine ⟨fun i hi => ⟨.dead, by simp at hi; subst hi; simp⟩, hk.mono (fun b o h => ⟨g, by simp, h⟩), no_le _, fun _ _ h => h.elim, hsub, ?_, ?_, ?_, ?_, fun _ _ => dis_no _, ?_⟩
  · intro i hi hm
    have : i ≠ g' := fun e => hm gb (by subst e; simp)
    simp [this, hi]
  · intro x hx
    rw [or_no]
    simp only [List.mem_cons, List.not_mem_nil, or_false] at hx
    rcases hx with rfl | rfl
    · refine .inr ⟨u', by simp, ?_⟩
      simp only [if_true]
      exact hr _ hsub
    · exact .inl rfl
  · intro x hx
    simp only [List.mem_cons, List.not_mem_nil, or_false] at hx
    rcases hx with rfl | rfl
    · simp only [if_true]
      exact fun b o hb => (hG b o hb).1.imp (fun h => ⟨g, by simp, h⟩) id
    · simp only [if_neg hne, if_true]
      exact no_le _
  · intro x hx
    simp only [List.mem_cons, List.not_mem_nil, or_false] at hx
    rcases hx with rfl | rfl
    · simp only [if_true]
      exact fun b o hb => (hG b o hb).2
    · simp only [if_neg hne, if_true]
      exact fun b o hb => hb.elim
  · intro x hx y hy hxy
    simp only [List.mem_cons, List.not_mem_nil, or_false] at hx hy
    rcases hx with rfl | rfl <;> rcases hy with rfl | rfl
    · exact absurd rfl hxy
    · simp only [if_neg hne, if_true]; exact dis_no _
    · simp only [if_neg hne, if_true]; exact no_dis _
    · exact absurd rfl hxy
end

/-- The cells of a type's zero value. -/
def zeroC (P : Program) (T : Nat) : Option (List Value) := match P.info? T with
  | some i => match i.zero with
    | some v => bif v.cells.toList.all Value.oneCell' then some v.cells.toList else none
    | none => none
  | none => none
def scC : Value → C := fun v => .d (.sc v)
def scD : Value → D := fun v => .sc v
def SV.cells : SV → Option (List C)
  | .one c => some [c]
  | .agg cs => some cs
  | _ => none
theorem RepS.cells {w : World} {S : Foot} {ρ : Env} {sv : SV} {v : Value} {cs : List C} (h : RepS w S ρ sv v) (hc : sv.cells = some cs) : RepCs w S ρ cs v.cells.toList := by
  cases sv with
  | one c =>
    simp only [SV.cells, Option.some.injEq] at hc
    subst hc
    have h1 : RepC w S ρ c v := h
    have ho := h1.one
    have : v.cells.toList = [v] := by cases v <;> simp_all [Value.cells, Value.oneCell']
    rw [this]
    exact ⟨v, [], rfl, h1, rfl⟩
  | agg cs' =>
    simp only [SV.cells, Option.some.injEq] at hc
    subst hc
    obtain ⟨vs, rfl, h⟩ := h
    exact h
  | _ => cases hc
theorem reps_sc {w : World} {S : Foot} : ∀ {vs : List Value}, vs.all Value.oneCell' = true → Reps w S (vs.map scD) vs no
  | [], _ => rfl
  | v :: vs, h => by
    simp only [List.all_cons, Bool.and_eq_true] at h
    exact ⟨v, vs, no, no, rfl, le_refl _, le_refl _, no_dis _, ⟨rfl, h.1⟩, reps_sc h.2⟩
def sizeB (P : Program) (t n : Nat) : Bool := match P.info? t with | some i => Nat.beq i.size n | none => false
/-- Cells put over a part of a row. -/
def setRow {α : Type} : List α → Nat → List α → List α
  | cs, _, [] => cs
  | cs, off, x :: xs => setRow (cs.set off x) (off + 1) xs
theorem setRow_length {α : Type} : ∀ (xs : List α) (cs : List α) (off : Nat), (setRow cs off xs).length = cs.length
  | [], _, _ => rfl
  | x :: xs, cs, off => by simp [setRow, setRow_length xs]
theorem RepCs.setRow {w : World} {S : Foot} {ρ : Env} : ∀ {xs : List C} {us : List Value} {cs : List C} {vs : List Value} {off : Nat}, RepCs w S ρ cs vs → RepCs w S ρ xs us → RepCs w S ρ (setRow cs off xs) (setRow vs off us)
  | [], us, cs, vs, off, h, hx => by simp only [RepCs] at hx; subst hx; exact h
  | x :: xs, us, cs, vs, off, h, hx => by
    simp only [RepCs] at hx
    obtain ⟨v0, us, rfl, h1, h2⟩ := hx
    exact RepCs.setRow (off := off + 1) (h.set (k := off) h1) h2

section
variable {P : Program} {w : World}
theorem run_storeAt {T b off : Nat} {v : Value} {w' : World} (hT : sizeB P T v.cells.size = true) (h : (storeCells ⟨b, off, none⟩ v.cells.toList 0).run P w = .ok () w') : (Instr.storeAt T (.pointer (some ⟨b, off, none⟩)) v).run P w = .ok () w' := by
  unfold sizeB at hT
  split at hT
  · rename_i i hi
    have hs : i.size = v.cells.size := Nat.eq_of_beq_eq_true hT
    simp [Instr.storeAt, Instr.sureAddr, storeVar, sizeOf, typeInfo, hi, hs, h]
  · cases hT
theorem setRow_get {α : Type} : ∀ (us vs : List α) (off k : Nat), off + us.length ≤ vs.length → (setRow vs off us)[k]? = if off ≤ k ∧ k < off + us.length then us[k - off]? else vs[k]?
  | [], vs, off, k, _ => by simp only [setRow, List.length_nil, Nat.add_zero]; rw [if_neg (by omega)]
  | u :: us, vs, off, k, h => by
    simp only [List.length_cons] at h
    have ih := setRow_get us (vs.set off u) (off + 1) k (by simp; omega)
    simp only [setRow, ih, List.length_cons]
    by_cases h1 : off + 1 ≤ k ∧ k < off + 1 + us.length
    · rw [if_pos h1, if_pos (by omega), show k - off = (k - (off + 1)) + 1 by omega, List.getElem?_cons_succ]
    · rw [if_neg h1]
      by_cases h2 : k = off
      · subst h2
        rw [if_pos (by omega), List.getElem?_set_self (by omega)]
        simp
      · rw [if_neg (by omega), List.getElem?_set_ne (Ne.symm h2)]
/-- Cells are stored into a row that may be written. -/
theorem run_stores (b : Nat) : ∀ (us : List Value) (k off : Nat) (w : World), (∀ u ∈ us, u.oneCell' = true) → free w b (off + k) us.length →
    ∃ w', (storeCells ⟨b, off, none⟩ us k).run P w = .ok () w' ∧ Keeps (rng b (off + k) us.length) w w' ∧ (∀ i u, us[i]? = some u → w'.cell? ⟨b, off + k + i, none⟩ = some u) ∧ (∀ b' o', w'.frozen? ⟨b', o', none⟩ = w.frozen? ⟨b', o', none⟩) ∧ w'.heap.size = w.heap.size
  | [], k, off, w, _, _ => ⟨w, by simp [storeCells], Keeps.refl _ _, by simp, fun _ _ => rfl, rfl⟩
  | u :: us, k, off, w, h1, hf => by
    have hf0 := hf 0 (by simp)
    rw [Nat.add_zero] at hf0
    obtain ⟨v, hv⟩ := Option.isSome_iff_exists.1 hf0.1
    have hu1 := h1 u List.mem_cons_self
    have hfr : free (w.setCell ⟨b, off + k, none⟩ u) b (off + (k + 1)) us.length := by
      intro i hi
      have := hf (i + 1) (by simp; omega)
      rw [show off + (k + 1) + i = off + k + (i + 1) by omega, frozen_set]
      refine ⟨?_, this.2⟩
      rw [cell_set_ne (by omega)]
      exact this.1
    obtain ⟨w', e1, e2, e3, e4, e5⟩ := run_stores b us (k + 1) off (w.setCell ⟨b, off + k, none⟩ u) (fun x hx => h1 x (List.mem_cons_of_mem _ hx)) hfr
    have hk1 := (keeps_set (w := w) b (off + k) u).mono (F1 := rng b (off + k) (us.length + 1)) (by rintro b' o' ⟨rfl, rfl⟩; exact ⟨rfl, by omega, by omega⟩)
    have hk2 := e2.mono (F1 := rng b (off + k) (us.length + 1)) (by rintro b' o' ⟨rfl, h1, h2⟩; exact ⟨rfl, by omega, by omega⟩)
    refine ⟨w', ?_, hk1.trans hk2 (fun b' o' h => .inl h), ?_, ?_, ?_⟩
    · unfold storeCells
      rw [addr_add]
      simp only [Sem.run_bind, store]
      have : (Sem.store .plain ⟨b, off + k, none⟩ u (Sem.pure ())).run P w = .ok () (w.setCell ⟨b, off + k, none⟩ u) := by
        cases u <;> simp_all [Sem.run, Value.oneCell']
      first
        | (rw [this]; simp only [Result.andThen_ok]; exact e1)
        | (simp only [this, Result.andThen_ok]; exact e1)
    · intro i x hx
      cases i with
      | zero =>
        simp at hx
        subst hx
        rw [Nat.add_zero]
        have hb : b < (w.setCell ⟨b, off + k, none⟩ u).heap.size := by
          have : b < w.heap.size := by
            unfold World.cell? at hv
            cases hh : w.heap[b]? with
            | none => rw [hh] at hv; simp at hv
            | some ob => exact (Array.getElem?_eq_some_iff.1 hh).1
          simpa [World.setCell] using this
        rw [(e2.cell b (off + k) hb (by rintro ⟨_, h, _⟩; omega)).1]
        exact cell_set_same hv
      | succ i =>
        have := e3 i x (by simpa using hx)
        rw [show off + k + (i + 1) = off + (k + 1) + i by omega]
        exact this
    · intro b' o'; rw [e4, frozen_set]
    · rw [e5]; simp [World.setCell]
end

section
variable {P : Program} {g : Gh} {st : St} {sv : SV}
variable {dst : Option Tmp} {ty : TypeId} {pos : String} {after : Array Edge} {guard : Option (Nat × Bool)} {x y z : Operand}

theorem RepCs.one {w : World} {S : Foot} {ρ : Env} {cs : List C} {vs : List Value} (h : RepCs w S ρ cs vs) : ∀ u ∈ vs, u.oneCell' = true := by
  intro u hu
  obtain ⟨k, hk, rfl⟩ := List.getElem_of_mem hu
  have hl := h.length
  obtain ⟨v, hv, hr⟩ := h.nth (List.getElem?_eq_getElem (by omega : k < cs.length))
  rw [List.getElem?_eq_getElem hk] at hv
  cases hv
  exact hr.one
theorem Reps.one {w : World} {S F : Foot} {cs : List D} {vs : List Value} (h : Reps w S cs vs F) : ∀ u ∈ vs, u.oneCell' = true := by
  intro u hu
  obtain ⟨k, hk, rfl⟩ := List.getElem_of_mem hu
  have hl := h.length
  obtain ⟨v, F1, hv, _, hr⟩ := h.nth (List.getElem?_eq_getElem (by omega : k < cs.length))
  rw [List.getElem?_eq_getElem hk] at hv
  cases hv
  exact hr.one

/-- A new variable. -/
theorem repG_new {w : World} {S : Foot} {ρ : Env} {cs : List C} {vs : List Value} (e : TypeId) (hS : ∀ b o, S b o → b < w.heap.size) (h : RepCs w S ρ cs vs) (ρ' : Env) (hl : Env.le ρ ρ') :
    RepG (w.alloc (.cells vs.toArray e)) S ρ' (.bx cs) (.pointer (some ⟨w.heap.size, 0, none⟩)) (rng w.heap.size 0 cs.length) := by
  have hlen := h.length
  exact ⟨w.heap.size, 0, vs, rfl, lies_alloc vs e, h.keep ((keeps_alloc _).agree hS (dis_no _)) (le_refl _) hl, le_refl _, hlen ▸ free_alloc vs e⟩
theorem a_alloc {T i : Nat} {vs : List Value} {cs : List C} (hT : zeroC P T = some vs) (hcs : vs.map scC = cs) : Acts P g ⟨dst, .alloc T, ty, pos, after, guard⟩ st (.one (.gv i)) [] [(i, .bx cs)] := by
  subst hcs
  refine ⟨fun a w S ρ F h hn K Q hK => ?_⟩
  have hn' : ρ i = none := by simpa using hn (i, .bx (vs.map scC)) (by simp)
  clear hn
  unfold zeroC at hT
  split at hT
  case h_2 => cases hT
  rename_i inf hi
  split at hT
  case h_2 => cases hT
  rename_i zv hz
  cases hb : zv.cells.toList.all Value.oneCell' with
  | false => rw [hb] at hT; cases hT
  | true =>
    rw [hb] at hT
    simp only [cond_true, Option.some.injEq] at hT
    subst hT
    have hrun : (execOp a.eval ⟨dst, .alloc T, ty, pos, after, guard⟩).run P w = .ok (.value (.pointer (some ⟨w.heap.size, 0, none⟩))) (w.alloc (.cells zv.cells.toList.toArray T)) := by
      simp [execOp, Instr.alloc, zeroValue, typeInfo, hi, hz, run_newRow, go_sem]
    unfold Oper.wp
    rw [hrun, Oper.upon_value]
    exact hK _ _ no _ _ (Done.new (S1 := no) (keeps_alloc _) hn' (fun ρ' hl _ => repG_new T h.exS (repCs_sc hb) ρ' hl) (by rintro b o ⟨rfl, _, _⟩; simp)) ⟨by simp, rfl⟩
theorem a_box {T i : Nat} {cs : List C} (hs : (opd st x).cells = some cs) : Acts P g ⟨dst, .box T x, ty, pos, after, guard⟩ st (.one (.gv i)) [] [(i, .bx cs)] := by
  refine ⟨fun a w S ρ F h hn K Q hK => ?_⟩
  have hn : ρ i = none := by simpa using hn (i, .bx cs) (by simp)
  have hc := (h.opd x).cells hs
  have hrun : (execOp a.eval ⟨dst, .box T x, ty, pos, after, guard⟩).run P w = .ok (.value (.pointer (some ⟨w.heap.size, 0, none⟩))) (w.alloc (.cells (a.eval x).cells.toList.toArray T)) := by
    show (do pure (.value (← Instr.box T (a.eval x))) : Sem Next).run P w = _
    simp [Instr.box, run_newRow, go_sem]
  unfold Oper.wp
  rw [hrun, Oper.upon_value]
  exact hK _ _ no _ _ (Done.new (S1 := no) (keeps_alloc _) hn (fun ρ' hl _ => repG_new T h.exS hc ρ' hl) (by rintro b o ⟨rfl, _, _⟩; simp)) ⟨by simp, rfl⟩

theorem lies_stored {w w' : World} {b off k : Nat} {vs us : List Value} {F0 : Foot} (hl : lies w b off vs) (hb : vs ≠ [] → b < w.heap.size) (hk : Keeps (rng b (off + k) us.length) w w') (hc : ∀ i u, us[i]? = some u → w'.cell? ⟨b, off + k + i, none⟩ = some u) (hkn : k + us.length ≤ vs.length) : lies w' b off (setRow vs k us) := by
  intro i v hv
  rw [setRow_get us vs k i hkn] at hv
  split at hv
  · rename_i hin
    have := hc (i - k) v hv
    rw [show off + k + (i - k) = off + i by omega] at this
    exact this
  · rename_i hout
    have hne : vs ≠ [] := by rintro rfl; simp at hv
    rw [(hk.cell b (off + i) (hb hne) (by rintro ⟨_, h1, h2⟩; exact hout ⟨by omega, by omega⟩)).1]
    exact hl i v hv
theorem free_stored {w w' : World} {b off k n : Nat} {us : List Value} (hf : free w b off n) (hb : 0 < n → b < w.heap.size) (hk : Keeps (rng b (off + k) us.length) w w') (hc : ∀ i u, us[i]? = some u → w'.cell? ⟨b, off + k + i, none⟩ = some u) (hfr : ∀ b' o', w'.frozen? ⟨b', o', none⟩ = w.frozen? ⟨b', o', none⟩) : free w' b off n := by
  intro i hi
  rw [hfr]
  refine ⟨?_, (hf i hi).2⟩
  by_cases hin : k ≤ i ∧ i < k + us.length
  · have := hc (i - k) _ (List.getElem?_eq_getElem (by omega : i - k < us.length))
    rw [show off + k + (i - k) = off + i by omega] at this
    rw [this]
    rfl
  · rw [(hk.cell b (off + i) (hb (by omega)) (by rintro ⟨_, h1, h2⟩; exact hin ⟨by omega, by omega⟩)).1]
    exact (hf i hi).1
theorem run_st {a : Act} {w w' : World} {T : Nat} (h : (Instr.storeAt T (a.eval x) (a.eval y)).run P w = .ok () w') : (execOp a.eval ⟨dst, .store T x y, ty, pos, after, guard⟩).run P w = .ok .skip w' := by
  show (do Instr.storeAt T (a.eval x) (a.eval y); pure .skip : Sem Next).run P w = _
  simp [h]
theorem block_lt {w : World} {b o : Nat} (h : (w.cell? ⟨b, o, none⟩).isSome = true) : b < w.heap.size := by
  unfold World.cell? at h
  cases hh : w.heap[b]? with
  | none => rw [hh] at h; simp at h
  | some ob => exact (Array.getElem?_eq_some_iff.1 hh).1
/-- A store into a variable. -/
theorem a_st_bx {T i k : Nat} {c0 : C} {cs xs cs' : List C} (hc : opd st x = .one c0) (ht : tgt st c0 = some (i, k)) (hg : lkG st.h i = .bx cs) (hs : (opd st y).cells = some xs) (hT : sizeB P T xs.length = true) (hk : k + xs.length ≤ cs.length) (he : setRow cs k xs = cs') :
    Acts P g ⟨none, .store T x y, ty, pos, after, guard⟩ st .any [i] [(i, .bx cs')] := by
  subst he
  refine ⟨fun a w S ρ F h _ K Q hK => ?_⟩
  obtain ⟨b, off, vs, e1, e2, e3, e4, e5, e6⟩ := h.tgt_bx (opd_one h hc) ht hg
  have hy := (h.opd y).cells hs
  have hyl := hy.length
  have hvl := e4.length
  have hfr : free w b (off + k) (a.eval y).cells.toList.length := by
    intro j hj
    have := e6 (k + j) (by omega)
    rwa [← Nat.add_assoc] at this
  obtain ⟨w', r1, r2, r3, r4, r5⟩ := run_stores (P := P) b (a.eval y).cells.toList 0 (off + k) w hy.one (by simpa using hfr)
  rw [Nat.add_zero] at r2 r3
  have hrun := run_st (P := P) (x := x) (y := y) (T := T) (dst := none) (ty := ty) (pos := pos) (after := after) (guard := guard) (a := a) (w := w) (w' := w') (by rw [e1]; exact run_storeAt (by rw [← Array.length_toList, hyl]; exact hT) r1)
  unfold Oper.wp
  rw [hrun, Oper.upon_skip]
  have hin : le (rng b (off + k) (a.eval y).cells.toList.length) (F i) := fun b' o' ⟨q1, q2, q3⟩ => e5 b' o' ⟨q1, by omega, by omega⟩
  have hk' := r2.mono hin
  have hbl : 0 < cs.length → b < w.heap.size := fun h0 => block_lt (e6 0 h0).1
  have hagS : Agree w w' S := hk'.agree h.exS (fun b o hb hf => h.disS i b o hf hb)
  refine hK undef w' no ρ _ (Done.chg (G := F i) hk' e2 ?_ (fun b o hb => ⟨.inl hb, by rw [r5]; exact h.ex i b o hb⟩)) trivial
  refine ⟨b, off, setRow vs k (a.eval y).cells.toList, rfl, lies_stored (F0 := no) e3 (fun hne => hbl (by rw [← hvl]; exact List.length_pos_iff.2 hne)) r2 r3 (by omega), (RepCs.setRow e4 hy).keep hagS (le_refl _) (Env.le.refl _), ?_, ?_⟩
  · rw [setRow_length]; exact e5
  · rw [setRow_length]; exact free_stored e6 hbl r2 r3 r4
theorem Reps.setRow {w : World} {S : Foot} : ∀ {xs : List D} {us : List Value} {cs : List D} {vs : List Value} {off : Nat} {G : Foot}, Reps w S cs vs G → Reps w S xs us no → off + xs.length ≤ cs.length → Reps w S (setRow cs off xs) (setRow vs off us) G
  | [], us, cs, vs, off, G, h, hx, _ => by simp only [Reps] at hx; subst hx; exact h
  | x :: xs, us, cs, vs, off, G, h, hx, hl => by
    simp only [Reps] at hx
    obtain ⟨v0, us, F1, F2, rfl, h1, h2, h3, h4, h5⟩ := hx
    simp only [List.length_cons] at hl
    have := h.set (k := off) (List.getElem?_eq_getElem (by omega)) (h4.mono h1) (no_dis _)
    rw [or_no] at this
    exact Reps.setRow (off := off + 1) this (h5.mono h2) (by simp; omega)
/-- Cells as closed data; a slice that nobody writes is taken for what it holds. -/
def cD (h : List (Nat × GB)) : C → Option D
  | .gv g => match lkG h g with
    | .sh z xs => some (.sl false z xs)
    | _ => none
  | c => c.toD
def allD (h : List (Nat × GB)) : List C → Option (List D)
  | [] => some []
  | c :: cs => match cD h c, allD h cs with | some x, some xs => some (x :: xs) | _, _ => none
theorem rel_cD {a : Act} {w : World} {S : Foot} {ρ : Env} {F : Nat → Foot} (h : Rel g st a w S ρ F) {c : C} {v : Value} {x : D} (hc : RepC w S ρ c v) (hx : cD st.h c = some x) : Rep w S x v no := by
  cases c with
  | gv i =>
    simp only [cD] at hx
    split at hx
    · rename_i z xs hk
      cases hx
      exact h.shv hc (by simp [shv, hk])
    · cases hx
  | d y => exact RepC.toD hc hx
  | gp i o => exact RepC.toD hc hx
  | gs g z lo hi => exact RepC.toD hc hx
  | ifc t ag cs => exact RepC.toD hc hx
  | fn f cs => exact RepC.toD hc hx
theorem rel_allD {a : Act} {w : World} {S : Foot} {ρ : Env} {F : Nat → Foot} (h : Rel g st a w S ρ F) : ∀ {cs : List C} {vs : List Value} {xs : List D}, RepCs w S ρ cs vs → allD st.h cs = some xs → Reps w S xs vs no
  | [], vs, xs, hc, hx => by simp only [allD, Option.some.injEq] at hx; subst hx; exact hc
  | c :: cs, vs, xs, hc, hx => by
    simp only [allD] at hx
    split at hx
    · rename_i x xs' h1 h2
      cases hx
      simp only [RepCs] at hc
      obtain ⟨v, us, rfl, h3, h4⟩ := hc
      exact ⟨v, us, no, no, rfl, le_refl _, le_refl _, no_dis _, rel_cD h h3 h1, rel_allD h h4 h2⟩
    · cases hx
/-- A store into an own slice. -/
theorem a_st_row {T i k zz : Nat} {c0 : C} {xs : List C} {ds ys ys' : List D} (hc : opd st x = .one c0) (ht : tgt st c0 = some (i, k)) (hg : lkG st.h i = .row zz ys) (hs : (opd st y).cells = some xs) (hd : allD st.h xs = some ds) (hT : sizeB P T ds.length = true) (h0 : 0 < ds.length) (hk : k + ds.length ≤ ys.length) (he : setRow ys k ds = ys') :
    Acts P g ⟨none, .store T x y, ty, pos, after, guard⟩ st .any [i] [(i, .row zz ys')] := by
  subst he
  refine ⟨fun a w S ρ F h _ K Q hK => ?_⟩
  obtain ⟨b, off, vs, G, len, cap, e1, e2, e3, e4, e5, e6, e7, e8, e9, e10, e11⟩ := h.tgt_row (opd_one h hc) ht hg (by omega)
  have hy := rel_allD h ((h.opd y).cells hs) hd
  have hyl := hy.length
  have hvl := e7.length
  have hcap : ys.length ≤ cap * zz := by rw [e3]; exact Nat.mul_le_mul_right _ e5
  have hfr : free w b (off + k) (a.eval y).cells.toList.length := by
    intro j hj
    have := e11 (k + j) (by omega)
    rwa [← Nat.add_assoc] at this
  obtain ⟨w', r1, r2, r3, r4, r5⟩ := run_stores (P := P) b (a.eval y).cells.toList 0 (off + k) w hy.one (by simpa using hfr)
  rw [Nat.add_zero] at r2 r3
  have hrun := run_st (P := P) (x := x) (y := y) (T := T) (dst := none) (ty := ty) (pos := pos) (after := after) (guard := guard) (a := a) (w := w) (w' := w') (by rw [e1]; exact run_storeAt (by rw [← Array.length_toList, hyl]; exact hT) r1)
  unfold Oper.wp
  rw [hrun, Oper.upon_skip]
  have hin : le (rng b (off + k) (a.eval y).cells.toList.length) (F i) := fun b' o' ⟨q1, q2, q3⟩ => e8 b' o' ⟨q1, by omega, by omega⟩
  have hk' := r2.mono hin
  have hbl : b < w.heap.size := block_lt (e11 0 (by omega)).1
  have hagS : Agree w w' S := hk'.agree h.exS (fun b o hb hf => h.disS i b o hf hb)
  have hagG : Agree w w' G := r2.agree (fun b o hb => h.ex i b o (e9 b o hb)) (fun b' o' hb ⟨q1, q2, q3⟩ => e10 b' o' ⟨q1, by omega, by omega⟩ hb)
  refine hK undef w' no ρ _ (Done.chg (G := F i) hk' e2 ?_ (fun b o hb => ⟨.inl hb, by rw [r5]; exact h.ex i b o hb⟩)) trivial
  simp only [RepG, Rep, if_true]
  refine ⟨_, len, cap, rfl, by rw [setRow_length]; exact e3, e4, e5, .inr ⟨b, off, setRow vs k (a.eval y).cells.toList, G, rfl, lies_stored (F0 := no) e6 (fun _ => hbl) r2 r3 (by omega), (Reps.setRow e7 hy hk).keep hagG hagS (le_refl _) (le_refl _), e8, e9, e10, ?_⟩⟩
  exact free_stored e11 (fun _ => hbl) r2 r3 r4
end
end Go.Proofs.Ytncccjpbaeaafaa
