/- Structs and slices that are built. No program in sight. -/
import Derived.Test.YtncccjpbaeaafaaG6
set_option linter.unusedVariables false
set_option linter.unusedSimpArgs false
namespace Go.Proofs.Ytncccjpbaeaafaa
open Go Foot

section
variable {P : Program} {w : World}
theorem sem_bind_pure {α : Type} (x : Sem α) : Sem.bind x Sem.pure = x := by
  induction x <;> simp only [Sem.bind, *]
theorem sem_bind_assoc {α β γ : Type} (x : Sem α) (f : α → Sem β) (k : β → Sem γ) : Sem.bind (Sem.bind x f) k = Sem.bind x (fun a => Sem.bind (f a) k) := by
  induction x <;> simp only [Sem.bind, *]
theorem sem_lawful : LawfulMonad Sem := LawfulMonad.mk' Sem (id_map := fun x => sem_bind_pure x) (pure_bind := fun x f => rfl) (bind_assoc := fun x f k => sem_bind_assoc x f k)
theorem run_lmapM {α β : Type} (k : α → Sem β) (g : α → β) : ∀ (fs : List α), (∀ f ∈ fs, (k f).run P w = .ok (g f) w) → (fs.mapM k).run P w = .ok (fs.map g) w
  | [], _ => by simp
  | f :: fs, hf => by
    haveI := sem_lawful
    rw [List.mapM_cons]
    simp only [Sem.run_bind, hf f List.mem_cons_self, Result.andThen_ok, run_lmapM k g fs (fun x hx => hf x (List.mem_cons_of_mem _ hx))]
    simp
theorem run_mapM {α β : Type} (fs : Array α) (k : α → Sem β) (g : α → β) (hf : ∀ f ∈ fs, (k f).run P w = .ok (g f) w) : (fs.mapM k).run P w = .ok (fs.map g) w := by
  haveI := sem_lawful
  rw [Array.mapM_eq_mapM_toList]
  show (Sem.bind (fs.toList.mapM k) (fun x => Sem.pure x.toArray)).run P w = _
  have h := run_lmapM (P := P) (w := w) k g fs.toList (fun f hx => hf f (by simpa using hx))
  have : (Sem.bind (fs.toList.mapM k) (fun x => Sem.pure x.toArray)).run P w = _ := Sem.run_bind _ _ _ _
  rw [this, h]
  simp only [Result.andThen_ok, Sem.run]
  congr 1
  apply Array.ext'
  simp
def sizeN (P : Program) (t : Nat) : Nat := match P.info? t with | some i => i.size | none => 0
end

/-- Two lists, side by side. -/
inductive All2 {α β : Type} (R : α → β → Prop) : List α → List β → Prop where
  | nil : All2 R [] []
  | cons {a : α} {b : β} {as : List α} {bs : List β} (h : R a b) (t : All2 R as bs) : All2 R (a :: as) (b :: bs)
/-- The parts of a struct: place, size, cells. -/
def fillC : List C → List (Nat × Nat × List C) → Option (List C)
  | zs, [] => some zs
  | zs, (off, sz, cs) :: l => bif Nat.beq cs.length sz && Nat.ble (off + sz) zs.length then fillC (setRow zs off cs) l else none
theorem fold_setRow : ∀ (l : List Value) (k off : Nat) (cs : Array Value), (l.zipIdx k).foldl (fun cs (c, j) => cs.setIfInBounds (off + j) c) cs = (setRow cs.toList (off + k) l).toArray
  | [], k, off, cs => by simp [setRow]
  | x :: l, k, off, cs => by
    have := fold_setRow l (k + 1) off (cs.setIfInBounds (off + k) x)
    simp only [List.zipIdx_cons, List.foldl_cons, setRow]
    rw [this]
    simp [Nat.add_assoc]
theorem fold_setRowA (v : Array Value) (off : Nat) (cs : Array Value) : v.zipIdx.foldl (fun cs (c, j) => cs.setIfInBounds (off + j) c) cs = (setRow cs.toList off v.toList).toArray := by
  have := fold_setRow v.toList 0 off cs
  rw [← Array.foldl_toList, Array.toList_zipIdx, this]
  rfl
section
variable {w : World} {S F : Foot} {ρ : Env}
/-- The parts as the model fills them in. -/
theorem fill_ok {place : Nat → Option (Nat × Nat)} : ∀ {l : List (Nat × Nat × List C)} {ps : List (Nat × Value)} {zs cs : List C} {vs : List Value}, fillC zs l = some cs → RepCs w S ρ zs vs →
    All2 (fun (p : Nat × Value) (q : Nat × Nat × List C) => place p.1 = some (q.1, q.2.1) ∧ RepCs w S ρ q.2.2 p.2.cells.toList) ps l →
    ∃ us, Instr.fill place vs.toArray ps = some us.toArray ∧ RepCs w S ρ cs us
  | [], ps, zs, cs, vs, h, hz, hp => by
    cases hp
    simp only [fillC, Option.some.injEq] at h
    subst h
    exact ⟨vs, rfl, hz⟩
  | (off, sz, c) :: l, ps, zs, cs, vs, h, hz, hp => by
    cases hp with
    | cons h1 h2 =>
      rename_i p ps
      obtain ⟨i, v⟩ := p
      simp only [fillC] at h
      cases hb : Nat.beq c.length sz && Nat.ble (off + sz) zs.length with
      | false => rw [hb] at h; simp at h
      | true =>
        rw [hb] at h
        simp only [cond_true] at h
        simp only [Bool.and_eq_true] at hb
        have hb1 := Nat.eq_of_beq_eq_true hb.1
        have hb2 := Nat.le_of_ble_eq_true hb.2
        have hl := h1.2.length
        have hl2 := hz.length
        simp only at h1 hl
        have hvs : v.cells.size = sz := by rw [← hb1, ← hl]; simp
        obtain ⟨us, e1, e2⟩ := fill_ok (place := place) h (RepCs.setRow (off := off) hz h1.2) h2
        refine ⟨us, ?_, e2⟩
        simp only [Instr.fill, h1.1]
        have : ¬ (v.cells.size ≠ sz || off + v.cells.size > vs.toArray.size) = true := by
          simp only [hvs, ne_eq, not_true_eq_false, decide_false, Bool.false_or, decide_eq_true_eq, List.size_toArray, hl2]
          omega
        simp only [this, Bool.false_eq_true, if_false]
        rw [fold_setRowA]
        exact e1
end

section
variable {P : Program} {g : Gh} {st : St} {sv : SV}
variable {dst : Option Tmp} {ty : TypeId} {pos : String} {after : Array Edge} {guard : Option (Nat × Bool)} {x y z : Operand}

/-- The places of the fields of a struct: place, size. -/
def fieldsB (P : Program) (T : Nat) (l : List (Nat × Nat)) : Bool := match P.underlying T with
  | some (.struct fs) => fs.all (fun f => match P.info? f.type with | some _ => true | none => false) && (fs.toList.map fun f => (f.offset, sizeN P f.type)) == l
  | _ => false
/-- Operands of parts: their places and cells. -/
def partCells (st : St) (l : List (Nat × Nat)) : List (Nat × Operand) → Option (List (Nat × Nat × List C))
  | [] => some []
  | (i, x) :: ps => match l[i]?, (opd st x).cells, partCells st l ps with
    | some (off, sz), some cs, some r => some ((off, sz, cs) :: r)
    | _, _, _ => none
theorem rel_parts {a : Act} {w : World} {S : Foot} {ρ : Env} {F : Nat → Foot} (h : Rel g st a w S ρ F) {l : List (Nat × Nat)} {place : Nat → Option (Nat × Nat)} (hpl : ∀ i, place i = l[i]?) : ∀ {ps : List (Nat × Operand)} {r : List (Nat × Nat × List C)}, partCells st l ps = some r →
    All2 (fun (p : Nat × Value) (q : Nat × Nat × List C) => place p.1 = some (q.1, q.2.1) ∧ RepCs w S ρ q.2.2 p.2.cells.toList) (ps.map (fun (i, x) => (i, a.eval x))) r
  | [], r, hr => by
    simp only [partCells, Option.some.injEq] at hr
    subst hr
    exact .nil
  | (i, x) :: ps, r, hr => by
    simp only [partCells] at hr
    split at hr
    · rename_i off sz cs r' h0 h1 h2
      simp only [Option.some.injEq] at hr
      subst hr
      exact .cons ⟨(hpl i).trans h0, (h.opd x).cells h1⟩ (rel_parts h hpl h2)
    · cases hr
theorem zeroC_spec {T : Nat} {vs : List Value} (hT : zeroC P T = some vs) : ∃ inf zv, P.info? T = some inf ∧ inf.zero = some zv ∧ zv.cells.toList = vs ∧ vs.all Value.oneCell' = true := by
  unfold zeroC at hT
  split at hT
  case h_2 => cases hT
  rename_i inf hi
  split at hT
  case h_2 => cases hT
  rename_i zv hz
  cases hb : zv.cells.toList.all Value.oneCell' with
  | false => rw [hb] at hT; cases hT
  | true =>
    rw [hb] at hT
    simp only [cond_true, Option.some.injEq] at hT
    exact ⟨inf, zv, hi, hz, hT, hT ▸ hb⟩
theorem a_build {T : Nat} {ps : List (Nat × Operand)} {l : List (Nat × Nat)} {r : List (Nat × Nat × List C)} {vs : List Value} {cs : List C} (hT : zeroC P T = some vs) (hP : fieldsB P T l = true) (hr : partCells st l ps = some r) (hf : fillC (vs.map scC) r = some cs) :
    Acts P g ⟨dst, .build T ps.toArray, ty, pos, after, guard⟩ st (.agg cs) [] [] := by
  refine acts_of fun a w S ρ F h => ?_
  obtain ⟨inf, zv, hi, hz, rfl, hall⟩ := zeroC_spec hT
  unfold fieldsB at hP
  split at hP
  case h_2 => cases hP
  rename_i fs hu
  simp only [Bool.and_eq_true, Array.all_eq_true'] at hP
  obtain ⟨hP1, hP2⟩ := hP
  have hP2 : (fs.toList.map fun f => (f.offset, sizeN P f.type)) = l := by simpa using hP2
  have hplace : ∀ i : Nat, (fun i : Nat => (fs.map fun f => (f.offset, sizeN P f.type))[i]?) i = l[i]? := by
    intro i
    rw [← hP2]
    simp
  have hpa := rel_parts h (place := fun i : Nat => (fs.map fun f => (f.offset, sizeN P f.type))[i]?) hplace hr
  obtain ⟨us, e1, e2⟩ := fill_ok hf (repCs_sc (w := w) (S := S) (ρ := ρ) hall) hpa
  have hmap : (fs.mapM (fun (f : Field) => Prod.mk f.offset <$> sizeOf f.type)).run P w = .ok (fs.map fun f => (f.offset, sizeN P f.type)) w := by
    refine run_mapM fs _ _ fun f hf => ?_
    have := hP1 f hf
    split at this
    · rename_i i hi
      show (do pure (f.offset, ← sizeOf f.type) : Sem (Nat × Nat)).run P w = _
      simp [sizeOf, typeInfo, hi, sizeN]
    · cases this
  refine ⟨.agg us.toArray, ?_, ⟨us.toArray, rfl, by simpa using e2⟩⟩
  show (do pure (.value (← Instr.build T (ps.toArray.map fun (i, x) => (i, a.eval x)))) : Sem Next).run P w = _
  have ezv : zv.cells.toList.toArray = zv.cells := by simp
  rw [ezv] at e1
  simp only [Instr.build, zeroValue, typeInfo, Sem.run_bind, hi]
  simp only [run_underlying hu, Sem.run_bind, hz]
  have e2 : Instr.fill (fun x => Option.map (fun f => (f.offset, sizeN P f.type)) fs[x]?) zv.cells (List.map (fun x : Nat × Operand => (x.fst, a.eval x.snd)) ps) = some us.toArray := by
    rw [← e1]
    congr 1
    funext i
    exact (Array.getElem?_map ..).symm
  simp [hi, hz, run_underlying hu, hmap]
  rw [e2]
  simp

theorem setRow_mid {α : Type} : ∀ (xs p r : List α), xs.length ≤ r.length → setRow (p ++ r) p.length xs = p ++ xs ++ r.drop xs.length
  | [], p, r, _ => by simp [setRow]
  | x :: xs, p, r, h => by
    cases r with
    | nil => simp at h
    | cons y r =>
      have ih := setRow_mid xs (p ++ [x]) r (by simpa using h)
      simp only [setRow]
      have e : (p ++ y :: r).set p.length x = (p ++ [x]) ++ r := by
        rw [List.set_append_right _ _ (Nat.le_refl _)]
        simp
      rw [e]
      have e2 : p.length + 1 = (p ++ [x]).length := by simp
      rw [e2, ih]
      simp
theorem fill_full {z : Nat} : ∀ (us : List Value) (k : Nat) (p r : List Value), p.length = k * z → r.length = us.length * z → (∀ u ∈ us, u.cells.size = z) →
    Instr.fill (fun i => some (i * z, z)) (p ++ r).toArray ((us.zipIdx k).map fun x => (x.2, x.1)) = some (p ++ (us.map fun u => u.cells.toList).flatten).toArray
  | [], k, p, r, hp, hr, _ => by
    have : r = [] := by simpa using hr
    subst this
    simp [Instr.fill]
  | u :: us, k, p, r, hp, hr, hu => by
    have hz := hu u List.mem_cons_self
    have hzl : u.cells.toList.length = z := by simpa using hz
    have hrl : r.length = z + us.length * z := by rw [hr, List.length_cons, Nat.add_mul, Nat.one_mul, Nat.add_comm]
    simp only [List.zipIdx_cons, List.map_cons, Instr.fill]
    have hc : ¬ (u.cells.size ≠ z || k * z + u.cells.size > (p ++ r).toArray.size) = true := by
      simp only [hz, ne_eq, not_true_eq_false, decide_false, Bool.false_or, decide_eq_true_eq, List.size_toArray, List.length_append, hp]
      omega
    simp only [hc, Bool.false_eq_true, if_false]
    rw [fold_setRowA]
    have e := setRow_mid u.cells.toList p r (by omega)
    rw [hp] at e
    simp only [e]
    have ih := fill_full us (k + 1) (p ++ u.cells.toList) (r.drop u.cells.toList.length) (by simp only [List.length_append, hp, hzl, Nat.add_mul, Nat.one_mul]) (by simp only [List.length_drop, hzl, hrl]; omega) (fun x hx => hu x (List.mem_cons_of_mem _ hx))
    rw [ih]
    simp
/-- What a slice of so many zero elements holds. -/
def repRow {α : Type} (zs : List α) (n : Nat) : List α := (List.replicate n zs).flatten
theorem repRow_len {α : Type} (zs : List α) (n : Nat) : (repRow zs n).length = n * zs.length := by simp [repRow]
theorem repRow_map {α β : Type} (f : α → β) (zs : List α) (n : Nat) : (repRow zs n).map f = repRow (zs.map f) n := by simp [repRow]
theorem zero_row (zero : Array Value) (n : Nat) : ((Array.range (n * zero.size)).map (zero[· % zero.size]!)).toList = repRow zero.toList n := by
  induction n with
  | zero => simp [repRow]
  | succ n ih =>
    have e : repRow zero.toList (n + 1) = repRow zero.toList n ++ zero.toList := by
      unfold repRow
      rw [List.replicate_succ']
      simp
    rw [e, ← ih]
    simp only [Array.toList_map, Array.toList_range]
    rw [show (n + 1) * zero.size = n * zero.size + zero.size by rw [Nat.add_mul, Nat.one_mul], List.range_add, List.map_append]
    congr 1
    apply List.ext_getElem?
    intro i
    simp only [List.getElem?_map, List.map_map]
    by_cases hi : i < zero.size
    · rw [List.getElem?_range hi]
      have : (n * zero.size + i) % zero.size = i := by rw [Nat.mul_comm, Nat.mul_add_mod]; exact Nat.mod_eq_of_lt hi
      simp [this, hi]
    · have h1 : (List.range zero.size)[i]? = none := by rw [List.getElem?_eq_none_iff]; simp; omega
      have h2 : zero.toList[i]? = none := by rw [List.getElem?_eq_none_iff]; simp; omega
      rw [h1, h2]
      rfl
/-- A new own slice. -/
theorem rep_new_sl {w : World} {S : Foot} {cs : List D} {vs : List Value} {z n : Nat} (e : TypeId) (h : Reps w S cs vs no) (hS : ∀ b o, S b o → b < w.heap.size) (hz : 0 < z) (hn : cs.length = n * z) :
    Rep (w.alloc (.cells vs.toArray e)) S (.sl true z cs) (.slice (some ⟨w.heap.size, 0, none⟩) n n) (rng w.heap.size 0 cs.length) := by
  have hk := keeps_alloc (w := w) (.cells vs.toArray e)
  have hl := h.length
  simp only [Rep, if_true]
  refine ⟨_, n, n, rfl, hn, hz, Nat.le_refl _, .inr ⟨w.heap.size, 0, vs, no, rfl, lies_alloc vs e, h.keep Agree.no (hk.agree hS (dis_no _)) (le_refl _) (le_refl _), ?_, no_le _, dis_no _, ?_⟩⟩
  · rw [← hn]; exact le_refl _
  · rw [← hn, ← hl]; exact free_alloc vs e
theorem a_make {T e i zz bytes n : Nat} {vs : List Value} {row : List D} {k1 k2 : IntKind} {m : Int} (hu : P.underlying T = some (.slice e)) (hT : zeroC P e = some vs) (hT2 : appB P T zz bytes = true) (hz0 : 0 < zz)
    (hxv : opd st x = .one (.d (.sc (.int k1 m)))) (hyv : opd st y = .one (.d (.sc (.int k2 m)))) (hm : 0 ≤ m) (hmn : m.toNat = n) (hn : m < 9223372036854775808) (hb : n * bytes ≤ 281474976710656) (hrow : repRow (vs.map scD) n = row) :
    Acts P g ⟨dst, .makeSlice T x y, ty, pos, after, guard⟩ st (.one (.gv i)) [] [(i, .row zz row)] := by
  subst hrow
  have hmn' : m = (n : Int) := by omega
  subst hmn'
  clear hmn hm
  refine ⟨fun a w S ρ F h hfr K Q hK => ?_⟩
  have hfr' : ρ i = none := by simpa using hfr _ (List.mem_singleton.2 rfl)
  clear hfr
  obtain ⟨inf, zv, hi, hz, rfl, hall⟩ := zeroC_spec hT
  unfold appB at hT2
  rw [hu] at hT2
  simp only [hi, hz, Bool.and_eq_true] at hT2
  obtain ⟨⟨h1, h2⟩, h3⟩ := hT2
  have h1 := Nat.eq_of_beq_eq_true h1
  have h2 := Nat.eq_of_beq_eq_true h2
  have h3 := Nat.eq_of_beq_eq_true h3
  subst h1 h2
  have hw : IntKind.i64.wrap (n : Int) = n := by
    simp only [IntKind.wrap, IntKind.signed, IntKind.bits]
    simp
    omega
  have hcells : ((Array.range (n * inf.size)).map (zv.cells[· % zv.cells.size]!)) = (repRow zv.cells.toList n).toArray := by
    apply Array.ext'
    rw [← h3, zero_row]
  have hcells0 : n * inf.size = 0 → (repRow zv.cells.toList n) = [] := by
    intro h0
    apply List.eq_nil_of_length_eq_zero
    rw [repRow_len]
    simp [h3, h0]
  have hb' : ¬ (2 ^ 48 < (inf.bytes : Int) * n) := by
    have : ((n * inf.bytes : Nat) : Int) ≤ ((281474976710656 : Nat) : Int) := Int.ofNat_le.2 hb
    rw [Nat.mul_comm, Int.natCast_mul] at this
    exact Int.not_lt.2 this
  have hrun : (execOp a.eval ⟨dst, .makeSlice T x y, ty, pos, after, guard⟩).run P w = .ok (.value (.slice (some ⟨w.heap.size, 0, none⟩) n n)) (w.alloc (.cells (repRow zv.cells.toList n).toArray e)) := by
    show (do pure (.value (← Instr.makeSlice T (a.eval x) (a.eval y))) : Sem Next).run P w = _
    rw [opd_sc h hxv, opd_sc h hyv]
    have hnn : ¬ ((n : Int) < 0) := by omega
    unfold Instr.makeSlice
    simp only [Sem.run_bind, run_underlying hu, Result.andThen_ok, asInt, typeInfo, hi]
    simp only [go_sem, Sem.run_bind, Sem.run_pure, Result.andThen_ok, hw, hi, hnn, hb', decide_false, Bool.or_false, Bool.or_self, Int.lt_irrefl, gt_iff_lt, Bool.false_eq_true, if_false, Int.toNat_natCast, askRoom, sizeOf, typeInfo]
    have hb2 : ¬ ((281474976710656 : Int) < inf.bytes * n) := hb'
    by_cases h0 : n * inf.size = 0
    · have hr0 : Array.map (fun _ => (default : Value)) (Array.range 0) = (repRow zv.cells.toList n).toArray := by rw [hcells0 h0]; simp
      simp [h0, run_newRow, hi, hb2]
      first
        | exact congrArg (fun c => w.alloc (.cells c e)) hr0
        | exact congrArg (fun c => Result.ok (Next.value (Value.slice (some ⟨w.heap.size, 0, none⟩) n n)) (w.alloc (.cells c e))) hr0
    · simp [h0, hi, hz, zeroValue, typeInfo, run_newRow, hb2]
      first
        | exact congrArg (fun c => w.alloc (.cells c e)) hcells
        | exact congrArg (fun c => Result.ok (Next.value (Value.slice (some ⟨w.heap.size, 0, none⟩) n n)) (w.alloc (.cells c e))) hcells
  unfold Oper.wp
  rw [hrun, Oper.upon_value]
  have hallr : (repRow zv.cells.toList n).all Value.oneCell' = true := by
    rw [List.all_eq_true] at hall ⊢
    intro u hu
    simp only [repRow, List.mem_flatten, List.mem_replicate] at hu
    obtain ⟨l, ⟨_, rfl⟩, hu⟩ := hu
    exact hall u hu
  have hrep := rep_new_sl (w := w) (S := S) (z := inf.size) (n := n) e (reps_sc hallr) h.exS hz0 (by rw [List.length_map, repRow_len]; simp [h3])
  rw [repRow_map] at hrep
  refine hK _ _ no _ _ (Done.new (S1 := no) (keeps_alloc _) hfr' (fun ρ' hl _ => hrep) ?_) ⟨by simp, rfl⟩
  rintro b o ⟨rfl, _, _⟩
  simp

/-- The cells of operands, one behind the other; each has `z` cells. -/
def catCells (st : St) (z : Nat) : List (Nat × Operand) → Option (List C)
  | [] => some []
  | (_, x) :: l => match (opd st x).cells, catCells st z l with
    | some cs, some r => bif Nat.beq cs.length z then some (cs ++ r) else none
    | _, _ => none
theorem rel_cat {a : Act} {w : World} {S : Foot} {ρ : Env} {F : Nat → Foot} (h : Rel g st a w S ρ F) {z : Nat} : ∀ {xs : List (Nat × Operand)} {cs : List C}, catCells st z xs = some cs →
    RepCs w S ρ cs (((xs.map (·.2)).map a.eval).map fun u => u.cells.toList).flatten ∧ (∀ u ∈ (xs.map (·.2)).map a.eval, u.cells.size = z) ∧ cs.length = xs.length * z
  | [], cs, hc => by
    simp only [catCells, Option.some.injEq] at hc
    subst hc
    exact ⟨rfl, by simp, by simp⟩
  | (i, x) :: xs, cs, hc => by
    simp only [catCells] at hc
    split at hc
    · rename_i cs1 r h1 h2
      cases hb : Nat.beq cs1.length z with
      | false => rw [hb] at hc; cases hc
      | true =>
        rw [hb] at hc
        simp only [cond_true, Option.some.injEq] at hc
        subst hc
        have hz := Nat.eq_of_beq_eq_true hb
        obtain ⟨i1, i2, i3⟩ := rel_cat h h2
        have h3 := (h.opd x).cells h1
        have hl := h3.length
        refine ⟨by simpa using RepCs.append h3 i1, ?_, ?_⟩
        · intro u hu
          simp only [List.map_cons, List.mem_cons] at hu
          rcases hu with rfl | hu
          · rw [← hz, ← hl]; simp
          · exact i2 u hu
        · simp only [List.length_append, i3, hz, List.length_cons, Nat.add_mul, Nat.one_mul]
          omega
    · cases hc
/-- The parts of a slice literal stand in order. -/
def inOrder : Nat → List (Nat × Operand) → Bool
  | _, [] => true
  | k, (i, _) :: l => Nat.beq i k && inOrder (k + 1) l
theorem inOrder_eq {f : Operand → Value} : ∀ {l : List (Nat × Operand)} {k : Nat}, inOrder k l = true → l.map (fun x => (x.1, f x.2)) = (((l.map (·.2)).map f).zipIdx k).map fun x => (x.2, x.1)
  | [], _, _ => rfl
  | (i, x) :: l, k, h => by
    simp only [inOrder, Bool.and_eq_true] at h
    have := Nat.eq_of_beq_eq_true h.1
    subst this
    simp [inOrder_eq (f := f) h.2]
theorem a_lit {T z bytes n i : Nat} {ps : List (Nat × Operand)} {cs : List C} {row : List D} (hT : appB P T z bytes = true) (hz0 : 0 < z) (hn : ps.length = n) (hsm : n * z ≤ 16777216) (ho : inOrder 0 ps = true) (hc : catCells st z ps = some cs) (hd : allD st.h cs = some row) :
    Acts P g ⟨dst, .buildSlice T n ps.toArray, ty, pos, after, guard⟩ st (.one (.gv i)) [] [(i, .row z row)] := by
  refine ⟨fun a w S ρ F h hfr K Q hK => ?_⟩
  have hfr' : ρ i = none := by simpa using hfr _ (List.mem_singleton.2 rfl)
  clear hfr
  obtain ⟨h1, h2, h3⟩ := rel_cat h hc
  have h1 := rel_allD h h1 hd
  have hl1 := h1.length
  unfold appB at hT
  split at hT
  case h_2 => cases hT
  rename_i e hu
  split at hT
  case h_2 => cases hT
  rename_i inf hi
  simp only [Bool.and_eq_true] at hT
  obtain ⟨⟨hz1, hb1⟩, hz3⟩ := hT
  have hz1 := Nat.eq_of_beq_eq_true hz1
  subst hz1
  split at hz3
  case h_2 => cases hz3
  rename_i zv hzv
  generalize hvs : ((ps.map (·.2)).map a.eval |>.map fun u => u.cells.toList).flatten = vs at h1 hl1
  have hvl : vs.length = n * inf.size := by
    rw [← hvs, List.length_flatten, List.map_map]
    have : ∀ l : List Value, (∀ u ∈ l, u.cells.size = inf.size) → (l.map (List.length ∘ fun u : Value => u.cells.toList)).sum = l.length * inf.size := by
      intro l
      induction l with
      | nil => simp
      | cons u l ih =>
        intro hu
        simp only [List.map_cons, List.sum_cons, Function.comp, Array.length_toList, hu u List.mem_cons_self, List.length_cons, Nat.add_mul, Nat.one_mul]
        have := ih (fun x hx => hu x (List.mem_cons_of_mem _ hx))
        simp only [Function.comp_def, Array.length_toList] at this ⊢
        omega
    rw [this _ h2]
    simp [hn]
  have hfill : ∀ A : Array Value, A.size = n * inf.size → Instr.fill (fun j => some (j * inf.size, inf.size)) A (ps.toArray.map fun (j, x) => (j, a.eval x)).toList = some vs.toArray := by
    intro A hA
    have e1 : (ps.toArray.map fun (j, x) => (j, a.eval x)).toList = ps.map (fun x => (x.1, a.eval x.2)) := by simp
    rw [e1, inOrder_eq (f := a.eval) ho]
    have := fill_full (z := inf.size) ((ps.map (·.2)).map a.eval) 0 [] A.toList (by simp) (by simp [hA, hn]) h2
    rw [hvs] at this
    simpa using this
  have hrun : (execOp a.eval ⟨dst, .buildSlice T n ps.toArray, ty, pos, after, guard⟩).run P w = .ok (.value (.slice (some ⟨w.heap.size, 0, none⟩) n n)) (w.alloc (.cells vs.toArray e)) := by
    show (do pure (.value (← Instr.buildSlice T n (ps.toArray.map fun (j, x) => (j, a.eval x)))) : Sem Next).run P w = _
    generalize (ps.toArray.map fun (j, x) => (j, a.eval x)) = PS at hfill ⊢
    have hsm' : ¬ (n * inf.size > 16777216) := by omega
    unfold Instr.buildSlice
    by_cases h0 : n * inf.size = 0
    · have hf := hfill (Array.map (fun _ => default) (Array.range 0)) (by simp [h0])
      simp [run_underlying hu, sizeOf, typeInfo, hi, h0, hf, run_newRow]
    · have hf := hfill (Array.map (fun x => zv.cells[x % zv.cells.size]!) (Array.range (n * inf.size))) (by simp)
      generalize hC : zv.cells = CC at hf
      simp [run_underlying hu, sizeOf, typeInfo, hi, h0, hsm', zeroValue, hzv, hC, hf, run_newRow]
  unfold Oper.wp
  rw [hrun, Oper.upon_value]
  have hrep := rep_new_sl (w := w) (S := S) (z := inf.size) (n := n) e h1 h.exS hz0 (by rw [← hl1, hvl])
  refine hK _ _ no _ _ (Done.new (S1 := no) (keeps_alloc _) hfr' (fun ρ' hl _ => hrep) ?_) ⟨by simp, rfl⟩
  rintro b o ⟨rfl, _, _⟩
  simp
end
end Go.Proofs.Ytncccjpbaeaafaa
