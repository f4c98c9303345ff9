/- Operations that compute or load: what they yield, in terms of slots and roots. No program in sight. -/
import Derived.Test.YtncccjpbaeaafaaG3
set_option linter.unusedVariables false
set_option linter.unusedSimpArgs false
namespace Go.Proofs.Ytncccjpbaeaafaa
open Go Foot

/-- Closed facts on types. -/
def fieldB (P : Program) (s f off : Nat) : Bool := match P.underlying s with
  | some (.struct fs) => match fs[f]? with
    | some fd => Nat.beq fd.offset off && (match P.info? fd.type with | some i => !Nat.beq i.size 0 | none => false)
    | none => false
  | _ => false
def cellB (P : Program) (t : Nat) : Bool := match P.underlying t with
  | some (.struct _) | some (.array _ _) | none => false
  | some _ => match P.info? t with | some i => Nat.beq i.size 1 | none => false
def aggB (P : Program) (t n : Nat) : Bool := match P.underlying t with
  | some (.struct _) | some (.array _ _) => match P.info? t with | some i => Nat.beq i.size n | none => false
  | _ => false
def sliceB (P : Program) (t sz : Nat) : Bool := match P.underlying t with
  | some (.slice e) => match P.info? e with | some i => Nat.beq i.size sz | none => false
  | _ => false

section
variable {P : Program} {w : World}
theorem addr_add (b o n : Nat) : (⟨b, o, none⟩ : Addr).add n = ⟨b, o + n, none⟩ := by
  unfold Addr.add
  split
  · rename_i h; subst h; rfl
  · rfl
theorem run_fieldAt {s f off b o : Nat} (hT : fieldB P s f off = true) : (Instr.fieldAt s (.pointer (some ⟨b, o, none⟩)) f).run P w = .ok (.pointer (some ⟨b, o + off, none⟩)) w := by
  unfold fieldB at hT
  split at hT
  · rename_i fs hu
    split at hT
    · rename_i fd hf
      simp only [Bool.and_eq_true] at hT
      obtain ⟨h1, h2⟩ := hT
      obtain rfl := Nat.eq_of_beq_eq_true h1
      split at h2
      · rename_i i hi
        have hi0 : i.size ≠ 0 := by intro e; rw [e] at h2; exact absurd h2 (by decide)
        simp [Instr.fieldAt, run_underlying hu, hf, Instr.sureAddr, fieldPlace, sizeOf, typeInfo, hi, hi0, addr_add]
      · cases h2
    · cases hT
  · cases hT
theorem isAgg_cell {t : Nat} (hT : cellB P t = true) (w : World) : (isAgg t).run P w = .ok false w := by
  unfold cellB at hT
  unfold isAgg
  split at hT
  · cases hT
  · cases hT
  · cases hT
  · rename_i d h1 h2 h3 h4
    simp only [Sem.run_bind, run_underlying h4, Result.andThen_ok]
    first | rfl | (split <;> first | rfl | (rename_i h; cases h4; first | exact absurd rfl (h2 _) | exact absurd rfl (h3 _ _)))
theorem isAgg_agg {t n : Nat} (hT : aggB P t n = true) (w : World) : (isAgg t).run P w = .ok true w := by
  unfold aggB at hT
  unfold isAgg
  split at hT
  · rename_i h4
    simp only [Sem.run_bind, run_underlying h4, Result.andThen_ok]
    rfl
  · rename_i h4
    simp only [Sem.run_bind, run_underlying h4, Result.andThen_ok]
    rfl
  · cases hT
theorem sizeOf_agg {t n : Nat} (hT : aggB P t n = true) (w : World) : (sizeOf t).run P w = .ok n w := by
  unfold aggB at hT
  split at hT
  · split at hT
    · rename_i i hi
      have : i.size = n := by simpa using hT
      simp [sizeOf, typeInfo, hi, this]
    · cases hT
  · split at hT
    · rename_i i hi
      have : i.size = n := by simpa using hT
      simp [sizeOf, typeInfo, hi, this]
    · cases hT
  · cases hT
theorem run_loadCells (b : Nat) : ∀ (n i off : Nat) (vs : List Value) (acc : Array Value), lies w b (off + i) vs → vs.length = n → (loadCellsFrom ⟨b, off, none⟩ i n acc).run P w = .ok (acc ++ vs.toArray) w
  | 0, i, off, vs, acc, _, hn => by
    have : vs = [] := by cases vs with | nil => rfl | cons _ _ => simp at hn
    subst this
    simp [loadCellsFrom]
  | n + 1, i, off, vs, acc, hl, hn => by
    cases vs with
    | nil => simp at hn
    | cons v vs =>
      have h0 : w.cell? ⟨b, off + i, none⟩ = some v := by simpa using hl 0 v rfl
      have ih := run_loadCells b n (i + 1) off vs (acc.push v) (by intro j u hu; have := hl (j + 1) u (by simpa using hu); rw [show off + (i + 1) + j = off + i + (j + 1) by omega]; exact this) (by simpa using hn)
      unfold loadCellsFrom
      rw [addr_add]
      simp only [Sem.run_bind, load, Sem.run, h0, Result.andThen_ok, ih]
      congr 1
      simp
theorem run_load_cell {t b off : Nat} {v : Value} (hT : cellB P t = true) (hc : w.cell? ⟨b, off, none⟩ = some v) : (Instr.loadAt t (.pointer (some ⟨b, off, none⟩))).run P w = .ok v w := by
  simp [Instr.loadAt, Instr.sureAddr, loadVar, isAgg_cell hT, hc, go_sem]
theorem run_load_agg {t b off n : Nat} {vs : List Value} (hT : aggB P t n = true) (hl : lies w b off vs) (hn : vs.length = n) : (Instr.loadAt t (.pointer (some ⟨b, off, none⟩))).run P w = .ok (.agg vs.toArray) w := by
  have := run_loadCells (P := P) (w := w) b n 0 off vs #[] (by simpa using hl) hn
  simp [Instr.loadAt, Instr.sureAddr, loadVar, isAgg_agg hT, sizeOf_agg hT, loadCells, this]
theorem run_indexAt {t sz b o n cap : Nat} {k : IntKind} {i : Int} (hT : sliceB P t sz = true) (h0 : 0 ≤ i) (hn : i < n) :
    (Instr.indexAt t (.slice (some ⟨b, o, none⟩) n cap) (.int k i)).run P w = .ok (.pointer (some ⟨b, o + i.toNat * sz, none⟩)) w := by
  unfold sliceB at hT
  split at hT
  · rename_i e hu
    split at hT
    · rename_i inf hi'
      have hs : inf.size = sz := by simpa using hT
      subst hs
      simp [Instr.indexAt, asIntOf, run_underlying hu, h0, hn, sizeOf, typeInfo, hi', addr_add]
    · cases hT
  · cases hT

/-- What a sum, a comparison yields. -/
def binV (op : BinOp) (x y : Value) : Option Value := match x, y with
  | .int k a, .int k' b => match op with
    | .shl => some (.int k (k.wrap (a * 2 ^ min b.toNat k.bits)))
    | .shr => some (.int k (a.fdiv (2 ^ min b.toNat k.bits)))
    | op => if k = k' then (match op with
      | .add => some (.int k (k.wrap (a + b)))
      | .sub => some (.int k (k.wrap (a - b)))
      | .mul => some (.int k (k.wrap (a * b)))
      | .quo => some (.int k (k.wrap (a.tdiv b)))
      | .rem => some (.int k (a.tmod b))
      | .eql => some (.bool (decide (a = b)))
      | .neq => some (.bool (!decide (a = b)))
      | .lss => some (.bool (decide (a < b)))
      | .leq => some (.bool (decide (a ≤ b)))
      | .gtr => some (.bool (decide (b < a)))
      | .geq => some (.bool (decide (b ≤ a)))
      | .and => some (.int k (k.wrap (BitVec.ofInt k.bits a &&& BitVec.ofInt k.bits b).toNat))
      | .or => some (.int k (k.wrap (BitVec.ofInt k.bits a ||| BitVec.ofInt k.bits b).toNat))
      | .xor => some (.int k (k.wrap (BitVec.ofInt k.bits a ^^^ BitVec.ofInt k.bits b).toNat))
      | .andNot => some (.int k (k.wrap (BitVec.ofInt k.bits a &&& ~~~BitVec.ofInt k.bits b).toNat))
      | _ => none) else none
  | .string a, .string b => match op with
    | .add => some (.string (a ++ b))
    | .eql => some (.bool (a.toList == b.toList))
    | .neq => some (.bool (!(a.toList == b.toList)))
    | .lss => some (.bool (Op.bytesLess a.toList b.toList))
    | .leq => some (.bool (Op.bytesLess a.toList b.toList || a.toList == b.toList))
    | .gtr => some (.bool (!(Op.bytesLess a.toList b.toList || a.toList == b.toList)))
    | .geq => some (.bool (!Op.bytesLess a.toList b.toList))
    | _ => none
  | _, _ => none
/-- What it asks. -/
def binOb (op : BinOp) (x y : Value) : Prop := match op, x, y with
  | .quo, .int _ _, .int _ b => b ≠ 0
  | .rem, .int _ _, .int _ b => b ≠ 0
  | .shl, .int _ _, .int _ b => 0 ≤ b
  | .shr, .int _ _, .int _ b => 0 ≤ b
  | .add, .string a, .string b => a.size + b.size ≤ 9223372036854775807
  | _, _, _ => True
theorem run_bin {op : BinOp} {x y v : Value} (t : TypeId) (h : binV op x y = some v) (ho : binOb op x y) : (binOp op t x y).run P w = .ok v w := by
  cases x with
  | int k a =>
    cases y with
    | int k' b =>
      by_cases hk : k = k'
      · subst hk
        cases op <;> simp only [binV, if_true, Option.some.injEq, reduceCtorEq] at h <;> subst h <;> simp only [binOb] at ho <;> simp [binOp, Op.intArith, Op.intDiv, Op.intBits, Op.intCmp, Op.shift, ho, go_sem] <;> first | rfl | (split <;> first | omega | rfl)
      · cases op <;> simp only [binV, hk, if_false, Option.some.injEq, reduceCtorEq] at h <;> subst h <;> simp only [binOb] at ho <;> simp [binOp, Op.shift, go_sem] <;> exact ho
    | _ => simp [binV] at h
  | string a =>
    cases y with
    | string b =>
      cases op <;> simp only [binV, Option.some.injEq, reduceCtorEq] at h <;> subst h <;> simp only [binOb] at ho <;> simp [binOp, Op.stringOp]
      omega
    | _ => simp [binV] at h
  | _ => simp [binV] at h
theorem run_guard {op : BinOp} {x y v : Value} (t : TypeId) (p q : Operand) (h : binV op x y = some v) : (eqGuard op t p q x y).run P w = .ok () w := by
  unfold eqGuard
  cases x with
  | int k a => cases y <;> first | (cases op <;> simp) | simp [binV] at h
  | string a => cases y <;> first | (cases op <;> simp) | simp [binV] at h
  | _ => simp [binV] at h
def unV (op : UnOp) (x : Value) : Option Value := match op, x with
  | .not, .bool b => some (.bool (!b))
  | .neg, .int k n => some (.int k (k.wrap (0 - n)))
  | _, _ => none
theorem run_un {op : UnOp} {x v : Value} (h : unV op x = some v) : (Op.unary op x).run P w = .ok v w := by
  cases op <;> cases x <;> simp [unV] at h <;> subst h <;> simp [Op.unary, Op.intArith]
end

/-- How many elements. -/
def cnt (z : Nat) (row : List D) : Nat := row.length / z
/-- The cells of an element. -/
def elem (z : Nat) (row : List D) (i : Nat) : List D := (row.drop (i * z)).take z
/-- A slice that nobody writes. -/
def shv (st : St) : C → Option (Nat × List D)
  | .d (.sl false z xs) => some (z, xs)
  | .gv g => match lkG st.h g with
    | .sh z xs => some (z, xs)
    | _ => none
  | _ => none
/-- A slice, whoever owns it. -/
def slv (st : St) : C → Option (Nat × List D)
  | .d (.sl _ z xs) => some (z, xs)
  | .gv g => match lkG st.h g with
    | .sh z xs => some (z, xs)
    | .row z xs => some (z, xs)
    | _ => none
  | _ => none
/-- A place in the row of a root. -/
def tgt (st : St) : C → Option (Nat × Nat)
  | .gp g o => some (g, o)
  | .gv g => match lkG st.h g with
    | .bx _ => some (g, 0)
    | _ => none
  | _ => none

section
variable {P : Program} {g : Gh} {o : Oper} {st : St} {sv : SV} {a : Act} {w : World} {S : Foot} {ρ : Env} {F : Nat → Foot}

theorem Rel.shv (h : Rel g st a w S ρ F) {c : C} {v : Value} {z : Nat} {xs : List D} (hc : RepC w S ρ c v) (hs : shv st c = some (z, xs)) : Rep w S (.sl false z xs) v no := by
  unfold Go.Proofs.Ytncccjpbaeaafaa.shv at hs
  split at hs
  · simp only [Option.some.injEq, Prod.mk.injEq] at hs
    obtain ⟨rfl, rfl⟩ := hs
    exact hc
  · rename_i i
    split at hs
    · rename_i z' xs' hk
      simp only [Option.some.injEq, Prod.mk.injEq] at hs
      obtain ⟨rfl, rfl⟩ := hs
      rcases h.root i with h0 | ⟨u, h1, h2⟩
      · rw [hk] at h0; cases h0
      · rw [hk] at h2
        rw [hc.1] at h1
        cases h1
        exact h2
    · cases hs
  · cases hs
theorem Rel.slv (h : Rel g st a w S ρ F) {c : C} {v : Value} {z : Nat} {xs : List D} (hc : RepC w S ρ c v) (hs : slv st c = some (z, xs)) : ∃ ow G, Rep w S (.sl ow z xs) v G := by
  unfold Go.Proofs.Ytncccjpbaeaafaa.slv at hs
  split at hs
  · rename_i ow z' xs'
    simp only [Option.some.injEq, Prod.mk.injEq] at hs
    obtain ⟨rfl, rfl⟩ := hs
    exact ⟨ow, no, hc⟩
  · rename_i i
    split at hs
    · rename_i z' xs' hk
      simp only [Option.some.injEq, Prod.mk.injEq] at hs
      obtain ⟨rfl, rfl⟩ := hs
      rcases h.root i with h0 | ⟨u, h1, h2⟩
      · rw [hk] at h0; cases h0
      · rw [hk] at h2
        rw [hc.1] at h1
        cases h1
        exact ⟨false, no, h2⟩
    · rename_i z' xs' hk
      simp only [Option.some.injEq, Prod.mk.injEq] at hs
      obtain ⟨rfl, rfl⟩ := hs
      rcases h.root i with h0 | ⟨u, h1, h2⟩
      · rw [hk] at h0; cases h0
      · rw [hk] at h2
        rw [hc.1] at h1
        cases h1
        exact ⟨true, F i, h2⟩
    · cases hs
  · cases hs
theorem sl_len {ow : Bool} {z : Nat} {xs : List D} {v : Value} {G : Foot} (h : Rep w S (.sl ow z xs) v G) : ∃ ad len cap, v = .slice ad len cap ∧ xs.length = len * z ∧ 0 < z ∧ len ≤ cap ∧ cnt z xs = len := by
  simp only [Rep] at h
  obtain ⟨ad, len, cap, rfl, h1, h2, h3, _⟩ := h
  exact ⟨ad, len, cap, rfl, h1, h2, h3, by unfold cnt; rw [h1]; exact Nat.mul_div_cancel _ h2⟩
/-- Where a place of a variable lies. -/
theorem Rel.tgt_bx (h : Rel g st a w S ρ F) {c : C} {v : Value} {i k : Nat} {cs : List C} (hc : RepC w S ρ c v) (ht : tgt st c = some (i, k)) (hg : lkG st.h i = .bx cs) :
    ∃ b off vs, v = .pointer (some ⟨b, off + k, none⟩) ∧ ρ i = some (.pointer (some ⟨b, off, none⟩)) ∧ lies w b off vs ∧ RepCs w S ρ cs vs ∧ le (rng b off cs.length) (F i) ∧ free w b off cs.length := by
  rcases h.root i with h0 | ⟨u, h1, h2⟩
  · rw [hg] at h0; cases h0
  rw [hg] at h2
  simp only [RepG] at h2
  obtain ⟨b, off, vs, rfl, e1, e2, e3, e4⟩ := h2
  unfold Go.Proofs.Ytncccjpbaeaafaa.tgt at ht
  split at ht
  · simp only [Option.some.injEq, Prod.mk.injEq] at ht
    obtain ⟨rfl, rfl⟩ := ht
    simp only [RepC] at hc
    obtain ⟨u, b', off', f1, f2, rfl⟩ := hc
    rw [h1] at f1
    cases f1
    simp only [base, Option.some.injEq, Prod.mk.injEq] at f2
    obtain ⟨rfl, rfl⟩ := f2
    exact ⟨b, off, vs, rfl, h1, e1, e2, e3, e4⟩
  · split at ht
    · simp only [Option.some.injEq, Prod.mk.injEq] at ht
      obtain ⟨rfl, rfl⟩ := ht
      have := hc.1
      rw [h1] at this
      cases this
      exact ⟨b, off, vs, rfl, h1, e1, e2, e3, e4⟩
    · cases ht
  · cases ht
theorem Rel.tgt_row (h : Rel g st a w S ρ F) {c : C} {v : Value} {i k z : Nat} {xs : List D} (hc : RepC w S ρ c v) (ht : tgt st c = some (i, k)) (hg : lkG st.h i = .row z xs) (hk : k < xs.length) :
    ∃ b off vs G len cap, v = .pointer (some ⟨b, off + k, none⟩) ∧ ρ i = some (.slice (some ⟨b, off, none⟩) len cap) ∧ xs.length = len * z ∧ 0 < z ∧ len ≤ cap ∧ lies w b off vs ∧ Reps w S xs vs G ∧ le (rng b off (cap * z)) (F i) ∧ le G (F i) ∧ Foot.dis (rng b off (cap * z)) G ∧ free w b off (cap * z) := by
  rcases h.root i with h0 | ⟨u, h1, h2⟩
  · rw [hg] at h0; cases h0
  rw [hg] at h2
  simp only [RepG, Rep, if_true] at h2
  obtain ⟨ad, len, cap, rfl, e1, e2, e3, e4⟩ := h2
  rcases e4 with ⟨rfl, _⟩ | ⟨b, off, vs, G, rfl, f1, f2, f3, f4, f5, f6⟩
  · have : len = 0 := by omega
    subst this
    simp at e1
    subst e1
    simp at hk
  unfold Go.Proofs.Ytncccjpbaeaafaa.tgt at ht
  split at ht
  · simp only [Option.some.injEq, Prod.mk.injEq] at ht
    obtain ⟨rfl, rfl⟩ := ht
    simp only [RepC] at hc
    obtain ⟨u, b', off', k1, k2, rfl⟩ := hc
    rw [h1] at k1
    cases k1
    simp only [base, Option.some.injEq, Prod.mk.injEq] at k2
    obtain ⟨rfl, rfl⟩ := k2
    exact ⟨b, off, vs, G, len, cap, rfl, h1, e1, e2, e3, f1, f2, f3, f4, f5, f6⟩
  · split at ht
    · rename_i hk'
      simp only [Option.some.injEq, Prod.mk.injEq] at ht
      obtain ⟨rfl, rfl⟩ := ht
      rw [hg] at hk'
      cases hk'
    · cases ht
  · cases ht
theorem opd_sc (h : Rel g st a w S ρ F) {x : Operand} {v : Value} (hv : opd st x = .one (.d (.sc v))) : a.eval x = v := by
  have := h.opd x
  rw [hv] at this
  exact this.1
theorem opd_one (h : Rel g st a w S ρ F) {x : Operand} {c : C} (hv : opd st x = .one c) : RepC w S ρ c (a.eval x) := by
  have := h.opd x
  rw [hv] at this
  exact this

section
variable {dst : Option Tmp} {ty : TypeId} {pos : String} {after : Array Edge} {guard : Option (Nat × Bool)} {x y z : Operand}

theorem a_move (hv : opd st x = sv) : Acts P g ⟨dst, .move x, ty, pos, after, guard⟩ st sv [] [] := acts_of fun a w S ρ F h => ⟨_, rfl, hv ▸ h.opd x⟩
theorem a_assign (hv : opd st x = sv) : Acts P g ⟨dst, .assign x, ty, pos, after, guard⟩ st sv [] [] := acts_of fun a w S ρ F h => ⟨_, rfl, hv ▸ h.opd x⟩
theorem a_pick {b : Bool} (hb : opd st x = .one (.d (.sc (.bool b)))) (hv : (bif b then opd st y else opd st z) = sv) : Acts P g ⟨dst, .pick x y z, ty, pos, after, guard⟩ st sv [] [] := by
  refine acts_of fun a w S ρ F h => ⟨bif b then a.eval y else a.eval z, ?_, ?_⟩
  · have e := opd_sc h hb
    show (do pure (.value (if ← asBool (a.eval x) then a.eval y else a.eval z)) : Sem Next).run P w = _
    rw [e]
    cases b <;> simp [asBool]
  · subst hv
    cases b
    · exact h.opd z
    · exact h.opd y
theorem a_bin {op : BinOp} {T U : TypeId} {v1 v2 v : Value} (e1 : opd st x = .one (.d (.sc v1))) (e2 : opd st y = .one (.d (.sc v2))) (hv : binV op v1 v2 = some v) (ho : binOb op v1 v2) :
    Acts P g ⟨dst, .binOp op T x y U, ty, pos, after, guard⟩ st (.one (.d (.sc v))) [] [] := by
  refine acts_of fun a w S ρ F h => ⟨v, ?_, ⟨rfl, ?_⟩⟩
  · show (do pure (.value (← (do eqGuard op T x y (a.eval x) (a.eval y); binOp op T (a.eval x) (a.eval y)))) : Sem Next).run P w = _
    rw [opd_sc h e1, opd_sc h e2]
    simp [run_guard T x y hv, run_bin T hv ho]
  · cases v1 <;> cases v2 <;> simp only [binV, reduceCtorEq] at hv
    · cases op <;> simp only [Option.some.injEq, reduceCtorEq] at hv <;> (try split at hv) <;> first | (simp at hv; done) | (simp at hv; subst hv; rfl) | (subst hv; rfl)
    · cases op <;> simp only [Option.some.injEq, reduceCtorEq] at hv <;> subst hv <;> rfl
theorem a_un {op : UnOp} {T : TypeId} {v1 v : Value} (e1 : opd st x = .one (.d (.sc v1))) (hv : unV op v1 = some v) : Acts P g ⟨dst, .unOp op T x, ty, pos, after, guard⟩ st (.one (.d (.sc v))) [] [] := by
  refine acts_of fun a w S ρ F h => ⟨v, ?_, ⟨rfl, ?_⟩⟩
  · show (do pure (.value (← Op.unary op (a.eval x))) : Sem Next).run P w = _
    rw [opd_sc h e1]
    simp [run_un hv]
  · cases op <;> cases v1 <;> simp [unV] at hv <;> subst hv <;> rfl
def intT (P : Program) (T : Nat) (k : IntKind) : Prop := P.underlying T = some (.int k)
theorem a_conv {T U : TypeId} {k k' : IntKind} {n : Int} (e1 : opd st x = .one (.d (.sc (.int k' n)))) (hT : (P.underlying T).isSome = true) (hU : intT P U k) : Acts P g ⟨dst, .convert T U x, ty, pos, after, guard⟩ st (.one (.d (.sc (.int k (k.wrap n))))) [] [] := by
  refine acts_of fun a w S ρ F h => ⟨.int k (k.wrap n), ?_, ⟨rfl, rfl⟩⟩
  show (do pure (.value (← convert T U (a.eval x))) : Sem Next).run P w = _
  rw [opd_sc h e1]
  cases hu : P.underlying T with
  | none => rw [hu] at hT; cases hT
  | some dd => simp [convert, run_underlying hu, run_underlying hU, Conv.intToInt]

/-- Is it an address that is not nil? -/
def isPtr (st : St) : C → Bool
  | .d (.bx _ _) => true
  | .gp _ _ => true
  | .gv g => match lkG st.h g with
    | .bx _ => true
    | _ => false
  | _ => false
theorem Rel.ptr (h : Rel g st a w S ρ F) {c : C} {v : Value} (hr : RepC w S ρ c v) (hp : isPtr st c = true) : ∃ ad, v = .pointer (some ad) := by
  unfold isPtr at hp
  split at hp
  · simp only [RepC, Rep] at hr
    obtain ⟨b, off, vs, G, rfl, _⟩ := hr
    exact ⟨_, rfl⟩
  · simp only [RepC] at hr
    obtain ⟨u, b, off, _, _, rfl⟩ := hr
    exact ⟨_, rfl⟩
  · rename_i i
    split at hp
    · rename_i cs hk
      rcases h.root i with h0 | ⟨u, h1, h2⟩
      · rw [hk] at h0; cases h0
      · rw [hk] at h2
        simp only [RepG] at h2
        obtain ⟨b, off, vs, rfl, _⟩ := h2
        have := hr.1
        rw [h1] at this
        cases this
        exact ⟨_, rfl⟩
    · cases hp
  · cases hp
theorem a_nil {c : C} (hc : opd st x = .one c) (hp : isPtr st c = true) : Acts P g ⟨dst, .nilCheck x, ty, pos, after, guard⟩ st (.one c) [] [] := by
  refine acts_of fun a w S ρ F h => ?_
  have h1 := opd_one h hc
  obtain ⟨ad, he⟩ := h.ptr h1 hp
  refine ⟨a.eval x, ?_, h1⟩
  rw [he]
  simp [execOp, he]

theorem a_fa_imm {T f off : Nat} {row row' : List D} (hc : opd st x = .one (.d (.bx false row))) (hT : fieldB P T f off = true) (hr : row.drop off = row') : Acts P g ⟨dst, .fieldAddr T x f, ty, pos, after, guard⟩ st (.one (.d (.bx false row'))) [] [] := by
  subst hr
  refine acts_of fun a w S ρ F h => ?_
  have h1 := opd_one h hc
  simp only [RepS, RepC, Rep, Bool.false_eq_true, if_false] at h1 ⊢
  obtain ⟨b, of0, vs, G, he, hl, hrs, hle, rfl⟩ := h1
  refine ⟨.pointer (some ⟨b, of0 + off, none⟩), ?_, ⟨b, of0 + off, vs.drop off, no, rfl, hl.drop off, hrs.drop off, ?_, rfl⟩⟩
  · show (do pure (.value (← Instr.fieldAt T (a.eval x) f)) : Sem Next).run P w = _
    rw [he]
    simp [run_fieldAt hT]
  · rintro b' o' ⟨rfl, h1, h2⟩
    simp only [List.length_drop] at h2
    exact hle _ _ ⟨rfl, by omega, by omega⟩
theorem a_fa_gp {T f off i k k' : Nat} (hc : opd st x = .one (.gp i k)) (hT : fieldB P T f off = true) (hk : k + off = k') : Acts P g ⟨dst, .fieldAddr T x f, ty, pos, after, guard⟩ st (.one (.gp i k')) [] [] := by
  subst hk
  refine acts_of fun a w S ρ F h => ?_
  have h1 := opd_one h hc
  simp only [RepC] at h1
  obtain ⟨u, b, of0, e1, e2, e3⟩ := h1
  refine ⟨.pointer (some ⟨b, of0 + k + off, none⟩), ?_, ⟨u, b, of0, e1, e2, by rw [Nat.add_assoc]⟩⟩
  show (do pure (.value (← Instr.fieldAt T (a.eval x) f)) : Sem Next).run P w = _
  rw [e3]
  simp [run_fieldAt hT]
theorem a_fa_gv {T f off i : Nat} {cs : List C} (hc : opd st x = .one (.gv i)) (hg : lkG st.h i = .bx cs) (hT : fieldB P T f off = true) : Acts P g ⟨dst, .fieldAddr T x f, ty, pos, after, guard⟩ st (.one (.gp i off)) [] [] := by
  refine acts_of fun a w S ρ F h => ?_
  have h1 := opd_one h hc
  obtain ⟨b, of0, vs, e1, e2, _⟩ := h.tgt_bx (k := 0) h1 (by simp [tgt, hg]) hg
  refine ⟨.pointer (some ⟨b, of0 + off, none⟩), ?_, ⟨_, b, of0, e2, rfl, rfl⟩⟩
  show (do pure (.value (← Instr.fieldAt T (a.eval x) f)) : Sem Next).run P w = _
  rw [e1]
  simp [run_fieldAt hT]
theorem a_ia_imm {T zz : Nat} {c : C} {row es : List D} {k : IntKind} {i : Int} (hc : opd st x = .one c) (hs : shv st c = some (zz, row)) (hi : opd st y = .one (.d (.sc (.int k i)))) (hT : sliceB P T zz = true) (h0 : 0 ≤ i) (hn : i < cnt zz row) (he : elem zz row i.toNat = es) :
    Acts P g ⟨dst, .indexAddr T x y, ty, pos, after, guard⟩ st (.one (.d (.bx false es))) [] [] := by
  subst he
  refine acts_of fun a w S ρ F h => ?_
  have h1 := h.shv (opd_one h hc) hs
  obtain ⟨_, _, _, hv, hlr, hz, _, hcn⟩ := sl_len h1
  simp only [RepS, RepC, Rep, Bool.false_eq_true, if_false] at h1 ⊢
  obtain ⟨ad, len, cap, he, hlr', hz', hlc, h2⟩ := h1
  rw [hv] at he
  simp only [Value.slice.injEq] at he
  obtain ⟨rfl, rfl, rfl⟩ := he
  have hlt : i.toNat < cnt zz row := by omega
  rw [hcn] at hlt hn
  rcases h2 with ⟨rfl, _⟩ | ⟨b, of0, vs, G, rfl, hl, hrs, hle, rfl⟩
  · omega
  have hmul : i.toNat * zz + zz ≤ row.length := by
    rw [hlr]
    have := Nat.mul_le_mul_right zz (Nat.succ_le_of_lt hlt)
    rw [Nat.succ_mul] at this
    exact this
  refine ⟨.pointer (some ⟨b, of0 + i.toNat * zz, none⟩), ?_, ⟨b, of0 + i.toNat * zz, (vs.drop (i.toNat * zz)).take zz, no, rfl, (hl.drop _).take _, (hrs.drop _).take _, ?_, rfl⟩⟩
  · show (do pure (.value (← Instr.indexAt T (a.eval x) (a.eval y))) : Sem Next).run P w = _
    rw [opd_sc h hi, hv]
    simp [run_indexAt hT h0 hn]
  · rintro b' o' ⟨rfl, h1, h2⟩
    simp only [elem, List.length_take, List.length_drop] at h2
    exact hle _ _ ⟨rfl, by omega, by omega⟩
theorem a_ia_own {T zz j kk : Nat} {row : List D} {k : IntKind} {i : Int} (hc : opd st x = .one (.gv j)) (hg : lkG st.h j = .row zz row) (hi : opd st y = .one (.d (.sc (.int k i)))) (hT : sliceB P T zz = true)
    (h0 : 0 ≤ i) (hn : i < cnt zz row) (hk : i.toNat * zz = kk) : Acts P g ⟨dst, .indexAddr T x y, ty, pos, after, guard⟩ st (.one (.gp j kk)) [] [] := by
  subst hk
  refine acts_of fun a w S ρ F h => ?_
  have h1 := opd_one h hc
  rcases h.root j with h0 | ⟨u, e1, e2⟩
  · rw [hg] at h0; cases h0
  rw [hg] at e2
  obtain ⟨ad, len, cap, hv, hlr, hz, hlc, hcn⟩ := sl_len (show Rep w S (.sl true zz row) u (F j) from e2)
  have h1' := h1.1
  rw [e1] at h1'
  cases h1'
  simp only [RepG, Rep, if_true] at e2
  obtain ⟨ad', len', cap', he, _, _, _, h2⟩ := e2
  rw [hv] at he
  simp only [Value.slice.injEq] at he
  obtain ⟨rfl, rfl, rfl⟩ := he
  have hlt : i.toNat < cnt zz row := by omega
  rw [hcn] at hlt hn
  rcases h2 with ⟨rfl, _⟩ | ⟨b, of0, vs, G, rfl, hl, hrs, _⟩
  · omega
  refine ⟨.pointer (some ⟨b, of0 + i.toNat * zz, none⟩), ?_, ⟨_, b, of0, e1, by rw [hv]; rfl, rfl⟩⟩
  show (do pure (.value (← Instr.indexAt T (a.eval x) (a.eval y))) : Sem Next).run P w = _
  rw [opd_sc h hi, hv]
  simp [run_indexAt hT h0 hn]
theorem a_len {T zz zz' : Nat} {c : C} {row : List D} {n : Int} (hc : opd st x = .one c) (hs : slv st c = some (zz, row)) (hT : sliceB P T zz' = true) (hn : ((cnt zz row : Nat) : Int) = n) :
    Acts P g ⟨dst, .call { callee := .builtin .len, args := #[x], argTypes := #[T] }, ty, pos, after, guard⟩ st (.one (.d (.sc (.int .i64 n)))) [] [] := by
  subst hn
  refine acts_of fun a w S ρ F h => ?_
  obtain ⟨ow, G, h1⟩ := h.slv (opd_one h hc) hs
  obtain ⟨ad, len, cap, hv, hlr, hz, _, hcn⟩ := sl_len h1
  refine ⟨.int .i64 (cnt zz row), ?_, ⟨rfl, rfl⟩⟩
  unfold sliceB at hT
  split at hT
  · rename_i e hu
    rw [hcn]
    simp [execOp, resolve, invoke, builtin, hv, Builtin.len_, goInt, run_underlying hu]
  · cases hT
theorem a_len_nil {T zz' : Nat} (hc : opd st x = .one (.d (.sc (.slice none 0 0)))) (hT : sliceB P T zz' = true) :
    Acts P g ⟨dst, .call { callee := .builtin .len, args := #[x], argTypes := #[T] }, ty, pos, after, guard⟩ st (.one (.d (.sc (.int .i64 0)))) [] [] := by
  refine acts_of fun a w S ρ F h => ?_
  refine ⟨.int .i64 0, ?_, ⟨rfl, rfl⟩⟩
  unfold sliceB at hT
  split at hT
  · rename_i e hu
    simp [execOp, resolve, invoke, builtin, opd_sc h hc, Builtin.len_, goInt, run_underlying hu]
  · cases hT
theorem a_len_str {T : Nat} {s : ByteArray} (hc : opd st x = .one (.d (.sc (.string s)))) (hT : P.underlying T = some .string) :
    Acts P g ⟨dst, .call { callee := .builtin .len, args := #[x], argTypes := #[T] }, ty, pos, after, guard⟩ st (.one (.d (.sc (.int .i64 s.size)))) [] [] := by
  refine acts_of fun a w S ρ F h => ?_
  refine ⟨.int .i64 s.size, ?_, ⟨rfl, rfl⟩⟩
  simp [execOp, resolve, invoke, builtin, opd_sc h hc, Builtin.len_, goInt, run_underlying hT]

theorem run_ld {a : Act} {w : World} {T : Nat} {v : Value} (h : (Instr.loadAt T (a.eval x)).run P w = .ok v w) : (execOp a.eval ⟨dst, .load T x, ty, pos, after, guard⟩).run P w = .ok (.value v) w := by
  show (do pure (.value (← Instr.loadAt T (a.eval x))) : Sem Next).run P w = _
  simp [h]
theorem a_ld_imm {T : Nat} {row : List D} {c : D} (hc : opd st x = .one (.d (.bx false row))) (hT : cellB P T = true) (hr : row[0]? = some c) : Acts P g ⟨dst, .load T x, ty, pos, after, guard⟩ st (.one (.d c)) [] [] := by
  refine acts_of fun a w S ρ F h => ?_
  have h1 := opd_one h hc
  simp only [RepC, Rep, Bool.false_eq_true, if_false] at h1
  obtain ⟨b, of0, vs, G, he, hl, hrs, hle, rfl⟩ := h1
  obtain ⟨v, hv, hv'⟩ := hrs.nthNo hr
  refine ⟨v, run_ld ?_, hv'⟩
  rw [he]
  exact run_load_cell hT (by simpa using hl 0 v hv)
theorem a_lds_imm {T n : Nat} {row : List D} {cs : List C} (hc : opd st x = .one (.d (.bx false row))) (hT : aggB P T n = true) (hr : n ≤ row.length) (he : (row.take n).map C.d = cs) : Acts P g ⟨dst, .load T x, ty, pos, after, guard⟩ st (.agg cs) [] [] := by
  subst he
  refine acts_of fun a w S ρ F h => ?_
  have h1 := opd_one h hc
  simp only [RepC, Rep, Bool.false_eq_true, if_false] at h1
  obtain ⟨b, of0, vs, G, he, hl, hrs, hle, rfl⟩ := h1
  have hlen := hrs.length
  refine ⟨.agg (vs.take n).toArray, run_ld ?_, ⟨_, rfl, by simpa using repCs_d (hrs.take n)⟩⟩
  rw [he]
  exact run_load_agg hT (hl.take n) (by simp; omega)
theorem a_ld_bx {T i k : Nat} {c0 c : C} {cs : List C} (hc : opd st x = .one c0) (ht : tgt st c0 = some (i, k)) (hg : lkG st.h i = .bx cs) (hT : cellB P T = true) (hr : cs[k]? = some c) : Acts P g ⟨dst, .load T x, ty, pos, after, guard⟩ st (.one c) [] [] := by
  refine acts_of fun a w S ρ F h => ?_
  obtain ⟨b, off, vs, e1, e2, e3, e4, e5, e6⟩ := h.tgt_bx (opd_one h hc) ht hg
  obtain ⟨v, hv, hv'⟩ := e4.nth hr
  refine ⟨v, run_ld ?_, hv'⟩
  rw [e1]
  exact run_load_cell hT (e3 k v hv)
theorem a_lds_bx {T i k n : Nat} {c0 : C} {cs cs' : List C} (hc : opd st x = .one c0) (ht : tgt st c0 = some (i, k)) (hg : lkG st.h i = .bx cs) (hT : aggB P T n = true) (hr : k + n ≤ cs.length) (he : (cs.drop k).take n = cs') : Acts P g ⟨dst, .load T x, ty, pos, after, guard⟩ st (.agg cs') [] [] := by
  subst he
  refine acts_of fun a w S ρ F h => ?_
  obtain ⟨b, off, vs, e1, e2, e3, e4, e5, e6⟩ := h.tgt_bx (opd_one h hc) ht hg
  have hlen := e4.length
  refine ⟨.agg ((vs.drop k).take n).toArray, run_ld ?_, ⟨_, rfl, by simpa using (e4.drop k).take n⟩⟩
  rw [e1]
  exact run_load_agg hT ((e3.drop k).take n) (by simp; omega)
theorem a_ld_row {T i k zz : Nat} {c0 : C} {c : D} {xs : List D} (hc : opd st x = .one c0) (ht : tgt st c0 = some (i, k)) (hg : lkG st.h i = .row zz xs) (hT : cellB P T = true) (hr : xs[k]? = some c) (hno : c.noOwn) : Acts P g ⟨dst, .load T x, ty, pos, after, guard⟩ st (.one (.d c)) [] [] := by
  refine acts_of fun a w S ρ F h => ?_
  have hk : k < xs.length := (List.getElem?_eq_some_iff.1 hr).1
  obtain ⟨b, off, vs, G, len, cap, e1, e2, e3, e4, e5, e6, e7, e8⟩ := h.tgt_row (opd_one h hc) ht hg hk
  obtain ⟨v, F1, hv, hle, hv'⟩ := e7.nth hr
  refine ⟨v, run_ld ?_, hv'.noOwn hno⟩
  rw [e1]
  exact run_load_cell hT (e6 k v hv)
theorem a_lds_row {T i k zz n : Nat} {c0 : C} {xs ys : List D} {cs' : List C} (hc : opd st x = .one c0) (ht : tgt st c0 = some (i, k)) (hg : lkG st.h i = .row zz xs) (hT : aggB P T n = true) (hn : 0 < n) (hr : k + n ≤ xs.length) (he : (xs.drop k).take n = ys) (hno : D.noOwn.all ys) (he' : ys.map C.d = cs') :
    Acts P g ⟨dst, .load T x, ty, pos, after, guard⟩ st (.agg cs') [] [] := by
  subst he
  subst he'
  refine acts_of fun a w S ρ F h => ?_
  obtain ⟨b, off, vs, G, len, cap, e1, e2, e3, e4, e5, e6, e7, e8⟩ := h.tgt_row (opd_one h hc) ht hg (by omega)
  have hlen := e7.length
  refine ⟨.agg ((vs.drop k).take n).toArray, run_ld ?_, ⟨_, rfl, by simpa using repCs_d (((e7.drop k).take n).noOwn hno)⟩⟩
  rw [e1]
  exact run_load_agg hT ((e6.drop k).take n) (by simp; omega)
theorem a_extract {l : List (Bool × List C)} {k : Nat} {ag : Bool} {cs : List C} (hc : opd st x = .tup l) (hk : l[k]? = some (ag, cs)) (hv : (match ag, cs with | true, cs => SV.agg cs | false, [c] => .one c | _, _ => .any) = sv) :
    Acts P g ⟨dst, .extract x k, ty, pos, after, guard⟩ st sv [] [] := by
  refine acts_of fun a w S ρ F h => ?_
  have h1 := h.opd x
  rw [hc] at h1
  obtain ⟨us, he, h1⟩ := h1
  obtain ⟨u, hu, hr⟩ := h1.nth hk
  have hu' : us[k]? = some u := by simpa using hu
  refine ⟨u, ?_, ?_⟩
  · show (do pure (.value (← Instr.extract (a.eval x) k)) : Sem Next).run P w = _
    rw [he]
    simp [Instr.extract, hu']
  · subst hv
    cases ag with
    | true =>
      simp only [RepU, if_true] at hr
      exact hr
    | false =>
      simp only [RepU, Bool.false_eq_true, if_false] at hr
      match cs, hr with
      | [], hr => trivial
      | [c], hr =>
        simp only [RepCs] at hr
        obtain ⟨v, us', e, h2, h3⟩ := hr
        simp only [List.cons.injEq] at e
        obtain ⟨rfl, _⟩ := e
        exact h2
      | _ :: _ :: _, hr => trivial
end
end
end Go.Proofs.Ytncccjpbaeaafaa
