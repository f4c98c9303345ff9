/- Tables of facts; numbers; walks by shape. No program in sight. -/
import Derived.Test.YtncccjpbaeaafaaG12
set_option linter.unusedVariables false
set_option linter.unusedSimpArgs false
namespace Go.Proofs.Ytncccjpbaeaafaa
open Go Foot

def lk1 : List Nat → Nat → Bool
  | [], _ => false
  | x :: l, i => bif Nat.beq i x then true else lk1 l i
def lk2 {β : Type} : List (Nat × β) → Nat → Option β
  | [], _ => none
  | (x, y) :: l, i => bif Nat.beq i x then some y else lk2 l i
def lk3 : List (Nat × Nat × Nat) → Nat → Nat → Option Nat
  | [], _, _ => none
  | (x, y, z) :: l, i, j => bif Nat.beq i x && Nat.beq j y then some z else lk3 l i j
theorem lk1_all {p : Nat → Bool} : ∀ {l : List Nat} {i : Nat}, l.all p = true → lk1 l i = true → p i = true
  | [], _, _, h => by cases h
  | x :: l, i, h, hi => by
    simp only [List.all_cons, Bool.and_eq_true] at h
    simp only [lk1] at hi
    cases hb : Nat.beq i x with
    | true => rw [Nat.eq_of_beq_eq_true hb]; exact h.1
    | false => rw [hb] at hi; exact lk1_all h.2 hi
theorem lk2_all {β : Type} {p : Nat → β → Bool} : ∀ {l : List (Nat × β)} {i : Nat} {y : β}, l.all (fun x => p x.1 x.2) = true → lk2 l i = some y → p i y = true
  | [], _, _, _, h => by cases h
  | (x, z) :: l, i, y, h, hi => by
    simp only [List.all_cons, Bool.and_eq_true] at h
    simp only [lk2] at hi
    cases hb : Nat.beq i x with
    | true =>
      rw [hb] at hi
      simp only [cond_true, Option.some.injEq] at hi
      rw [Nat.eq_of_beq_eq_true hb, ← hi]
      exact h.1
    | false => rw [hb] at hi; exact lk2_all h.2 hi
theorem lk22_all {p : Nat → Nat → Nat → Bool} {l : List (Nat × Nat × Nat)} {i y z : Nat} (h : l.all (fun x => p x.1 x.2.1 x.2.2) = true) (hi : lk2 l i = some (y, z)) : p i y z = true :=
  lk2_all (p := fun i x => p i x.1 x.2) (y := (y, z)) h hi
theorem lk3_all {p : Nat → Nat → Nat → Bool} : ∀ {l : List (Nat × Nat × Nat)} {i j k : Nat}, l.all (fun x => p x.1 x.2.1 x.2.2) = true → lk3 l i j = some k → p i j k = true
  | [], _, _, _, _, h => by cases h
  | (x, y, z) :: l, i, j, k, h, hi => by
    simp only [List.all_cons, Bool.and_eq_true] at h
    simp only [lk3] at hi
    cases hb : Nat.beq i x && Nat.beq j y with
    | true =>
      rw [hb] at hi
      simp only [cond_true, Option.some.injEq] at hi
      simp only [Bool.and_eq_true] at hb
      rw [Nat.eq_of_beq_eq_true hb.1, Nat.eq_of_beq_eq_true hb.2, ← hi]
      exact h.1
    | false => rw [hb] at hi; exact lk3_all h.2 hi
def elemB (P : Program) (T e : Nat) : Bool := match P.underlying T with
  | some (.slice e') => Nat.beq e' e
  | _ => false
theorem elemB_spec {P : Program} {T e : Nat} (h : elemB P T e = true) : P.underlying T = some (.slice e) := by
  unfold elemB at h
  split at h
  · rename_i e' hu; rw [hu, Nat.eq_of_beq_eq_true h]
  · cases h
def intB (P : Program) (T : Nat) (k : IntKind) : Bool := match P.underlying T with
  | some (.int k') => decide (k' = k)
  | _ => false
theorem intB_spec {P : Program} {T : Nat} {k : IntKind} (h : intB P T k = true) : intT P T k := by
  unfold intB at h
  split at h
  · rename_i e' hu; rw [intT, hu, of_decide_eq_true h]
  · cases h
def strB (P : Program) (T : Nat) : Bool := match P.underlying T with
  | some .string => true
  | _ => false
theorem strB_spec {P : Program} {T : Nat} (h : strB P T = true) : P.underlying T = some .string := by
  unfold strB at h
  split at h
  · rename_i hu; exact hu
  · cases h
def allZ (P : Program) : List (Nat × List Value) → Prop
  | [] => True
  | (T, vs) :: l => zeroC P T = some vs ∧ allZ P l
theorem allZ_get {P : Program} : ∀ {l : List (Nat × List Value)} {T : Nat} {vs : List Value}, allZ P l → lk2 l T = some vs → zeroC P T = some vs
  | [], _, _, _, h => by cases h
  | (x, z) :: l, i, y, h, hi => by
    simp only [lk2] at hi
    cases hb : Nat.beq i x with
    | true =>
      rw [hb] at hi
      simp only [cond_true, Option.some.injEq] at hi
      rw [Nat.eq_of_beq_eq_true hb, ← hi]
      exact h.1
    | false => rw [hb] at hi; exact allZ_get h.2 hi
theorem intT_some {P : Program} {T : Nat} {k : IntKind} (h : intT P T k) : (P.underlying T).isSome = true := by rw [h]; rfl

/-! Numbers. -/
theorem wrap64 {n : Int} (h1 : -9223372036854775808 ≤ n) (h2 : n < 9223372036854775808) : IntKind.i64.wrap n = n := by
  simp only [IntKind.wrap, IntKind.signed, IntKind.bits]
  simp
  omega
abbrev int (n : Int) : C := .d (.sc (.int .i64 n))
abbrev boo (b : Bool) : C := .d (.sc (.bool b))
section
variable {P : Program} {g : Gh} {st : St} {dst : Option Tmp} {ty : TypeId} {pos : String} {after : Array Edge} {guard : Option (Nat × Bool)} {x y z : Operand} {T U : TypeId} {a b : Int}
theorem a_add (e1 : opd st x = .one (int a)) (e2 : opd st y = .one (int b)) (h1 : -9223372036854775808 ≤ a + b) (h2 : a + b < 9223372036854775808) : Acts P g ⟨dst, .binOp .add T x y U, ty, pos, after, guard⟩ st (.one (int (a + b))) [] [] := by
  have := a_bin (P := P) (g := g) (dst := dst) (T := T) (U := U) (ty := ty) (pos := pos) (after := after) (guard := guard) (op := .add) e1 e2 rfl trivial
  rwa [wrap64 h1 h2] at this
theorem a_sub (e1 : opd st x = .one (int a)) (e2 : opd st y = .one (int b)) (h1 : -9223372036854775808 ≤ a - b) (h2 : a - b < 9223372036854775808) : Acts P g ⟨dst, .binOp .sub T x y U, ty, pos, after, guard⟩ st (.one (int (a - b))) [] [] := by
  have := a_bin (P := P) (g := g) (dst := dst) (T := T) (U := U) (ty := ty) (pos := pos) (after := after) (guard := guard) (op := .sub) e1 e2 rfl trivial
  rwa [wrap64 h1 h2] at this
theorem a_mul (e1 : opd st x = .one (int a)) (e2 : opd st y = .one (int b)) (h1 : -9223372036854775808 ≤ a * b) (h2 : a * b < 9223372036854775808) : Acts P g ⟨dst, .binOp .mul T x y U, ty, pos, after, guard⟩ st (.one (int (a * b))) [] [] := by
  have := a_bin (P := P) (g := g) (dst := dst) (T := T) (U := U) (ty := ty) (pos := pos) (after := after) (guard := guard) (op := .mul) e1 e2 rfl trivial
  rwa [wrap64 h1 h2] at this
theorem a_neg (e1 : opd st x = .one (int a)) (h1 : -9223372036854775808 < a) (h2 : a < 9223372036854775808) : Acts P g ⟨dst, .unOp .neg T x, ty, pos, after, guard⟩ st (.one (int (-a))) [] [] := by
  have := a_un (P := P) (g := g) (dst := dst) (T := T) (ty := ty) (pos := pos) (after := after) (guard := guard) (op := .neg) e1 rfl
  rwa [wrap64 (by omega) (by omega), Int.zero_sub] at this
theorem a_conv64 {a : Int} (e1 : opd st x = .one (int a)) (hT : intT P T .i64) (hU : intT P U .i64) (h1 : -9223372036854775808 ≤ a) (h2 : a < 9223372036854775808) : Acts P g ⟨dst, .convert T U x, ty, pos, after, guard⟩ st (.one (int a)) [] [] := by
  have := a_conv (P := P) (g := g) (dst := dst) (T := T) (U := U) (ty := ty) (pos := pos) (after := after) (guard := guard) e1 (intT_some hT) hU
  rwa [wrap64 h1 h2] at this
/-- A comparison, as a proposition that is decided. -/
theorem a_cmp {op : BinOp} {p : Prop} [Decidable p] {v : Value} (e1 : opd st x = .one (int a)) (e2 : opd st y = .one (int b)) (hv : binV op (.int .i64 a) (.int .i64 b) = some v) (ho : binOb op (.int .i64 a) (.int .i64 b)) (hb : v = .bool (decide p)) : Acts P g ⟨dst, .binOp op T x y U, ty, pos, after, guard⟩ st (.one (boo (decide p))) [] [] := by
  subst hb
  exact a_bin e1 e2 hv ho
end

/-! Rows of one kind of element. -/
structure Enc (α : Type) where
  z : Nat
  enc : α → List D
  len : ∀ x, (enc x).length = z
  pos : 0 < z
def rows {α : Type} (E : Enc α) (l : List α) : List D := l.flatMap E.enc
theorem rows_len {α : Type} (E : Enc α) (l : List α) : (rows E l).length = l.length * E.z := by
  unfold rows
  induction l with
  | nil => simp
  | cons x l ih => simp only [List.flatMap_cons, List.length_append, ih, E.len, List.length_cons, Nat.add_mul, Nat.one_mul]; omega
theorem cnt_rows' {α : Type} (E : Enc α) (l : List α) : cnt E.z (rows E l) = l.length := by unfold cnt; rw [rows_len]; exact Nat.mul_div_cancel _ E.pos
theorem cnt_rows {α : Type} (E : Enc α) (l : List α) : ((cnt E.z (rows E l) : Nat) : Int) = (l.length : Int) := by rw [cnt_rows']
theorem cnt_lit {z : Nat} {l : List D} {n : Nat} (h : cnt z l = n) : ((cnt z l : Nat) : Int) = (n : Int) := by rw [h]
theorem cnt_lt {α : Type} {E : Enc α} {l : List α} {i : Int} (h : i < l.length) : i < (cnt E.z (rows E l) : Nat) := by rw [cnt_rows']; exact h
theorem rows_drop {α : Type} (E : Enc α) : ∀ (l : List α) (i : Nat), (rows E l).drop (i * E.z) = rows E (l.drop i)
  | l, 0 => by simp
  | [], i + 1 => by simp [rows]
  | x :: l, i + 1 => by
    have e : rows E (x :: l) = E.enc x ++ rows E l := by simp [rows]
    rw [e, show (i + 1) * E.z = (E.enc x).length + i * E.z by rw [E.len, Nat.add_mul, Nat.one_mul]; omega, List.drop_append, List.drop_of_length_le (by omega)]
    simp [rows_drop E l i]
theorem rows_take {α : Type} (E : Enc α) : ∀ (l : List α) (i : Nat), (rows E l).take (i * E.z) = rows E (l.take i)
  | l, 0 => by simp [rows]
  | [], i + 1 => by simp [rows]
  | x :: l, i + 1 => by
    have e : rows E (x :: l) = E.enc x ++ rows E l := by simp [rows]
    rw [e, show (i + 1) * E.z = (E.enc x).length + i * E.z by rw [E.len, Nat.add_mul, Nat.one_mul]; omega, List.take_append, List.take_of_length_le (by omega)]
    simp only [Nat.add_sub_cancel_left, rows_take E l i, List.take_succ_cons]
    simp [rows]
theorem rows_app {α : Type} (E : Enc α) (l m : List α) : rows E l ++ rows E m = rows E (l ++ m) := by simp [rows]
theorem elem_rows' {α : Type} {E : Enc α} {l : List α} {i : Nat} (h : i < l.length) : elem E.z (rows E l) i = E.enc l[i] := by
  unfold elem
  rw [rows_drop, List.drop_eq_getElem_cons h]
  have e : rows E (l[i] :: l.drop (i + 1)) = E.enc l[i] ++ rows E (l.drop (i + 1)) := by unfold rows; rw [List.flatMap_cons]
  rw [e, List.take_append_of_le_length (by rw [E.len]; exact Nat.le_refl _), List.take_of_length_le (by rw [E.len]; exact Nat.le_refl _)]
theorem elem_rows {α : Type} {E : Enc α} {l : List α} {i : Int} (h : i.toNat < l.length) : elem E.z (rows E l) i.toNat = E.enc l[i.toNat] := elem_rows' h
theorem noOwn_rows {α : Type} {E : Enc α} {l : List α} (h : ∀ x, D.noOwn.all (E.enc x)) : D.noOwn.all (rows E l) := by
  unfold rows
  induction l with
  | nil => trivial
  | cons x l ih => simp only [List.flatMap_cons]; exact noOwn_append (h x) ih
theorem plain_append : ∀ {a b : List D}, D.plain.all a → D.plain.all b → D.plain.all (a ++ b)
  | [], _, _, h => h
  | _ :: _, _, h, h' => ⟨h.1, plain_append h.2 h'⟩
theorem plain_rows {α : Type} {E : Enc α} {l : List α} (h : ∀ x, D.plain.all (E.enc x)) : D.plain.all (rows E l) := by
  unfold rows
  induction l with
  | nil => trivial
  | cons x l ih => simp only [List.flatMap_cons]; exact plain_append (h x) ih
abbrev eI : Enc Int := ⟨1, fun n => [.sc (.int .i64 n)], fun _ => rfl, by decide⟩

/-! The walk, state laid open. -/
section
variable {P : Program} {g : Gh} {t : List (Nat × SV)} {h : List (Nat × GB)} {n : Nat} {Q : Exit → St → Prop} {ops : Array Oper} {l : List Oper}
theorem o_p {d : Nat} {op : Op} {ty : TypeId} {pos : String} {after : Array Edge} {sv : SV} (hd : Nat.blt d g.n = true) (ha : Acts P g ⟨some d, op, ty, pos, after, none⟩ ⟨t, h, n⟩ sv [] []) (hk : GOps P g ops l ⟨(d, sv) :: t, h, n⟩ Q) : GOps P g ops (⟨some d, op, ty, pos, after, none⟩ :: l) ⟨t, h, n⟩ Q :=
  o_act (n := n) rfl ha (fun d' e => by cases e; exact blt_lt hd) (by simp) (Nat.le_refl n) hk
/-- A new root. -/
theorem o_n {d : Nat} {op : Op} {ty : TypeId} {pos : String} {after : Array Edge} {sv : SV} {gb : GB} (hd : Nat.blt d g.n = true) (ha : Acts P g ⟨some d, op, ty, pos, after, none⟩ ⟨t, h, n⟩ sv [] [(n, gb)]) (hk : GOps P g ops l ⟨(d, sv) :: t, (n, gb) :: h, n + 1⟩ Q) : GOps P g ops (⟨some d, op, ty, pos, after, none⟩ :: l) ⟨t, h, n⟩ Q :=
  o_act (n := n + 1) rfl ha (fun d' e => by cases e; exact blt_lt hd) (by simp) ⟨.inr ⟨Nat.le_refl n, Nat.lt_succ_self n⟩, Nat.le_succ n⟩ hk
/-- A root for another. -/
theorem o_s {d i : Nat} {op : Op} {ty : TypeId} {pos : String} {after : Array Edge} {sv : SV} {gb : GB} (hd : Nat.blt d g.n = true) (hl : (lkG h i).lives = true) (ha : Acts P g ⟨some d, op, ty, pos, after, none⟩ ⟨t, h, n⟩ sv [i] [(n, gb), (i, .dead)]) (hk : GOps P g ops l ⟨(d, sv) :: t, (n, gb) :: (i, .dead) :: h, n + 1⟩ Q) : GOps P g ops (⟨some d, op, ty, pos, after, none⟩ :: l) ⟨t, h, n⟩ Q :=
  o_act (n := n + 1) rfl ha (fun d' e => by cases e; exact blt_lt hd) (fun j hj => by simp at hj; subst hj; intro e; simp only [e] at hl; cases hl) ⟨.inr ⟨Nat.le_refl n, Nat.lt_succ_self n⟩, .inl (by simp), Nat.le_succ n⟩ hk
/-- A store. -/
theorem o_w {i : Nat} {op : Op} {ty : TypeId} {pos : String} {after : Array Edge} {gb : GB} (hl : (lkG h i).lives = true) (ha : Acts P g ⟨none, op, ty, pos, after, none⟩ ⟨t, h, n⟩ .any [i] [(i, gb)]) (hk : GOps P g ops l ⟨t, (i, gb) :: h, n⟩ Q) : GOps P g ops (⟨none, op, ty, pos, after, none⟩ :: l) ⟨t, h, n⟩ Q :=
  o_act (n := n) rfl ha (fun d' e => by cases e) (fun j hj => by simp at hj; subst hj; intro e; simp only [e] at hl; cases hl) ⟨.inl (by simp), Nat.le_refl n⟩ hk
/-- A call. -/
theorem o_c {d : Nat} {op : Op} {ty : TypeId} {pos : String} {after : Array Edge} {sv : SV} {θ : List Nat} {up : List (Nat × GB)} {n' : Nat} (hd : Nat.blt d g.n = true) (hl : θ.all (fun i => (lkG h i).lives) = true) (ha : Acts P g ⟨some d, op, ty, pos, after, none⟩ ⟨t, h, n⟩ sv θ up) (hu : upOk n n' θ up) (hk : GOps P g ops l ⟨(d, sv) :: t, up ++ h, n'⟩ Q) : GOps P g ops (⟨some d, op, ty, pos, after, none⟩ :: l) ⟨t, h, n⟩ Q :=
  o_act (n := n') rfl ha (fun d' e => by cases e; exact blt_lt hd) (fun j hj e => by have := (List.all_eq_true.1 hl) j hj; simp only [e] at this; cases this) hu hk
/-- Behind a guard. -/
theorem o_py {d j d' : Nat} {b : Bool} {op : Op} {ty : TypeId} {pos : String} {after : Array Edge} {sv : SV} (hj : (ops[j]?).bind (·.dst) = some d') (hb : lkS t d' = .one (boo b)) (hdd : Nat.blt d' g.n = true) (hd : Nat.blt d g.n = true) (ha : Acts P g ⟨some d, op, ty, pos, after, some (j, b)⟩ ⟨t, h, n⟩ sv [] []) (hk : GOps P g ops l ⟨(d, sv) :: t, h, n⟩ Q) : GOps P g ops (⟨some d, op, ty, pos, after, some (j, b)⟩ :: l) ⟨t, h, n⟩ Q :=
  o_act_yes (n := n) rfl hj (blt_lt hdd) hb ha (fun d' e => by cases e; exact blt_lt hd) (by simp) (Nat.le_refl n) hk
theorem o_ny {d j d' : Nat} {b : Bool} {op : Op} {ty : TypeId} {pos : String} {after : Array Edge} {sv : SV} {gb : GB} (hj : (ops[j]?).bind (·.dst) = some d') (hb : lkS t d' = .one (boo b)) (hdd : Nat.blt d' g.n = true) (hd : Nat.blt d g.n = true) (ha : Acts P g ⟨some d, op, ty, pos, after, some (j, b)⟩ ⟨t, h, n⟩ sv [] [(n, gb)]) (hk : GOps P g ops l ⟨(d, sv) :: t, (n, gb) :: h, n + 1⟩ Q) : GOps P g ops (⟨some d, op, ty, pos, after, some (j, b)⟩ :: l) ⟨t, h, n⟩ Q :=
  o_act_yes (n := n + 1) rfl hj (blt_lt hdd) hb ha (fun d' e => by cases e; exact blt_lt hd) (by simp) ⟨.inr ⟨Nat.le_refl n, Nat.lt_succ_self n⟩, Nat.le_succ n⟩ hk
theorem o_cy {d j d' : Nat} {b : Bool} {op : Op} {ty : TypeId} {pos : String} {after : Array Edge} {sv : SV} {θ : List Nat} {up : List (Nat × GB)} {n' : Nat} (hj : (ops[j]?).bind (·.dst) = some d') (hb : lkS t d' = .one (boo b)) (hdd : Nat.blt d' g.n = true) (hd : Nat.blt d g.n = true) (hl : θ.all (fun i => (lkG h i).lives) = true) (ha : Acts P g ⟨some d, op, ty, pos, after, some (j, b)⟩ ⟨t, h, n⟩ sv θ up) (hu : upOk n n' θ up) (hk : GOps P g ops l ⟨(d, sv) :: t, up ++ h, n'⟩ Q) : GOps P g ops (⟨some d, op, ty, pos, after, some (j, b)⟩ :: l) ⟨t, h, n⟩ Q :=
  o_act_yes (n := n') rfl hj (blt_lt hdd) hb ha (fun d' e => by cases e; exact blt_lt hd) (fun j hj e => by have := (List.all_eq_true.1 hl) j hj; simp only [e] at this; cases this) hu hk
theorem o_no {d j d' : Nat} {b : Bool} {op : Op} {ty : TypeId} {pos : String} {after : Array Edge} (hj : (ops[j]?).bind (·.dst) = some d') (hb : skips b (lkS t d') = true) (hdd : Nat.blt d' g.n = true) (hd : Nat.blt d g.n = true) (hk : GOps P g ops l ⟨(d, .tup []) :: t, h, n⟩ Q) : GOps P g ops (⟨some d, op, ty, pos, after, some (j, b)⟩ :: l) ⟨t, h, n⟩ Q :=
  o_act_no rfl hj (blt_lt hdd) hb (fun d' e => by cases e; exact blt_lt hd) hk
theorem o_noN {j d' : Nat} {b : Bool} {op : Op} {ty : TypeId} {pos : String} {after : Array Edge} (hj : (ops[j]?).bind (·.dst) = some d') (hb : skips b (lkS t d') = true) (hdd : Nat.blt d' g.n = true) (hk : GOps P g ops l ⟨t, h, n⟩ Q) : GOps P g ops (⟨none, op, ty, pos, after, some (j, b)⟩ :: l) ⟨t, h, n⟩ Q :=
  o_act_no rfl hj (blt_lt hdd) hb (fun d' e => by cases e) hk
/-- Part on what a slot holds. -/
theorem o_split (d : Nat) {b : Bool} (hb : lkS t d = .one (boo b)) (ht : b = true → GOps P g ops l ⟨(d, .one (boo true)) :: t, h, n⟩ Q) (hf : b = false → GOps P g ops l ⟨(d, .one (boo false)) :: t, h, n⟩ Q) : GOps P g ops l ⟨t, h, n⟩ Q := by
  have same : ∀ i, lkS ((d, .one (boo b)) :: t) i = lkS t i := fun i => by
    simp only [lkS]
    by_cases hi : i = d
    · subst hi; simp [hb]
    · rw [beq_ne hi]; rfl
  refine ⟨fun a w S ρ F hr hfr => ?_⟩
  have hr' : Rel g ⟨(d, .one (boo b)) :: t, h, n⟩ a w S ρ F := hr.same same (fun _ => rfl)
  cases b with
  | true => exact (ht rfl).run a w S ρ F hr' hfr
  | false => exact (hf rfl).run a w S ρ F hr' hfr
theorem g_if_t {c : Operand} {x y : Code} (hc : opd ⟨t, h, n⟩ c = .one (boo true)) (hk : GWp P g x ⟨t, h, n⟩ Q) : GWp P g (.cond c x y) ⟨t, h, n⟩ Q := g_cond hc (fun _ => hk) (fun e => by cases e)
theorem g_if_f {c : Operand} {x y : Code} (hc : opd ⟨t, h, n⟩ c = .one (boo false)) (hk : GWp P g y ⟨t, h, n⟩ Q) : GWp P g (.cond c x y) ⟨t, h, n⟩ Q := g_cond hc (fun e => by cases e) (fun _ => hk)
theorem g_reg {id : Nat} {l : List Oper} (hk : GOps P g l.toArray l ⟨t, h, n⟩ Q) : GWp P g (.region id l.toArray false) ⟨t, h, n⟩ Q := g_region hk
end
section
variable {P : Program} {g : Gh} {t : List (Nat × SV)} {h : List (Nat × GB)} {n : Nat} {Q : Exit → St → Prop} {ops : Array Oper} {l : List Oper} {st : St} {y : Code}
theorem q_s (hk : GWp P g y st Q) : qSeq P g y Q .normal st := .go hk
theorem q_sr (hk : Q .ret st) : qSeq P g y Q .ret st := .out (by simp) hk
theorem q_se {id : Nat} (hk : Q (.exit id) st) : qSeq P g y Q (.exit id) st := .out (by simp) hk
theorem q_b {id : Nat} (hk : Q .normal st) : qBlk id Q .normal st := .out (fun _ e => by cases e) hk
theorem q_br {id : Nat} (hk : Q .ret st) : qBlk id Q .ret st := .out (fun _ e => by cases e) hk
theorem q_be {id id' : Nat} (hb : Nat.beq id' id = true) (hk : Q .normal st) : qBlk id Q (.exit id') st := .hit hb hk
theorem q_bn {id id' : Nat} (hb : Nat.beq id' id = false) (hk : Q (.exit id') st) : qBlk id Q (.exit id') st := .out (fun _ e => by cases e; exact hb) hk
theorem q_lr {α : Type} {k : Nat} {I : α → Prop} {T : α → St} {μ : α → Nat} {m : Nat} (hk : Q .ret st) : qLoop k I T μ m Q .ret st := .out (by simp) hk
theorem q_le {α : Type} {k : Nat} {I : α → Prop} {T : α → St} {μ : α → Nat} {m id : Nat} (hk : Q (.exit id) st) : qLoop k I T μ m Q (.exit id) st := .out (by simp) hk
theorem q_cr {α : Type} {k : Nat} {I : α → Prop} {T : α → St} (hk : Q .ret st) : qCut k I T Q .ret st := .out (by simp) hk
theorem q_ce {α : Type} {k : Nat} {I : α → Prop} {T : α → St} {id : Nat} (hk : Q (.exit id) st) : qCut k I T Q (.exit id) st := .out (by simp) hk
theorem o_gs {d j d' : Nat} {b b' : Bool} {op : Op} {ty : TypeId} {pos : String} {after : Array Edge} (hj : (ops[j]?).bind (·.dst) = some d') (hb : lkS t d' = .one (boo b')) (ht : b' = true → GOps P g ops (⟨some d, op, ty, pos, after, some (j, b)⟩ :: l) ⟨(d', .one (boo true)) :: t, h, n⟩ Q) (hf : b' = false → GOps P g ops (⟨some d, op, ty, pos, after, some (j, b)⟩ :: l) ⟨(d', .one (boo false)) :: t, h, n⟩ Q) : GOps P g ops (⟨some d, op, ty, pos, after, some (j, b)⟩ :: l) ⟨t, h, n⟩ Q := o_split d' hb ht hf
theorem sle_b {hh : List (Nat × GB)} {ld : List Nat} {b b' : Bool} (e : b = b') : SVLe hh ld (.one (boo b)) (.one (boo b')) := by subst e; exact .refl
theorem sle_i {hh : List (Nat × GB)} {ld : List Nat} {b b' : Int} (e : b = b') : SVLe hh ld (.one (int b)) (.one (int b')) := by subst e; exact .refl
/-- How a body ends that leaves no roots to its caller. -/
theorem ends0 {fn : Func} {e : Exit} {l : List (Bool × List C)} {res : SV} (he : e = .normal ∨ e = .ret) (h1 : RessOk P st fn.results.toList l) (h2 : SVLe st.h [] (resSV l) (res.ren (resF 0 []))) (h3 : res.lt 0 = true) : Ends P fn 0 res [] e st :=
  ⟨he, l, [], h1, h2, trivial, rfl, rfl, h3, rfl⟩
theorem ends_r {fn : Func} {l : List (Bool × List C)} {res : SV} (h1 : RessOk P st fn.results.toList l) (h2 : SVLe st.h [] (resSV l) (res.ren (resF 0 []))) (h3 : res.lt 0 = true) : Ends P fn 0 res [] .ret st := ends0 (.inr rfl) h1 h2 h3
/-- One new own root goes to the caller. -/
theorem ends1 {fn : Func} {l : List (Bool × List C)} {res : SV} {gb : GB} (i : Nat) (h1 : RessOk P st fn.results.toList l) (h2 : SVLe st.h [] (resSV l) (res.ren (resF 0 [i]))) (h4 : lkG st.h i = gb.ren (resF 0 [i])) (h3 : res.lt 1 = true) (h5 : gb.lt 1 = true) : Ends P fn 0 res [gb] .ret st :=
  ⟨.inr rfl, l, [i], h1, h2, ⟨.inr h4, trivial⟩, rfl, by cases gb <;> rfl, h3, by simp [allG, h5]⟩
end
end Go.Proofs.Ytncccjpbaeaafaa
