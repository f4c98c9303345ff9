/- Walks of drawn regions, rows of numbers. No program in sight. -/
import Derived.Test.YtncccjpbaeaafaaG13
set_option linter.unusedVariables false
set_option linter.unusedSimpArgs false
namespace Go.Proofs.Ytncccjpbaeaafaa
open Go Foot

section
variable {P : Program} {g : Gh} {bf : List (List Nat)} {kk : Keys} {ops : List Oper} {st : St} {n' : Nat} {Q : Exit → St → Prop} {l : List Oper} {rs : List Rs}
theorem dr_nil (h : Q .normal ⟨mixT (fun _ => true) 0 rs st.t, mixH (fun _ => true) 0 rs st.h, n'⟩) : GDraw P g bf kk ops st n' Q [] rs := h
theorem dr_p {d : Nat} {op : Op} {ty : TypeId} {pos : String} {after : Array Edge} {sv : SV} (hd : Nat.blt d g.n = true) (hc : kk.ck rs.length = []) (ha : Acts P g ⟨some d, op, ty, pos, after, none⟩ (minSt bf kk ops st rs rs.length) sv [] [])
    (hk : GDraw P g bf kk ops st n' Q l (rs ++ [⟨some d, sv, [], []⟩])) : GDraw P g bf kk ops st n' Q (⟨some d, op, ty, pos, after, none⟩ :: l) rs :=
  ⟨⟨some d, sv, [], []⟩, ⟨rfl, fun d' e => by cases e; exact blt_lt hd, hc.symm, trivial, .inl ⟨rfl, ha⟩⟩, hk⟩
theorem dr_py {d j d' : Nat} {b : Bool} {op : Op} {ty : TypeId} {pos : String} {after : Array Edge} {sv : SV} (hj : ((ops.toArray)[j]?).bind (·.dst) = some d') (hb : lkS (minSt bf kk ops st rs rs.length).t d' = .one (boo b)) (hdd : Nat.blt d' g.n = true) (hd : Nat.blt d g.n = true) (hc : kk.ck rs.length = []) (ha : Acts P g ⟨some d, op, ty, pos, after, some (j, b)⟩ (minSt bf kk ops st rs rs.length) sv [] [])
    (hk : GDraw P g bf kk ops st n' Q l (rs ++ [⟨some d, sv, [], []⟩])) : GDraw P g bf kk ops st n' Q (⟨some d, op, ty, pos, after, some (j, b)⟩ :: l) rs :=
  ⟨⟨some d, sv, [], []⟩, ⟨rfl, fun d' e => by cases e; exact blt_lt hd, hc.symm, trivial, .inr (.inl ⟨j, d', b, rfl, hj, blt_lt hdd, hb, ha⟩)⟩, hk⟩
theorem dr_no {dst : Option Nat} {j d' : Nat} {b : Bool} {op : Op} {ty : TypeId} {pos : String} {after : Array Edge} (hj : ((ops.toArray)[j]?).bind (·.dst) = some d') (hb : skips b (lkS (minSt bf kk ops st rs rs.length).t d') = true) (hdd : Nat.blt d' g.n = true) (hd : ∀ d, dst = some d → d < g.n) (hc : kk.ck rs.length = []) (hnw : upIn (kk.nw rs.length ++ kk.ck rs.length) [])
    (hk : GDraw P g bf kk ops st n' Q l (rs ++ [⟨dst, .tup [], [], []⟩])) : GDraw P g bf kk ops st n' Q (⟨dst, op, ty, pos, after, some (j, b)⟩ :: l) rs :=
  ⟨⟨dst, .tup [], [], []⟩, ⟨rfl, hd, hc.symm, hnw, .inr (.inr ⟨j, d', b, rfl, hj, blt_lt hdd, hb, rfl, rfl, rfl⟩)⟩, hk⟩
/-- An operation that makes or changes roots. -/
theorem dr_u {dst : Option Nat} {op : Op} {ty : TypeId} {pos : String} {after : Array Edge} {sv : SV} {ch : List Nat} {up : List (Nat × GB)} (hd : ∀ d, dst = some d → d < g.n) (hc : kk.ck rs.length = ch) (hu : upIn (kk.nw rs.length ++ kk.ck rs.length) up) (ha : Acts P g ⟨dst, op, ty, pos, after, none⟩ (minSt bf kk ops st rs rs.length) sv ch up)
    (hk : GDraw P g bf kk ops st n' Q l (rs ++ [⟨dst, sv, ch, up⟩])) : GDraw P g bf kk ops st n' Q (⟨dst, op, ty, pos, after, none⟩ :: l) rs :=
  ⟨⟨dst, sv, ch, up⟩, ⟨rfl, hd, hc.symm, hu, .inl ⟨rfl, ha⟩⟩, hk⟩
theorem dr_uy {dst : Option Nat} {j d' : Nat} {b : Bool} {op : Op} {ty : TypeId} {pos : String} {after : Array Edge} {sv : SV} {ch : List Nat} {up : List (Nat × GB)} (hj : ((ops.toArray)[j]?).bind (·.dst) = some d') (hb : lkS (minSt bf kk ops st rs rs.length).t d' = .one (boo b)) (hdd : Nat.blt d' g.n = true) (hd : ∀ d, dst = some d → d < g.n) (hc : kk.ck rs.length = ch) (hu : upIn (kk.nw rs.length ++ kk.ck rs.length) up) (ha : Acts P g ⟨dst, op, ty, pos, after, some (j, b)⟩ (minSt bf kk ops st rs rs.length) sv ch up)
    (hk : GDraw P g bf kk ops st n' Q l (rs ++ [⟨dst, sv, ch, up⟩])) : GDraw P g bf kk ops st n' Q (⟨dst, op, ty, pos, after, some (j, b)⟩ :: l) rs :=
  ⟨⟨dst, sv, ch, up⟩, ⟨rfl, hd, hc.symm, hu, .inr (.inl ⟨j, d', b, rfl, hj, blt_lt hdd, hb, ha⟩)⟩, hk⟩
theorem dr_u2 {dst : Option Nat} {op : Op} {ty : TypeId} {pos : String} {after : Array Edge} {sv : SV} {ch : List Nat} {up : List (Nat × GB)} (hd : ∀ d, dst = some d → d < g.n) (ha : Acts P g ⟨dst, op, ty, pos, after, none⟩ (minSt bf kk ops st rs rs.length) sv ch up) (hc : kk.ck rs.length = ch) (hu : upIn (kk.nw rs.length ++ kk.ck rs.length) up)
    (hk : GDraw P g bf kk ops st n' Q l (rs ++ [⟨dst, sv, ch, up⟩])) : GDraw P g bf kk ops st n' Q (⟨dst, op, ty, pos, after, none⟩ :: l) rs := dr_u hd hc hu ha hk
theorem dst_some {n d : Nat} (h : Nat.blt d n = true) : ∀ d', some d = some d' → d' < n := fun d' e => by cases e; exact blt_lt h
theorem dst_none {n : Nat} : ∀ d', (none : Option Nat) = some d' → d' < n := fun d' e => by cases e
end

section
variable {P : Program} {g : Gh} {t : List (Nat × SV)} {h : List (Nat × GB)} {n : Nat} {Q : Exit → St → Prop} {ops : Array Oper} {l : List Oper}
theorem o_s2 {d i : Nat} {op : Op} {ty : TypeId} {pos : String} {after : Array Edge} {sv : SV} {gb : GB} (hd : Nat.blt d g.n = true) (ha : Acts P g ⟨some d, op, ty, pos, after, none⟩ ⟨t, h, n⟩ sv [i] [(n, gb), (i, .dead)]) (hl : (lkG h i).lives = true) (hk : GOps P g ops l ⟨(d, sv) :: t, (n, gb) :: (i, .dead) :: h, n + 1⟩ Q) : GOps P g ops (⟨some d, op, ty, pos, after, none⟩ :: l) ⟨t, h, n⟩ Q := o_s hd hl ha hk
theorem o_w2 {i : Nat} {op : Op} {ty : TypeId} {pos : String} {after : Array Edge} {gb : GB} (ha : Acts P g ⟨none, op, ty, pos, after, none⟩ ⟨t, h, n⟩ .any [i] [(i, gb)]) (hl : (lkG h i).lives = true) (hk : GOps P g ops l ⟨t, (i, gb) :: h, n⟩ Q) : GOps P g ops (⟨none, op, ty, pos, after, none⟩ :: l) ⟨t, h, n⟩ Q := o_w hl ha hk
theorem o_c2 {d : Nat} {op : Op} {ty : TypeId} {pos : String} {after : Array Edge} {sv : SV} {θ : List Nat} {up : List (Nat × GB)} {n' : Nat} (hd : Nat.blt d g.n = true) (ha : Acts P g ⟨some d, op, ty, pos, after, none⟩ ⟨t, h, n⟩ sv θ up) (hl : θ.all (fun i => (lkG h i).lives) = true) (hu : upOk n n' θ up) (hk : GOps P g ops l ⟨(d, sv) :: t, up ++ h, n'⟩ Q) : GOps P g ops (⟨some d, op, ty, pos, after, none⟩ :: l) ⟨t, h, n⟩ Q := o_c hd hl ha hu hk
theorem o_cy2 {d j d' : Nat} {b : Bool} {op : Op} {ty : TypeId} {pos : String} {after : Array Edge} {sv : SV} {θ : List Nat} {up : List (Nat × GB)} {n' : Nat} (hj : (ops[j]?).bind (·.dst) = some d') (hb : lkS t d' = .one (boo b)) (hdd : Nat.blt d' g.n = true) (hd : Nat.blt d g.n = true) (ha : Acts P g ⟨some d, op, ty, pos, after, some (j, b)⟩ ⟨t, h, n⟩ sv θ up) (hl : θ.all (fun i => (lkG h i).lives) = true) (hu : upOk n n' θ up) (hk : GOps P g ops l ⟨(d, sv) :: t, up ++ h, n'⟩ Q) : GOps P g ops (⟨some d, op, ty, pos, after, some (j, b)⟩ :: l) ⟨t, h, n⟩ Q := o_cy hj hb hdd hd hl ha hu hk
end
section
variable {P : Program} {g : Gh} {t : List (Nat × SV)} {h : List (Nat × GB)} {n : Nat} {Q : Exit → St → Prop} {ops : Array Oper} {l : List Oper}
theorem p3 {d : Nat} {op : Op} {ty : TypeId} {pos : String} {after : Array Edge} {sv : SV} (ha : Acts P g ⟨some d, op, ty, pos, after, none⟩ ⟨t, h, n⟩ sv [] []) (hd : Nat.blt d g.n = true) (hk : GOps P g ops l ⟨(d, sv) :: t, h, n⟩ Q) : GOps P g ops (⟨some d, op, ty, pos, after, none⟩ :: l) ⟨t, h, n⟩ Q := o_p hd ha hk
theorem n3 {d : Nat} {op : Op} {ty : TypeId} {pos : String} {after : Array Edge} {sv : SV} {gb : GB} (ha : Acts P g ⟨some d, op, ty, pos, after, none⟩ ⟨t, h, n⟩ sv [] [(n, gb)]) (hd : Nat.blt d g.n = true) (hk : GOps P g ops l ⟨(d, sv) :: t, (n, gb) :: h, n + 1⟩ Q) : GOps P g ops (⟨some d, op, ty, pos, after, none⟩ :: l) ⟨t, h, n⟩ Q := o_n hd ha hk
theorem s3 {d i : Nat} {op : Op} {ty : TypeId} {pos : String} {after : Array Edge} {sv : SV} {gb : GB} (ha : Acts P g ⟨some d, op, ty, pos, after, none⟩ ⟨t, h, n⟩ sv [i] [(n, gb), (i, .dead)]) (hd : Nat.blt d g.n = true) (hl : (lkG h i).lives = true) (hk : GOps P g ops l ⟨(d, sv) :: t, (n, gb) :: (i, .dead) :: h, n + 1⟩ Q) : GOps P g ops (⟨some d, op, ty, pos, after, none⟩ :: l) ⟨t, h, n⟩ Q := o_s hd hl ha hk
theorem w3 {i : Nat} {op : Op} {ty : TypeId} {pos : String} {after : Array Edge} {gb : GB} (ha : Acts P g ⟨none, op, ty, pos, after, none⟩ ⟨t, h, n⟩ .any [i] [(i, gb)]) (hl : (lkG h i).lives = true) (hk : GOps P g ops l ⟨t, (i, gb) :: h, n⟩ Q) : GOps P g ops (⟨none, op, ty, pos, after, none⟩ :: l) ⟨t, h, n⟩ Q := o_w hl ha hk
theorem py3 {d j d' : Nat} {b : Bool} {op : Op} {ty : TypeId} {pos : String} {after : Array Edge} {sv : SV} (hj : (ops[j]?).bind (·.dst) = some d') (hb : lkS t d' = .one (boo b)) (ha : Acts P g ⟨some d, op, ty, pos, after, some (j, b)⟩ ⟨t, h, n⟩ sv [] []) (hdd : Nat.blt d' g.n = true) (hd : Nat.blt d g.n = true) (hk : GOps P g ops l ⟨(d, sv) :: t, h, n⟩ Q) : GOps P g ops (⟨some d, op, ty, pos, after, some (j, b)⟩ :: l) ⟨t, h, n⟩ Q := o_py hj hb hdd hd ha hk
theorem ny3 {d j d' : Nat} {b : Bool} {op : Op} {ty : TypeId} {pos : String} {after : Array Edge} {sv : SV} {gb : GB} (hj : (ops[j]?).bind (·.dst) = some d') (hb : lkS t d' = .one (boo b)) (ha : Acts P g ⟨some d, op, ty, pos, after, some (j, b)⟩ ⟨t, h, n⟩ sv [] [(n, gb)]) (hdd : Nat.blt d' g.n = true) (hd : Nat.blt d g.n = true) (hk : GOps P g ops l ⟨(d, sv) :: t, (n, gb) :: h, n + 1⟩ Q) : GOps P g ops (⟨some d, op, ty, pos, after, some (j, b)⟩ :: l) ⟨t, h, n⟩ Q := o_ny hj hb hdd hd ha hk
theorem c3 {d : Nat} {op : Op} {ty : TypeId} {pos : String} {after : Array Edge} {sv : SV} {θ : List Nat} {up : List (Nat × GB)} {n' : Nat} (ha : Acts P g ⟨some d, op, ty, pos, after, none⟩ ⟨t, h, n⟩ sv θ up) (hd : Nat.blt d g.n = true) (hl : θ.all (fun i => (lkG h i).lives) = true) (hu : upOk n n' θ up) (hk : GOps P g ops l ⟨(d, sv) :: t, up ++ h, n'⟩ Q) : GOps P g ops (⟨some d, op, ty, pos, after, none⟩ :: l) ⟨t, h, n⟩ Q := o_c hd hl ha hu hk
theorem cy3 {d j d' : Nat} {b : Bool} {op : Op} {ty : TypeId} {pos : String} {after : Array Edge} {sv : SV} {θ : List Nat} {up : List (Nat × GB)} {n' : Nat} (hj : (ops[j]?).bind (·.dst) = some d') (hb : lkS t d' = .one (boo b)) (ha : Acts P g ⟨some d, op, ty, pos, after, some (j, b)⟩ ⟨t, h, n⟩ sv θ up) (hdd : Nat.blt d' g.n = true) (hd : Nat.blt d g.n = true) (hl : θ.all (fun i => (lkG h i).lives) = true) (hu : upOk n n' θ up) (hk : GOps P g ops l ⟨(d, sv) :: t, up ++ h, n'⟩ Q) : GOps P g ops (⟨some d, op, ty, pos, after, some (j, b)⟩ :: l) ⟨t, h, n⟩ Q := o_cy hj hb hdd hd hl ha hu hk
end
section
variable {P : Program} {g : Gh} {bf : List (List Nat)} {kk : Keys} {ops : List Oper} {st : St} {n' : Nat} {Q : Exit → St → Prop} {l : List Oper} {rs : List Rs}
theorem dp3 {d : Nat} {op : Op} {ty : TypeId} {pos : String} {after : Array Edge} {sv : SV} (ha : Acts P g ⟨some d, op, ty, pos, after, none⟩ (minSt bf kk ops st rs rs.length) sv [] []) (hd : Nat.blt d g.n = true) (hc : kk.ck rs.length = [])
    (hk : GDraw P g bf kk ops st n' Q l (rs ++ [⟨some d, sv, [], []⟩])) : GDraw P g bf kk ops st n' Q (⟨some d, op, ty, pos, after, none⟩ :: l) rs := dr_p hd hc ha hk
theorem dpy3 {d j d' : Nat} {b : Bool} {op : Op} {ty : TypeId} {pos : String} {after : Array Edge} {sv : SV} (hj : ((ops.toArray)[j]?).bind (·.dst) = some d') (hb : lkS (minSt bf kk ops st rs rs.length).t d' = .one (boo b)) (ha : Acts P g ⟨some d, op, ty, pos, after, some (j, b)⟩ (minSt bf kk ops st rs rs.length) sv [] []) (hdd : Nat.blt d' g.n = true) (hd : Nat.blt d g.n = true) (hc : kk.ck rs.length = [])
    (hk : GDraw P g bf kk ops st n' Q l (rs ++ [⟨some d, sv, [], []⟩])) : GDraw P g bf kk ops st n' Q (⟨some d, op, ty, pos, after, some (j, b)⟩ :: l) rs := dr_py hj hb hdd hd hc ha hk
theorem du3 {dst : Option Nat} {op : Op} {ty : TypeId} {pos : String} {after : Array Edge} {sv : SV} {ch : List Nat} {up : List (Nat × GB)} (ha : Acts P g ⟨dst, op, ty, pos, after, none⟩ (minSt bf kk ops st rs rs.length) sv ch up) (hd : ∀ d, dst = some d → d < g.n) (hc : kk.ck rs.length = ch) (hu : upIn (kk.nw rs.length ++ kk.ck rs.length) up)
    (hk : GDraw P g bf kk ops st n' Q l (rs ++ [⟨dst, sv, ch, up⟩])) : GDraw P g bf kk ops st n' Q (⟨dst, op, ty, pos, after, none⟩ :: l) rs := dr_u hd hc hu ha hk
theorem duy3 {dst : Option Nat} {j d' : Nat} {b : Bool} {op : Op} {ty : TypeId} {pos : String} {after : Array Edge} {sv : SV} {ch : List Nat} {up : List (Nat × GB)} (hj : ((ops.toArray)[j]?).bind (·.dst) = some d') (hb : lkS (minSt bf kk ops st rs rs.length).t d' = .one (boo b)) (ha : Acts P g ⟨dst, op, ty, pos, after, some (j, b)⟩ (minSt bf kk ops st rs rs.length) sv ch up) (hdd : Nat.blt d' g.n = true) (hd : ∀ d, dst = some d → d < g.n) (hc : kk.ck rs.length = ch) (hu : upIn (kk.nw rs.length ++ kk.ck rs.length) up)
    (hk : GDraw P g bf kk ops st n' Q l (rs ++ [⟨dst, sv, ch, up⟩])) : GDraw P g bf kk ops st n' Q (⟨dst, op, ty, pos, after, some (j, b)⟩ :: l) rs := dr_uy hj hb hdd hd hc hu ha hk
end
/-! Rows. -/
theorem rows_set {α : Type} (E : Enc α) : ∀ (l : List α) (k : Nat) (v : α), k < l.length → setRow (rows E l) (k * E.z) (E.enc v) = rows E (l.set k v)
  | [], k, v, h => by simp at h
  | x :: l, 0, v, _ => by
    have e : ∀ y, rows E (y :: l) = E.enc y ++ rows E l := fun y => by simp [rows]
    have := setRow_mid (E.enc v) [] (E.enc x ++ rows E l) (by simp [E.len])
    simp only [List.nil_append, List.length_nil] at this
    rw [e, Nat.zero_mul, List.set_cons_zero, this, e]
    congr 1
    rw [List.drop_append, List.drop_of_length_le (by simp [E.len])]
    simp [E.len]
  | x :: l, k + 1, v, h => by
    have e : ∀ y m, rows E (y :: m) = E.enc y ++ rows E m := fun y m => by simp [rows]
    have key : ∀ (us p r : List D) (off : Nat), setRow (p ++ r) (p.length + off) us = p ++ setRow r off us := by
      intro us
      induction us with
      | nil => intro p r off; rfl
      | cons u us ih =>
        intro p r off
        simp only [setRow]
        rw [List.set_append_right _ _ (by omega), show p.length + off - p.length = off by omega, show p.length + off + 1 = p.length + (off + 1) by omega, ih]
    rw [e, List.set_cons_succ, e, show (k + 1) * E.z = (E.enc x).length + k * E.z by rw [E.len, Nat.add_mul, Nat.one_mul]; omega, key, rows_set E l k v (by simpa using h)]
theorem rows_rep {α : Type} (E : Enc α) (x : α) (n : Nat) : repRow (E.enc x) n = rows E (List.replicate n x) := by
  unfold repRow rows
  induction n with
  | zero => rfl
  | succ n ih => simp [List.replicate_succ, ih]
theorem repI (n : Nat) : repRow (List.map scD [Value.int .i64 0]) n = rows eI (List.replicate n 0) := rows_rep eI 0 n
theorem rows_nth {α : Type} {E : Enc α} {l : List α} {k o : Nat} (h : k < l.length) (ho : o < E.z) : (rows E l)[k * E.z + o]? = (E.enc l[k])[o]? := by
  have h1 := elem_rows' (E := E) h
  have h2 : (rows E l)[k * E.z + o]? = (elem E.z (rows E l) k)[o]? := by
    unfold elem
    rw [List.getElem?_take, if_pos ho, List.getElem?_drop]
  rw [h2, h1]
theorem noOwnI (l : List Int) : D.noOwn.all (rows eI l) := noOwn_rows fun _ => ⟨trivial, trivial⟩
theorem plainI (l : List Int) : D.plain.all (rows eI l) := plain_rows fun _ => ⟨trivial, trivial⟩
theorem rowsI_nil : rows eI [] = [] := rfl
theorem rowsI_one (x : Int) : rows eI [x] = [.sc (.int .i64 x)] := rfl
section
variable {P : Program} {g : Gh} {st : St} {dst : Option Tmp} {ty : TypeId} {pos : String} {after : Array Edge} {guard : Option (Nat × Bool)} {x y z : Operand} {T U : TypeId}
theorem a_ne {a b : Int} (e1 : opd st x = .one (int a)) (e2 : opd st y = .one (int b)) : Acts P g ⟨dst, .binOp .neq T x y U, ty, pos, after, guard⟩ st (.one (boo (!decide (a = b)))) [] [] := a_bin e1 e2 rfl trivial
theorem a_lenE {α : Type} {E : Enc α} {l : List α} {zz zz' : Nat} {c : C} (hc : opd st x = .one c) (hs : slv st c = some (zz, rows E l)) (hT : sliceB P T zz' = true) (hz : E.z = zz) :
    Acts P g ⟨dst, .call { callee := .builtin .len, args := #[x], argTypes := #[T] }, ty, pos, after, guard⟩ st (.one (int l.length)) [] [] := by
  subst hz
  exact a_len hc hs hT (cnt_rows E l)
theorem a_iaE {α : Type} {E : Enc α} {l : List α} {zz : Nat} {c : C} {k : IntKind} {i : Int} (hc : opd st x = .one c) (hs : shv st c = some (zz, rows E l)) (hi : opd st y = .one (.d (.sc (.int k i)))) (hT : sliceB P T zz = true) (h0 : 0 ≤ i) (hn : i < l.length) (hz : E.z = zz) :
    Acts P g ⟨dst, .indexAddr T x y, ty, pos, after, guard⟩ st (.one (.d (.bx false (E.enc (l[i.toNat]'(by omega)))))) [] [] := by
  subst hz
  exact a_ia_imm hc hs hi hT h0 (cnt_lt hn) (elem_rows (by omega))
theorem a_iaO {α : Type} {E : Enc α} {l : List α} {zz j : Nat} {k : IntKind} {i : Int} (hc : opd st x = .one (.gv j)) (hg : lkG st.h j = .row zz (rows E l)) (hi : opd st y = .one (.d (.sc (.int k i)))) (hT : sliceB P T zz = true) (h0 : 0 ≤ i) (hn : i < l.length) (hz : E.z = zz) :
    Acts P g ⟨dst, .indexAddr T x y, ty, pos, after, guard⟩ st (.one (.gp j (i.toNat * zz))) [] [] := by
  subst hz
  exact a_ia_own hc hg hi hT h0 (cnt_lt hn) rfl
theorem a_iaO1 {l : List Int} {j : Nat} {k : IntKind} {i : Int} (hc : opd st x = .one (.gv j)) (hg : lkG st.h j = .row 1 (rows eI l)) (hi : opd st y = .one (.d (.sc (.int k i)))) (hT : sliceB P T 1 = true) (h0 : 0 ≤ i) (hn : i < l.length) :
    Acts P g ⟨dst, .indexAddr T x y, ty, pos, after, guard⟩ st (.one (.gp j i.toNat)) [] [] := a_ia_own hc hg hi hT h0 (cnt_lt (E := eI) hn) (Nat.mul_one _)
theorem a_appE {α : Type} {E : Enc α} {l m : List α} {i j zz bytes : Nat} {c2 : C} (hT : appB P T zz bytes = true) (hx : opd st x = .one (.gv i)) (hg : lkG st.h i = .row zz (rows E l)) (hy : opd st y = .one c2) (hs : slv st c2 = some (zz, rows E m)) (hno : D.noOwn.all (rows E m)) (hby : (l.length + m.length) * bytes ≤ 140737488355328) (hb : 0 < bytes) (hji : ¬ j = i) (hz : E.z = zz) :
    Acts P g ⟨dst, .call { callee := .builtin .append, args := #[x, y], argTypes := #[T, T] }, ty, pos, after, guard⟩ st (.one (.gv j)) [i] [(j, .row zz (rows E (l ++ m))), (i, .dead)] := by
  subst hz
  have : l.length + m.length ≤ (l.length + m.length) * bytes := Nat.le_mul_of_pos_right _ hb
  exact a_app hT hx hg hy hs hno (by rw [cnt_rows', cnt_rows']; omega) (by rw [cnt_rows', cnt_rows']; exact hby) (rows_app E l m) hji
/-- A number of an own slice is loaded. -/
theorem a_ld_rowI {i k : Nat} {c0 : C} {l : List Int} (hc : opd st x = .one c0) (ht : tgt st c0 = some (i, k)) (hg : lkG st.h i = .row 1 (rows eI l)) (hT : cellB P T = true) (hk : k < l.length) : Acts P g ⟨dst, .load T x, ty, pos, after, guard⟩ st (.one (int (l[k]'hk))) [] [] := by
  refine a_ld_row (c := .sc (.int .i64 (l[k]'hk))) hc ht hg hT ?_ trivial
  have := rows_nth (E := eI) (o := 0) hk (by decide)
  simpa using this
theorem a_stE {α : Type} {E : Enc α} {l : List α} (v : α) {j k zz : Nat} {xs : List C} (hc : opd st x = .one (.gp j (k * zz))) (hg : lkG st.h j = .row zz (rows E l)) (hs : (opd st y).cells = some xs) (hd : allD st.h xs = some (E.enc v)) (hT : sizeB P T zz = true) (hk : k < l.length) (hz : E.z = zz) :
    Acts P g ⟨none, .store T x y, ty, pos, after, guard⟩ st .any [j] [(j, .row zz (rows E (l.set k v)))] := by
  subst hz
  have hlen := rows_len E l
  have hmul : k * E.z + E.z ≤ l.length * E.z := by
    have := Nat.mul_le_mul_right E.z (Nat.succ_le_of_lt hk)
    rw [Nat.succ_mul] at this
    exact this
  refine a_st_row (ds := E.enc v) hc rfl hg hs hd (by rw [E.len]; exact hT) (by rw [E.len]; exact E.pos) (by rw [E.len, hlen]; exact hmul) (rows_set E l k v hk)
theorem a_st_rowI {i k : Nat} {c0 : C} {l : List Int} {v : Int} (hc : opd st x = .one c0) (ht : tgt st c0 = some (i, k)) (hg : lkG st.h i = .row 1 (rows eI l)) (hs : opd st y = .one (int v)) (hT : sizeB P T 1 = true) (hk : k < l.length) :
    Acts P g ⟨none, .store T x y, ty, pos, after, guard⟩ st .any [i] [(i, .row 1 (rows eI (l.set k v)))] := by
  refine a_st_row (ds := [.sc (.int .i64 v)]) (xs := [int v]) hc ht hg (by rw [hs]; rfl) rfl hT (by simp) ?_ ?_
  · have := rows_len eI l
    simp at this
    simp [this]
    omega
  · have := rows_set eI l k v hk
    simpa using this
end
end Go.Proofs.Ytncccjpbaeaafaa
