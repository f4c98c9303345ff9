/- Operations that need no premise, by one function. -/
import Derived.Test.YtncccjpbaeaafaaTys
import Derived.Test.YtncccjpbaeaafaaG16
set_option linter.unusedVariables false
set_option linter.unusedSimpArgs false
set_option maxRecDepth 100000
namespace Go.Proofs.Ytncccjpbaeaafaa
open Go Foot
def ldRow (row : List D) (T : Nat) : Option SV := bif lk1 tabC T then (match row with | c :: _ => some (.one (.d c)) | [] => none) else match lk2 tabA T with
  | some n => bif Nat.ble n row.length then some (.agg ((row.take n).map C.d)) else none
  | none => none
def ldBx (st : St) (c : C) (T : Nat) : Option SV := match tgt st c with
  | some (i, k) => match lkG st.h i with
    | .bx cs => bif lk1 tabC T then (match cs[k]? with | some c => some (.one c) | none => none) else match lk2 tabA T with
      | some n => bif Nat.ble (k + n) cs.length then some (.agg ((cs.drop k).take n)) else none
      | none => none
    | _ => none
  | none => none
def faP (st : St) (T f : Nat) (c : C) : Option SV := match lk3 tabF T f with
  | some off => match c with
    | .gp i k => some (.one (.gp i (k + off)))
    | .gv i => match lkG st.h i with
      | .bx _ => some (.one (.gp i off))
      | _ => none
    | .d (.bx false row) => some (.one (.d (.bx false (row.drop off))))
    | _ => none
  | none => none
def ldP (st : St) (T : Nat) (c : C) : Option SV := match c with
  | .d (.bx false row) => ldRow row T
  | .gv i => ldBx st (.gv i) T
  | .gp i k => ldBx st (.gp i k) T
  | _ => none
def stepP (st : St) : Op → Option SV
  | .move x => some (opd st x)
  | .assign x => some (opd st x)
  | .pick x y z => match opd st x with
    | .one (.d (.sc (.bool b))) => some (bif b then opd st y else opd st z)
    | _ => none
  | .nilCheck x => match opd st x with
    | .one c => bif isPtr st c then some (.one c) else none
    | _ => none
  | .fieldAddr T x f => match opd st x with
    | .one c => faP st T f c
    | _ => none
  | .load T x => match opd st x with
    | .one c => ldP st T c
    | _ => none
  | .extract x k => match opd st x with
    | .tup l => match l[k]? with
      | some (true, cs) => some (.agg cs)
      | some (false, [c]) => some (.one c)
      | _ => none
    | _ => none
  | .unOp .not _ x => match opd st x with
    | .one (.d (.sc (.bool b))) => some (.one (boo (!b)))
    | _ => none
  | .build T ps => match lk2 tabZ T, lk2 tabU T with
    | some vs, some l => match partCells st l ps.toList with
      | some r => match fillC (vs.map scC) r with
        | some cs => some (.agg cs)
        | none => none
      | none => none
    | _, _ => none
  | .makeInterface T x => bif lk1 tabI T then (match opd st x with
      | .one c => some (.one (.ifc T false [c]))
      | .agg cs => some (.one (.ifc T true cs))
      | _ => none) else none
  | .makeFunc f ⟨[]⟩ cap => match oneCells st cap.toList with
    | some cs => some (.one (.fn f cs))
    | none => none
  | .call ⟨.builtin .len, ⟨[x]⟩, ⟨[T]⟩⟩ => match lk2 tabS T, opd st x with
    | some _, .one (.d (.sc (.slice none 0 0))) => some (.one (int 0))
    | _, _ => none
  | _ => none
section
variable {g : Gh} {st : St} {dst : Option Tmp} {ty : TypeId} {pos : String} {after : Array Edge} {guard : Option (Nat × Bool)} {op : Op} {sv : SV}
theorem pure_ld {T : Nat} {x : Operand} {c : C} (hc : opd st x = .one c) (h : ldP st T c = some sv) : Acts Try.prog g ⟨dst, .load T x, ty, pos, after, guard⟩ st sv [] [] := by
  have hbx : ∀ {c : C}, opd st x = .one c → ldBx st c T = some sv → Acts Try.prog g ⟨dst, .load T x, ty, pos, after, guard⟩ st sv [] [] := by
    intro c hc h
    unfold ldBx at h
    split at h
    · rename_i i k ht
      split at h
      · rename_i cs hg
        cases hC : lk1 tabC T with
        | true =>
          rw [hC] at h
          simp only [cond_true] at h
          split at h
          · rename_i c' hr
            cases h
            exact a_ld_bx hc ht hg (fC hC) hr
          · cases h
        | false =>
          rw [hC] at h
          simp only [cond_false] at h
          split at h
          · rename_i n hA
            cases hb : Nat.ble (k + n) cs.length with
            | true => rw [hb] at h; simp only [cond_true, Option.some.injEq] at h; subst h; exact a_lds_bx hc ht hg (fA hA) (Nat.le_of_ble_eq_true hb) rfl
            | false => rw [hb] at h; cases h
          · cases h
      · cases h
    · cases h
  unfold ldP at h
  split at h
  · rename_i row
    unfold ldRow at h
    cases hC : lk1 tabC T with
    | true =>
      rw [hC] at h
      simp only [cond_true] at h
      split at h
      · cases h; exact a_ld_imm hc (fC hC) rfl
      · cases h
    | false =>
      rw [hC] at h
      simp only [cond_false] at h
      split at h
      · rename_i n hA
        cases hb : Nat.ble n row.length with
        | true => rw [hb] at h; simp only [cond_true, Option.some.injEq] at h; subst h; exact a_lds_imm hc (fA hA) (Nat.le_of_ble_eq_true hb) rfl
        | false => rw [hb] at h; cases h
      · cases h
  · exact hbx hc h
  · exact hbx hc h
  · cases h
theorem a_pure (h : stepP st op = some sv) : Acts Try.prog g ⟨dst, op, ty, pos, after, guard⟩ st sv [] [] := by
  unfold stepP at h
  split at h
  · cases h; exact a_move rfl
  · cases h; exact a_assign rfl
  · split at h
    · rename_i b hb; cases h; exact a_pick hb rfl
    · cases h
  · split at h
    · rename_i c hc
      cases hp : isPtr st c with
      | true => rw [hp] at h; cases h; exact a_nil hc hp
      | false => rw [hp] at h; cases h
    · cases h
  · split at h
    · rename_i c hc
      unfold faP at h
      split at h
      · rename_i off hF
        split at h
        · cases h; exact a_fa_gp hc (fF hF) rfl
        · split at h
          · rename_i hg; cases h; exact a_fa_gv hc hg (fF hF)
          · cases h
        · cases h; exact a_fa_imm hc (fF hF) rfl
        · cases h
      · cases h
    · cases h
  · split at h
    · rename_i c hc; exact pure_ld hc h
    · cases h
  · split at h
    · rename_i l hc
      split at h
      · rename_i cs hk; cases h; exact a_extract hc hk rfl
      · rename_i c hk; cases h; exact a_extract hc hk rfl
      · cases h
    · cases h
  · split at h
    · rename_i b hc; cases h; exact a_un hc rfl
    · cases h
  · rename_i T ps
    split at h
    · rename_i vs l hZ hU
      split at h
      · rename_i r hr
        split at h
        · rename_i cs hf; cases h; exact a_build (ps := ps.toList) (fZ hZ) (fU hU) hr hf
        · cases h
      · cases h
    · cases h
  · rename_i T x
    cases hI : lk1 tabI T with
    | true =>
      rw [hI] at h
      simp only [cond_true] at h
      split at h
      · rename_i c hc; cases h; exact a_ifc hc (fI hI)
      · rename_i cs hc; cases h; exact a_ifcs hc (fI hI)
      · cases h
    | false => rw [hI] at h; cases h
  · rename_i f cap
    split at h
    · rename_i cs hc; cases h; exact a_fn (cap := cap.toList) hc
    · cases h
  · rename_i x T
    split at h
    · rename_i hS hc; cases h; exact a_len_nil hc (fS hS)
    · cases h
  · cases h
def newP (st : St) : Op → Option GB
  | .alloc T => match lk2 tabZ T with
    | some vs => some (.bx (vs.map scC))
    | none => none
  | .box _ x => match (opd st x).cells with
    | some cs => some (.bx cs)
    | none => none
  | _ => none
theorem a_new {i : Nat} {gb : GB} (h : newP st op = some gb) : Acts Try.prog g ⟨dst, op, ty, pos, after, guard⟩ st (.one (.gv i)) [] [(i, gb)] := by
  unfold newP at h
  split at h
  · split at h
    · rename_i vs hZ; cases h; exact a_alloc (fZ hZ) rfl
    · cases h
  · split at h
    · rename_i cs hs; cases h; exact a_box hs
    · cases h
  · cases h
theorem a_litE {α : Type} {i : Nat} (E : Enc α) (l : List α) {T z b n : Nat} {ps : List (Nat × Operand)} {cs : List C} {row : List D} (hP : lk2 tabP T = some (z, b)) (hn : ps.length = n) (ho : inOrder 0 ps = true) (hc : catCells st z ps = some cs) (hd : allD st.h cs = some row) (hrow : rows E l = row) (hz : E.z = z) (hsm : Nat.ble (n * z) 16777216 = true) :
    Acts Try.prog g ⟨dst, .buildSlice T n ps.toArray, ty, pos, after, guard⟩ st (.one (.gv i)) [] [(i, .row z (rows E l))] := by
  subst hz hrow
  exact a_lit (fP hP) E.pos hn (Nat.le_of_ble_eq_true hsm) ho hc hd
theorem a_quo {x y : Operand} {T U : TypeId} {a b : Int} (e1 : opd st x = .one (int a)) (e2 : opd st y = .one (int b)) (h1 : 0 ≤ a) (h2 : 0 < b) (h3 : a < 9223372036854775808) : Acts Try.prog g ⟨dst, .binOp .quo T x y U, ty, pos, after, guard⟩ st (.one (int (a / b))) [] [] := by
  have := a_bin (P := Try.prog) (g := g) (dst := dst) (T := T) (U := U) (ty := ty) (pos := pos) (after := after) (guard := guard) (op := .quo) e1 e2 rfl (show b ≠ 0 by omega)
  have h4 : 0 ≤ a / b := Int.ediv_nonneg h1 (by omega)
  have h5 : a / b ≤ a := Int.ediv_le_self b h1
  rwa [Int.tdiv_eq_ediv_of_nonneg h1, wrap64 (by omega) (by omega)] at this
theorem a_rem {x y : Operand} {T U : TypeId} {a b : Int} (e1 : opd st x = .one (int a)) (e2 : opd st y = .one (int b)) (h1 : 0 ≤ a) (h2 : 0 < b) (h3 : b < 9223372036854775808) : Acts Try.prog g ⟨dst, .binOp .rem T x y U, ty, pos, after, guard⟩ st (.one (int (a % b))) [] [] := by
  have := a_bin (P := Try.prog) (g := g) (dst := dst) (T := T) (U := U) (ty := ty) (pos := pos) (after := after) (guard := guard) (op := .rem) e1 e2 rfl (show b ≠ 0 by omega)
  have h4 : 0 ≤ a % b := Int.emod_nonneg a (by omega)
  have h5 : a % b < b := Int.emod_lt_of_pos a h2
  rwa [Int.tmod_eq_emod_of_nonneg h1] at this
theorem mul_bd {a b : Int} (h1 : -3037000499 ≤ a) (h2 : a ≤ 3037000499) (h3 : -3037000499 ≤ b) (h4 : b ≤ 3037000499) : -9223372036854775808 ≤ a * b ∧ a * b < 9223372036854775808 := by
  have h : (a * b).natAbs ≤ 3037000499 * 3037000499 := by rw [Int.natAbs_mul]; exact Nat.mul_le_mul (by omega) (by omega)
  omega
theorem a_mulB {x y : Operand} {T U : TypeId} {a b : Int} (e1 : opd st x = .one (int a)) (e2 : opd st y = .one (int b)) (h1 : -3037000499 ≤ a) (h2 : a ≤ 3037000499) (h3 : -3037000499 ≤ b) (h4 : b ≤ 3037000499) : Acts Try.prog g ⟨dst, .binOp .mul T x y U, ty, pos, after, guard⟩ st (.one (int (a * b))) [] [] :=
  a_mul e1 e2 (mul_bd h1 h2 h3 h4).1 (mul_bd h1 h2 h3 h4).2
theorem a_nilO {α : Type} (E : Enc α) {x : Operand} {i : Nat} (hc : opd st x = .one nilC) : Acts Try.prog g ⟨dst, .assign x, ty, pos, after, guard⟩ st (.one (.gv i)) [] [(i, .row E.z (rows E []))] := by
  refine ⟨fun a w S ρ F h hn K Q hK => ?_⟩
  have hn' : ρ i = none := by simpa using hn (i, .row E.z (rows E [])) (by simp)
  have hx := opd_sc h hc
  have hrun : (execOp a.eval ⟨dst, .assign x, ty, pos, after, guard⟩).run Try.prog w = .ok (.value (.slice none 0 0)) w := by rw [← hx]; rfl
  unfold Oper.wp
  rw [hrun, Oper.upon_value]
  exact hK _ w no _ _ (Done.new (S1 := no) (G := no) (Keeps.refl _ _) hn' (fun ρ' hl _ => rep_nil E.pos) (fun _ _ h => h.elim)) ⟨by simp, rfl⟩
theorem a_appN {α : Type} {E : Enc α} {m : List α} {x y : Operand} {T zz bytes j : Nat} {c2 : C} (hT : appB Try.prog T zz bytes = true) (hx : opd st x = .one nilC) (hy : opd st y = .one c2) (hs : slv st c2 = some (zz, rows E m)) (hno : D.noOwn.all (rows E m)) (hby : m.length * bytes ≤ 140737488355328) (hb : 0 < bytes) (hz : E.z = zz) :
    Acts Try.prog g ⟨dst, .call { callee := .builtin .append, args := #[x, y], argTypes := #[T, T] }, ty, pos, after, guard⟩ st (.one (.gv j)) [] [(j, .row zz (rows E m))] := by
  subst hz
  have : m.length ≤ m.length * bytes := Nat.le_mul_of_pos_right _ hb
  exact a_app_nil hT E.pos hx hy hs hno (by rw [cnt_rows']; omega) (by rw [cnt_rows']; exact hby)
theorem bnd_no {d : Nat} : bndOk st d none d := rfl
theorem bnd_i {d : Nat} {x : Operand} {i : Int} (e : opd st x = .one (int i)) (h : 0 ≤ i) : bndOk st d (some x) i.toNat := ⟨_, i, e, h, rfl⟩
theorem sl_tail {α : Type} (E : Enc α) (l : List α) (a : Nat) : ((rows E l).drop (a * E.z)).take ((l.length - a) * E.z) = rows E (l.drop a) := by
  rw [rows_drop, ← List.length_drop, rows_take, List.take_length]
theorem sl_mid {α : Type} (E : Enc α) (l : List α) (a b : Nat) : ((rows E l).drop (a * E.z)).take ((b - a) * E.z) = rows E ((l.drop a).take (b - a)) := by
  rw [rows_drop, rows_take]
theorem sl_head {α : Type} (E : Enc α) (l : List α) (b : Nat) : ((rows E l).drop (0 * E.z)).take ((b - 0) * E.z) = rows E (l.take b) := by
  rw [rows_drop, rows_take]; simp
/-- l[a:] -/
theorem a_slT {α : Type} {E : Enc α} {l : List α} {x lo : Operand} {T zz : Nat} {c : C} {a : Int} (hc : opd st x = .one c) (hs : shv st c = some (zz, rows E l)) (hlo : opd st lo = .one (int a)) (hT : sliceB Try.prog T zz = true) (h0 : 0 ≤ a) (h1 : a ≤ l.length) (hz : E.z = zz) :
    Acts Try.prog g ⟨dst, .slice T x (some lo) none none, ty, pos, after, guard⟩ st (.one (.d (.sl false zz (rows E (l.drop a.toNat))))) [] [] := by
  subst hz
  exact a_slice_imm hc hs (bnd_i hlo h0) (by rw [cnt_rows']; exact bnd_no) hT (by omega) (by rw [cnt_rows']; exact Nat.le_refl _) (sl_tail E l _)
/-- l[:b] -/
theorem a_slH {α : Type} {E : Enc α} {l : List α} {x hi : Operand} {T zz : Nat} {c : C} {b : Int} (hc : opd st x = .one c) (hs : shv st c = some (zz, rows E l)) (hhi : opd st hi = .one (int b)) (hT : sliceB Try.prog T zz = true) (h0 : 0 ≤ b) (h1 : b ≤ l.length) (hz : E.z = zz) :
    Acts Try.prog g ⟨dst, .slice T x none (some hi) none, ty, pos, after, guard⟩ st (.one (.d (.sl false zz (rows E (l.take b.toNat))))) [] [] := by
  subst hz
  exact a_slice_imm hc hs bnd_no (bnd_i hhi h0) hT (by omega) (by rw [cnt_rows']; omega) (sl_head E l _)
theorem a_slM {α : Type} {E : Enc α} {l : List α} {x lo hi : Operand} {T zz : Nat} {c : C} {a b : Int} (hc : opd st x = .one c) (hs : shv st c = some (zz, rows E l)) (hlo : opd st lo = .one (int a)) (hhi : opd st hi = .one (int b)) (hT : sliceB Try.prog T zz = true) (h0 : 0 ≤ a) (h1 : a ≤ b) (h2 : b ≤ l.length) (hz : E.z = zz) :
    Acts Try.prog g ⟨dst, .slice T x (some lo) (some hi) none, ty, pos, after, guard⟩ st (.one (.d (.sl false zz (rows E ((l.drop a.toNat).take (b.toNat - a.toNat)))))) [] [] := by
  subst hz
  exact a_slice_imm hc hs (bnd_i hlo h0) (bnd_i hhi (by omega)) hT (by omega) (by rw [cnt_rows']; omega) (sl_mid E l _ _)
theorem a_slTO {α : Type} {E : Enc α} {l : List α} {x lo : Operand} {T zz i j : Nat} {a : Int} (hc : opd st x = .one (.gv i)) (hg : lkG st.h i = .row zz (rows E l)) (hlo : opd st lo = .one (int a)) (hT : sliceB Try.prog T zz = true) (h0 : 0 ≤ a) (h1 : a ≤ l.length) (hz : E.z = zz) (hji : ¬ j = i) :
    Acts Try.prog g ⟨dst, .slice T x (some lo) none none, ty, pos, after, guard⟩ st (.one (.gv j)) [i] [(j, .row zz (rows E (l.drop a.toNat))), (i, .dead)] := by
  subst hz
  exact a_slice_own hc hg (bnd_i hlo h0) (by rw [cnt_rows']; exact bnd_no) hT (by omega) (by rw [cnt_rows']; exact Nat.le_refl _) (sl_tail E l _) hji
theorem a_slHO {α : Type} {E : Enc α} {l : List α} {x hi : Operand} {T zz i j : Nat} {b : Int} (hc : opd st x = .one (.gv i)) (hg : lkG st.h i = .row zz (rows E l)) (hhi : opd st hi = .one (int b)) (hT : sliceB Try.prog T zz = true) (h0 : 0 ≤ b) (h1 : b ≤ l.length) (hz : E.z = zz) (hji : ¬ j = i) :
    Acts Try.prog g ⟨dst, .slice T x none (some hi) none, ty, pos, after, guard⟩ st (.one (.gv j)) [i] [(j, .row zz (rows E (l.take b.toNat))), (i, .dead)] := by
  subst hz
  exact a_slice_own hc hg bnd_no (bnd_i hhi h0) hT (by omega) (by rw [cnt_rows']; omega) (sl_head E l _) hji
end
end Go.Proofs.Ytncccjpbaeaafaa
