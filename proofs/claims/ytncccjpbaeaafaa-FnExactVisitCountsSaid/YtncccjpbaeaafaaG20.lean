/- Small numbers of the kind uint64 (the product in math/bits). -/
import Derived.Test.YtncccjpbaeaafaaG19
set_option linter.unusedVariables false
set_option linter.unusedSimpArgs false
set_option maxRecDepth 100000
namespace Go.Proofs.Ytncccjpbaeaafaa
open Go Foot
abbrev u64 (n : Int) : C := .d (.sc (.int .u64 n))
theorem wrapU {n : Int} (h1 : 0 ≤ n) (h2 : n < 18446744073709551616) : IntKind.u64.wrap n = n := by
  simp [IntKind.wrap, IntKind.bits, IntKind.signed]
  omega
section
variable {P : Program} {g : Gh} {st : St}
variable {dst : Option Tmp} {ty : TypeId} {pos : String} {after : Array Edge} {guard : Option (Nat × Bool)} {x y : Operand} {T U : TypeId} {a b : Int}
theorem u_add (e1 : opd st x = .one (u64 a)) (e2 : opd st y = .one (u64 b)) (h1 : 0 ≤ a + b) (h2 : a + b < 18446744073709551616) : Acts P g ⟨dst, .binOp .add T x y U, ty, pos, after, guard⟩ st (.one (u64 (a + b))) [] [] := by
  have := a_bin (P := P) (g := g) (dst := dst) (T := T) (U := U) (ty := ty) (pos := pos) (after := after) (guard := guard) (op := .add) e1 e2 rfl trivial
  rwa [wrapU h1 h2] at this
theorem u_mul (e1 : opd st x = .one (u64 a)) (e2 : opd st y = .one (u64 b)) (h1 : 0 ≤ a * b) (h2 : a * b < 18446744073709551616) : Acts P g ⟨dst, .binOp .mul T x y U, ty, pos, after, guard⟩ st (.one (u64 (a * b))) [] [] := by
  have := a_bin (P := P) (g := g) (dst := dst) (T := T) (U := U) (ty := ty) (pos := pos) (after := after) (guard := guard) (op := .mul) e1 e2 rfl trivial
  rwa [wrapU h1 h2] at this
theorem u_and (e1 : opd st x = .one (u64 a)) (e2 : opd st y = .one (u64 4294967295)) (h1 : 0 ≤ a) (h2 : a ≤ 4294967295) : Acts P g ⟨dst, .binOp .and T x y U, ty, pos, after, guard⟩ st (.one (u64 a)) [] [] := by
  have := a_bin (P := P) (g := g) (dst := dst) (T := T) (U := U) (ty := ty) (pos := pos) (after := after) (guard := guard) (op := .and) e1 e2 rfl trivial
  have e : IntKind.u64.wrap ((BitVec.ofInt IntKind.u64.bits a &&& BitVec.ofInt IntKind.u64.bits 4294967295).toNat : Nat) = a := by
    obtain ⟨n, rfl⟩ := Int.eq_ofNat_of_zero_le h1
    have hn : n < 2 ^ 32 := by omega
    have h3 : (BitVec.ofInt IntKind.u64.bits (n : Int) &&& BitVec.ofInt IntKind.u64.bits 4294967295).toNat = n := by
      show (BitVec.ofInt 64 (n : Int) &&& BitVec.ofInt 64 4294967295).toNat = n
      rw [BitVec.toNat_and]
      have h4 : (BitVec.ofInt 64 (n : Int)).toNat = n := by simp; omega
      have h5 : (BitVec.ofInt 64 4294967295).toNat = 2 ^ 32 - 1 := by decide
      rw [h4, h5, Nat.and_two_pow_sub_one_eq_mod, Nat.mod_eq_of_lt hn]
    rw [h3]
    exact wrapU (by omega) (by omega)
  rwa [e] at this
theorem u_shr (e1 : opd st x = .one (u64 a)) (e2 : opd st y = .one (.d (.sc (.int .u64 32)))) (h1 : 0 ≤ a) (h2 : a ≤ 4294967295) : Acts P g ⟨dst, .binOp .shr T x y U, ty, pos, after, guard⟩ st (.one (u64 0)) [] [] := by
  have := a_bin (P := P) (g := g) (dst := dst) (T := T) (U := U) (ty := ty) (pos := pos) (after := after) (guard := guard) (op := .shr) e1 e2 rfl (show (0 : Int) ≤ 32 by decide)
  have e : a.fdiv (2 ^ min (32 : Int).toNat IntKind.u64.bits) = 0 := by
    show a.fdiv (2 ^ min 32 64) = 0
    rw [show min 32 64 = 32 from rfl, Int.fdiv_eq_ediv_of_nonneg _ (by decide)]
    omega
  rwa [e] at this
theorem u_conv (e1 : opd st x = .one (int a)) (hT : P.underlying T = some (.int .i64)) (hU : P.underlying U = some (.int .u64)) (h1 : 0 ≤ a) (h2 : a < 9223372036854775808) : Acts P g ⟨dst, .convert T U x, ty, pos, after, guard⟩ st (.one (u64 a)) [] [] := by
  have := a_conv (P := P) (g := g) (dst := dst) (T := T) (U := U) (ty := ty) (pos := pos) (after := after) (guard := guard) e1 (by rw [hT]; rfl) hU
  rwa [wrapU h1 (by omega)] at this
theorem u_vnoc (e1 : opd st x = .one (u64 a)) (hT : P.underlying T = some (.int .u64)) (hU : P.underlying U = some (.int .i64)) (h1 : 0 ≤ a) (h2 : a < 9223372036854775808) : Acts P g ⟨dst, .convert T U x, ty, pos, after, guard⟩ st (.one (int a)) [] [] := by
  have := a_conv (P := P) (g := g) (dst := dst) (T := T) (U := U) (ty := ty) (pos := pos) (after := after) (guard := guard) e1 (by rw [hT]; rfl) hU
  rwa [wrap64 (by omega) h2] at this
theorem u_same (e1 : opd st x = .one (u64 a)) (hT : P.underlying T = some (.int .u64)) (hU : P.underlying U = some (.int .u64)) (h1 : 0 ≤ a) (h2 : a < 18446744073709551616) : Acts P g ⟨dst, .convert T U x, ty, pos, after, guard⟩ st (.one (u64 a)) [] [] := by
  have := a_conv (P := P) (g := g) (dst := dst) (T := T) (U := U) (ty := ty) (pos := pos) (after := after) (guard := guard) e1 (by rw [hT]; rfl) hU
  rwa [wrapU h1 h2] at this
theorem u_gtr (e1 : opd st x = .one (u64 a)) (e2 : opd st y = .one (u64 b)) : Acts P g ⟨dst, .binOp .gtr T x y U, ty, pos, after, guard⟩ st (.one (boo (decide (b < a)))) [] [] :=
  a_bin (P := P) (g := g) (dst := dst) (T := T) (U := U) (ty := ty) (pos := pos) (after := after) (guard := guard) (op := .gtr) e1 e2 rfl trivial
end
end Go.Proofs.Ytncccjpbaeaafaa
