/- Maps: reading with the word whether there is something; entries of a literal. -/
import Derived.Test.YtncccjpbaeaafaaG18
import Derived.Test.YtncccjpbaeaafaaG19
set_option linter.unusedVariables false
set_option linter.unusedSimpArgs false
set_option maxRecDepth 100000
namespace Go.Proofs.Ytncccjpbaeaafaa
open Go Foot MapKept
section
variable {P : Program} {g : Gh} {st : St}
variable {dst : Option Tmp} {ty : TypeId} {pos : String} {after : Array Edge} {guard : Option (Nat × Bool)} {x y z : Operand} {T kt et : TypeId} {α β : Type} [DecidableEq α]
theorem a_lookOk {M : MapE α β} {l : List (α × β)} {i : Nat} {a0 : α} (b0 : β) (hx : opd st x = .one (.gv i)) (hg : lkG st.h i = mpOf M l) (hy : opd st y = .one (.d (.sc (M.ke a0)))) (hT : P.underlying T = some (.map kt et)) (hk : P.underlying kt = some M.d) (hz : zeroV P et = some (M.ve b0)) :
    Acts P g ⟨dst, .lookup T x y true, ty, pos, after, guard⟩ st (.tup [(false, [.d (.sc (M.ve ((getA l a0).getD b0)))]), (false, [boo (getA l a0).isSome])]) [] [] := by
  refine acts_of fun a w S ρ F h => ?_
  obtain ⟨b, es, c, e1, _, e2, e3, _⟩ := rel_map h hx hg
  refine ⟨.tuple #[M.ve ((getA l a0).getD b0), .bool (getA l a0).isSome], ?_, ⟨_, rfl, _, _, rfl, ⟨_, _, rfl, ⟨rfl, M.one _⟩, rfl⟩, _, _, rfl, ⟨_, _, rfl, ⟨rfl, rfl⟩, rfl⟩, rfl⟩⟩
  show (do pure (.value (← Instr.lookup T (a.eval x) (a.eval y) true)) : Sem Next).run P w = _
  rw [e1, opd_sc h hy]
  have hzr : (zeroValue et).run P w = .ok (M.ve b0) w := run_zeroV hz
  rcases findNow_A M a0 b0 es.toList l 0 e3 with ⟨g1, g2, _⟩ | ⟨v, j, e, g1, g2, _⟩
  · simp [Instr.lookup, run_underlying hT, MapKept.run_getObj_map e2, MapKept.run_checkKey hk (M.isK a0) es.isEmpty 9999, MapKept.run_findKey hk g2, hzr, g1]
  · simp [Instr.lookup, run_underlying hT, MapKept.run_getObj_map e2, MapKept.run_checkKey hk (M.isK a0) es.isEmpty 9999, MapKept.run_findKey hk g2, g1]
theorem a_insert {M : MapE α β} {l : List (α × β)} {i : Nat} {a0 : α} {b0 : β} (hx : opd st x = .one (.gv i)) (hg : lkG st.h i = mpOf M l) (hy : opd st y = .one (.d (.sc (M.ke a0)))) (hv : opd st z = .one (.d (.sc (M.ve b0)))) (hT : P.underlying T = some (.map kt et)) (hk : P.underlying kt = some M.d) :
    Acts P g ⟨none, .insert T x y z, ty, pos, after, guard⟩ st .any [i] [(i, mpOf M (setA l a0 b0))] :=
  ⟨fun a w S ρ F h hn K Q hK => (a_mapUpd (P := P) (g := g) (ty := ty) (pos := pos) (after := after) (guard := guard) hx hg hy hv hT hk).run a w S ρ F h hn K Q hK⟩
end
/-- A slot of which no more is said. -/
theorem t_junkS {g : Gh} {t : List (Nat × SV)} {h : List (Nat × GB)} {n d : Nat} {c : C} (hd : lkS t d = .one c) : Conv g ⟨t, h, n⟩ ⟨(d, .one (.d .junk)) :: t, h, n⟩ := by
  intro a w S ρ F hr hf
  have hs := hr.slot d
  rw [hd] at hs
  exact ⟨S, ρ, F, hr.setSlot (d := d) (sv := .one (.d .junk)) (RepC.one (c := c) hs), hf⟩
/-- An own slice, seen as a part of itself: what was said stays true when the root is gone. -/
theorem t_gsS {α : Type} {g : Gh} {t : List (Nat × SV)} {h : List (Nat × GB)} {n d i z : Nat} {E : Enc α} {l : List α} (hd : lkS t d = .one (.gv i)) (hg : lkG h i = .row z (rows E l)) (hz : E.z = z) : Conv g ⟨t, h, n⟩ ⟨(d, .one (.gs i z 0 l.length)) :: t, h, n⟩ := by
  intro a w S ρ F hr hf
  subst hz
  obtain ⟨ad, len, cap, r1, e1, e2, e3, _⟩ := rel_row hr hg
  have hs := hr.slot d
  rw [hd] at hs
  have hv := hs.1
  rw [r1] at hv
  simp only [Option.some.injEq] at hv
  have hl : len = l.length := by
    have := cnt_rows' E l
    unfold cnt at this
    rw [e1, Nat.mul_div_cancel _ e2] at this
    exact this
  refine ⟨S, ρ, F, hr.setSlot (d := d) (sv := .one (.gs i E.z 0 l.length)) ⟨ad, len, cap, r1, Nat.zero_le _, by omega, ?_⟩, hf⟩
  rw [← hv, addr0, hl]
  simp
theorem a_lenG {P : Program} {g : Gh} {st : St} {dst : Option Tmp} {ty : TypeId} {pos : String} {after : Array Edge} {guard : Option (Nat × Bool)} {x : Operand} {T : TypeId} {i z lo hi zz : Nat} {n : Int} (hx : opd st x = .one (.gs i z lo hi)) (hT : sliceB P T zz = true) (hn : ((hi - lo : Nat) : Int) = n) :
    Acts P g ⟨dst, .call { callee := .builtin .len, args := #[x], argTypes := #[T] }, ty, pos, after, guard⟩ st (.one (int n)) [] [] := by
  subst hn
  refine acts_of fun a w S ρ F h => ?_
  obtain ⟨ad, len, cap, r1, h1, h2, hv⟩ := opd_one h hx
  refine ⟨.int .i64 (hi - lo : Nat), ?_, ⟨rfl, rfl⟩⟩
  unfold sliceB at hT
  split at hT
  · rename_i e hu
    simp [execOp, resolve, invoke, builtin, hv, Builtin.len_, goInt, run_underlying hu]
  · cases hT
end Go.Proofs.Ytncccjpbaeaafaa
