/- The helpers of the statements at lists of int64: the size left, the copy, the comparison. -/
import Derived.Test.YtmkjboeaooindaaRows
import Derived.Test.YtmkjboeaooindaaBase
namespace Go.Proofs.Ytmkjboeaooindaa
open Go.RowKit

theorem maxLen_le {n : Nat} (h : n ≤ maxLen) : n ≤ 9223372036854775807 := by unfold maxLen at h; exact h

/-- What is left of a size. -/
def szI (n : Nat) (left : Int) : Int := if left - n < 0 then -1 else left - n

theorem info_int : (Try.prog.info? 2).map (fun i => (i.zero, i.size, i.bytes)) = some (some (.int .i64 0), 1, 8) := by kernel_rfl

theorem szInt64S (a : Option Addr) (n cap : Nat) (left : Int) (w : World) (hn : n ≤ 9223372036854775807) (h1 : left ≤ 1048576) (h0 : 0 ≤ left) :
    Calls Try.prog 18 #[.slice a n cap, .int .i64 left] w fun e w' => e = .returned (.int .i64 (szI n left)) ∧ w = w' := by
  by_cases h : left - n < 0
  all_goals
    go_enter Try.func18, Try.ntmps18
    go_wp2
    go_ret
    exact ⟨ret_int (by simp only [szI]; omega), rfl⟩

theorem take_succ_ne {α : Type} {xs ys : List α} {k : Nat} (h : k < xs.length) (h' : k < ys.length) (hne : xs[k] ≠ ys[k]) : xs ≠ ys := by
  rintro rfl
  exact hne rfl
theorem take_succ_eq {α : Type} {xs ys : List α} {k : Nat} (h : k < xs.length) (h' : k < ys.length) (he : xs[k] = ys[k]) (ht : xs.take k = ys.take k) : xs.take (k + 1) = ys.take (k + 1) := by
  rw [List.take_succ_eq_append_getElem h, List.take_succ_eq_append_getElem h', ht, he]
theorem eqInt64S (a a' : Option Addr) (cap cap' : Nat) (xs ys : List Int) (w : World) (hx : Rd RInt w.heap.size w a xs) (hy : Rd RInt w.heap.size w a' ys) (hm : xs.length ≤ 4294967296) (hm' : ys.length ≤ 4294967296) :
    Calls Try.prog 23 #[.slice a xs.length cap, .slice a' ys.length cap'] w fun e w' => e = .returned (.bool (decide (xs = ys))) ∧ ∃ n, w' = w.drewN n := by
  by_cases hl : xs.length = ys.length
  · have hlb : ((xs.length : Int) != (ys.length : Int)) = false := by simp [hl]
    have HL := Lib.hid hl
    have hge : xs.length ≤ ys.length := by omega
    clear hl
    go_enter Try.func23, Try.ntmps23
    go_wp2_with fail
    go_loopw [5] (fun i wr => ∃ (k n : Nat), k ≤ xs.length ∧ i = .int .i64 k ∧ wr = w.drewN n ∧ Hid (xs.take k = ys.take k)) (fun i _ => xs.length - (intOf i).toNat)
    case atStart => exact ⟨0, 0, Nat.zero_le _, rfl, rfl, rfl⟩
    case round =>
      obtain ⟨k, n, hk, rfl, rfl, hw⟩ := hrel
      by_cases hlt : k < xs.length
      · obtain ⟨b, off, rfl, _, hcell, _⟩ := hx.int hlt
        obtain ⟨b', off', rfl, _, hcell', _⟩ := hy.int (show k < ys.length by omega)
        by_cases he : xs[k] = ys[k]
        · have he' : (xs[k] != ys[k]) = false := by simp [he]
          have HE := Lib.hid he
          clear he
          go_wp2_with fail
          go_quiet (fail)
          go_wp2_with fail
          go_roundw
          case rel => exact ⟨k + 1, _, by omega, by go_num, rfl, take_succ_eq hlt (by omega) HE.out hw.out⟩
          case measure => simp [intOf]; omega
        · have he' : (xs[k] != ys[k]) = true := by simp [he]
          have HE := Lib.hid he
          clear he
          go_wp2_with fail
          go_quiet (fail)
          go_wp2_with fail
          go_ret
          have : xs ≠ ys := take_succ_ne hlt (by omega) HE.out
          exact ⟨ret_bool (by simp [this]), dr2 _ _ _⟩
      · go_wp2_with fail
        go_ret
        refine ⟨ret_bool ?_, _, rfl⟩
        have e1 := hw.out
        rw [List.take_of_length_le (by omega), List.take_of_length_le (by have := HL.out; omega)] at e1
        simp [e1]
  · have hlb : ((xs.length : Int) != (ys.length : Int)) = true := by simp; omega
    go_enter Try.func23, Try.ntmps23
    go_wp2_with fail
    go_ret
    have : xs ≠ ys := fun h => hl (by rw [h])
    exact ⟨ret_bool (by simp [this]), 0, rfl⟩

/-- A row of which the first cells have been copied. -/
def CopyI (w : World) (g n k : Nat) (xs : List Int) : Prop := ∃ cur : Array Value, w.heap[g]? = some (.cells cur 2 (0, 0)) ∧ cur.size = n ∧ ∀ i (h : i < k) (h' : i < xs.length), cur[i]? = some (.int .i64 xs[i])
theorem CopyI.cell {w : World} {g n k : Nat} {xs : List Int} (h : CopyI w g n k xs) {j : Nat} (hj : j < n) : ∃ v, w.cell? ⟨g, j, none⟩ = some v := by
  obtain ⟨cur, hh, hs, _⟩ := h
  exact ⟨cur[j], by simp [World.cell?, hh, hs, hj]⟩
theorem CopyI.frozen {w : World} {g n k : Nat} {xs : List Int} (h : CopyI w g n k xs) (j : Nat) : w.frozen? ⟨g, j, none⟩ = false := by
  obtain ⟨cur, hh, hs, _⟩ := h
  simp [World.frozen?, hh]
theorem CopyI.lt {w : World} {g n k : Nat} {xs : List Int} (h : CopyI w g n k xs) : g < w.heap.size := by
  obtain ⟨cur, hh, hs, _⟩ := h
  exact (Array.getElem?_eq_some_iff.1 hh).1
theorem CopyI.step {w : World} {g n k : Nat} {xs : List Int} (h : CopyI w g n k xs) (hk : k < xs.length) (hn : k < n) : CopyI (w.setCell ⟨g, k, none⟩ (.int .i64 xs[k])) g n (k + 1) xs := by
  obtain ⟨cur, hh, hs, hc⟩ := h
  refine ⟨cur.setIfInBounds k (.int .i64 xs[k]), by simp [World.setCell, Array.getElem?_modify, hh], by simp [hs], fun i h h' => ?_⟩
  rw [Array.getElem?_setIfInBounds]
  split
  · rename_i e; subst e; simp [hs, hn]
  · exact hc i (by omega) h'

theorem CopyI.own {w : World} {g n : Nat} {xs : List Int} (h : CopyI w g n xs.length xs) (hx : ∀ i (h : i < xs.length), Ok64 xs[i]) : Own RInt g (g + 1) w (some ⟨g, 0, none⟩) xs := by
  obtain ⟨cur, hh, hs, hc⟩ := h
  have hlt : g < w.heap.size := (Array.getElem?_eq_some_iff.1 hh).1
  by_cases hne : xs = []
  · subst hne; exact Own.nil
  · refine ⟨[g], .inr ⟨g, 0, fun _ => [], rfl, hlt, by simp, fun i hi => ⟨[.int .i64 xs[i]], ⟨rfl, rfl, hx i hi⟩, fun j v hv => ?_⟩⟩, by simp, ?_⟩
    · match j, hv with
      | 0, hv =>
        simp at hv
        subst hv
        simp [World.cell?, hh, RInt, hc i hi hi]
    · intro b hb
      simp at hb
      subst hb
      exact ⟨Nat.le_refl _, Nat.lt_succ_self _, cur, _, hh⟩
theorem Rd.ok {B : Nat} {w : World} {a : Option Addr} {xs : List Int} (h : Rd RInt B w a xs) : ∀ i (h : i < xs.length), Ok64 xs[i] := fun i hi => by
  obtain ⟨_, _, _, _, _, h⟩ := h.int hi
  exact h
theorem toInt64S (a : Option Addr) (cap : Nat) (xs : List Int) (w : World) (hx : Rd RInt w.heap.size w a xs) (hm : xs.length ≤ 1048576) :
    Calls Try.prog 20 #[.slice a xs.length cap] w fun e w' => ∃ a', e = .returned (.slice a' xs.length xs.length) ∧ Own RInt w.heap.size w'.heap.size w' a' xs ∧ Ext w w' := by
  obtain ⟨i0, hi, hz0, hz1, hz2⟩ := info_parts info_int
  have hmk := fun W => run_make (P := Try.prog) W 30 2 i0 _ Try.underlying30 hi hz0 .i64 .i64 xs.length xs.length (by omega) (by omega) (by rw [hz2]; omega) (by omega)
  rw [hz1] at hmk
  simp only [Int.toNat_natCast, Nat.mul_one] at hmk
  go_enter Try.func20, Try.ntmps20
  go_wp2_with fail
  clear hmk
  go_loopw [4] (fun i wr => ∃ k : Nat, k ≤ xs.length ∧ i = .int .i64 k ∧ CopyI wr w.heap.size xs.length k xs ∧ Below w.heap.size w wr) (fun i _ => xs.length - (intOf i).toNat)
  case atStart => exact ⟨0, Nat.zero_le _, rfl, ⟨_, heap_alloc_new w _, size_madeCells _ _, fun i h => by omega⟩, (Below.refl _ _).alloc (Nat.le_refl _) _⟩
  case round =>
    obtain ⟨k, hk, rfl, hcp, hbl⟩ := hrel
    by_cases hlt : k < xs.length
    · obtain ⟨b, off, rfl, _, hcell, _⟩ := (hx.keep hbl).int hlt
      obtain ⟨v0, hc0⟩ := hcp.cell hlt
      have hf0 := hcp.frozen k
      have hst := hcp.step hlt hlt
      go_wp2_with fail
      go_roundw
      case rel => exact ⟨k + 1, by omega, by go_num, hst, hbl.setCell (Nat.le_refl _) _⟩
      case measure => simp [intOf]; omega
    · go_wp2_with fail
      go_ret
      have : k = xs.length := by omega
      subst this
      exact ⟨_, rfl, (hcp.own hx.ok).wide (Nat.le_refl _) hcp.lt, hbl⟩

end Go.Proofs.Ytmkjboeaooindaa
