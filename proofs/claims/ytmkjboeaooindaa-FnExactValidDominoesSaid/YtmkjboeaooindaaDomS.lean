/- The helpers of the statements at lists of dominoes. -/
import Derived.Test.YtmkjboeaooindaaDom
namespace Go.Proofs.Ytmkjboeaooindaa
open Go.RowKit

def SmallDom (x : Domino) : Prop := x.top.length ≤ 1048576 ∧ x.bottom.length ≤ 1048576

theorem eqDominoS (a a' : Option Addr) (cap cap' : Nat) (xs ys : List Domino) (w : World) (hx : Rd RDomino w.heap.size w a xs) (hy : Rd RDomino w.heap.size w a' ys) (hm : xs.length ≤ 1048576) (hm' : ys.length ≤ 1048576)
    (sx : ∀ i (h : i < xs.length), SmallDom xs[i]) (sy : ∀ i (h : i < ys.length), SmallDom ys[i]) :
    Calls Try.prog 8 #[.slice a xs.length cap, .slice a' ys.length cap'] w fun e w' => e = .returned (.bool (decide (xs = ys))) ∧ Ext w w' := by
  by_cases hl : xs.length = ys.length
  · have hlb : ((xs.length : Int) != (ys.length : Int)) = false := by simp [hl]
    have HL := Lib.hid hl
    have hge : xs.length ≤ ys.length := by omega
    clear hl
    go_enter Try.func8, Try.ntmps8
    go_wp2_with fail
    go_loopw [5] (fun i wr => ∃ k : Nat, k ≤ xs.length ∧ i = .int .i64 k ∧ Ext w wr ∧ Hid (xs.take k = ys.take k)) (fun i _ => xs.length - (intOf i).toNat)
    case atStart => exact ⟨0, Nat.zero_le _, rfl, Below.refl _ _, rfl⟩
    case round =>
      obtain ⟨k, hk, rfl, hbw, hw⟩ := hrel
      by_cases hlt : k < xs.length
      · obtain ⟨b, off, a1, c1, a2, c2, rfl, hb, hc1, hc2, ⟨_, _, r1⟩, ⟨_, _, r2⟩⟩ := (hx.ext hbw).domino hlt
        obtain ⟨b', off', a1', c1', a2', c2', rfl, hb', hc1', hc2', ⟨_, _, r1'⟩, ⟨_, _, r2'⟩⟩ := (hy.ext hbw).domino (show k < ys.length by omega)
        have sk := sx k hlt
        have sk' := sy k (by omega)
        have hX := cell_extW wr
        by_cases he : xs[k] = ys[k]
        · have HE := Lib.hid he
          clear he
          go_wp2_with fail
          refine wp_region_ext (by kernel_rfl) (by kernel_rfl) ?_
          repeat (go_big_quiet_step ((go_at_call 17; exact call_ext (v := .bool true) (eqDomino _ _ _ _ _ _ _ _ _ _ _ (r1.inExt _) (r2.inExt _) (r1'.inExt _) (r2'.inExt _) sk.1 sk.2 sk'.1 sk'.2) (by simp [HE.out]))))
          refine wpQuiet_nil ?_
          rintro _ ⟨e, rfl⟩
          have hbe := ext_of wr e
          generalize extW wr e = w1 at *
          go_wp2_with fail
          go_roundw
          case rel => exact ⟨k + 1, by omega, by go_num, hbw.trans hbe, take_succ_eq hlt (by omega) HE.out hw.out⟩
          case measure => simp [intOf]; omega
        · have HE := Lib.hid he
          clear he
          go_wp2_with fail
          refine wp_region_ext (by kernel_rfl) (by kernel_rfl) ?_
          repeat (go_big_quiet_step ((go_at_call 17; exact call_ext (v := .bool false) (eqDomino _ _ _ _ _ _ _ _ _ _ _ (r1.inExt _) (r2.inExt _) (r1'.inExt _) (r2'.inExt _) sk.1 sk.2 sk'.1 sk'.2) (by simp [HE.out]))))
          refine wpQuiet_nil ?_
          rintro _ ⟨e, rfl⟩
          have hbe := ext_of wr e
          generalize extW wr e = w1 at *
          go_wp2_with fail
          go_ret
          have : xs ≠ ys := take_succ_ne hlt (by omega) HE.out
          exact ⟨ret_bool (by simp [this]), hbw.trans hbe⟩
      · go_wp2_with fail
        go_ret
        refine ⟨ret_bool ?_, hbw⟩
        have e1 := hw.out
        rw [List.take_of_length_le (by omega), List.take_of_length_le (by have := HL.out; omega)] at e1
        simp [e1]
  · have hlb : ((xs.length : Int) != (ys.length : Int)) = true := by simp; omega
    go_enter Try.func8, Try.ntmps8
    go_wp2_with fail
    go_ret
    have : xs ≠ ys := fun h => hl (by rw [h])
    exact ⟨ret_bool (by simp [this]), Below.refl _ _⟩

theorem szDom_le {x : Domino} {left : Int} (h : left ≤ 1048576) : szDom x left ≤ 1048576 := by
  unfold szDom
  split
  · omega
  · exact szI_le (szI_le h)
theorem szDomS_cons {x : Domino} {xs : List Domino} {left : Int} (h : ¬ szDom x left < 0) : szDomS (x :: xs) left = szDomS xs (szDom x left) := by rw [szDomS, if_neg h]
theorem szDomS_neg {x : Domino} {xs : List Domino} {left : Int} (h : szDom x left < 0) : szDomS (x :: xs) left = -1 := by rw [szDomS, if_pos h]
theorem drop_get {α : Type} {xs : List α} {k : Nat} (h : k < xs.length) : xs.drop k = xs[k] :: xs.drop (k + 1) := List.drop_eq_getElem_cons h

def szDL (xs : List Domino) (left : Int) : Int := if left - xs.length < 0 then -1 else szDomS xs (left - xs.length)


theorem szDominoS (a : Option Addr) (cap : Nat) (xs : List Domino) (left : Int) (w : World) (hx : Rd RDomino w.heap.size w a xs) (hn : xs.length ≤ maxLen) (h1 : left ≤ 1048576) (h0 : 0 ≤ left) :
    Calls Try.prog 4 #[.slice a xs.length cap, .int .i64 left] w fun e w' => e = .returned (.int .i64 (szDL xs left)) ∧ Ext w w' := by
  have hn := maxLen_le hn
  by_cases hneg : left - xs.length < 0
  · go_enter Try.func4, Try.ntmps4
    go_wp2_with fail
    go_ret
    exact ⟨ret_int (by rw [szDL, if_pos hneg]), Below.refl _ _⟩
  · have hpos : 0 ≤ left - xs.length := by omega
    clear hneg
    go_enter Try.func4, Try.ntmps4
    go_wp2_with fail
    go_loopw [1, 5] (fun l i wr => ∃ (k : Nat) (m : Int), k ≤ xs.length ∧ i = .int .i64 k ∧ l = .int .i64 m ∧ 0 ≤ m ∧ m ≤ 1048576 ∧ Ext w wr ∧ Hid (szDomS xs (left - xs.length) = szDomS (xs.drop k) m)) (fun _ i _ => xs.length - (intOf i).toNat)
    case atStart => exact ⟨0, _, Nat.zero_le _, rfl, rfl, by omega, by omega, Below.refl _ _, rfl⟩
    case round =>
      obtain ⟨k, m, hk, rfl, rfl, hm0, hm1, hbw, hw⟩ := hrel
      by_cases hlt : k < xs.length
      · obtain ⟨b, off, a1, c1, a2, c2, rfl, hb, hc1, hc2, ⟨l1, m1, r1⟩, ⟨l2, m2, r2⟩⟩ := (hx.ext hbw).domino hlt
        have q1 := maxLen_le (Nat.le_trans l1 m1)
        have q2 := maxLen_le (Nat.le_trans l2 m2)
        have hle := szDom_le (x := xs[k]) hm1
        have hd := Lib.hid (drop_get hlt)
        go_wp2_with fail
        refine (szDomino _ _ _ _ _ _ _ q1 q2 hm1 hm0).mono ?_
        rintro e w1 ⟨rfl, hb1⟩
        by_cases hneg : szDom xs[k] m < 0
        · go_wp2_with fail
          go_ret
          exact ⟨ret_int (by rw [szDL, if_neg (by omega), hw.out, hd.out, szDomS_neg hneg]), hbw.trans hb1⟩
        · have hge : 0 ≤ szDom xs[k] m := by omega
          go_wp2_with fail
          go_roundw
          case rel => exact ⟨k + 1, _, by omega, by go_num, rfl, hge, hle, hbw.trans hb1, by have := hw.out; rw [hd.out, szDomS_cons (by omega)] at this; exact this⟩
          case measure => simp [intOf]; omega
      · go_wp2_with fail
        go_ret
        exact ⟨ret_int (by rw [szDL, if_neg (by omega), hw.out, List.drop_of_length_le (by omega)]; rfl), hbw⟩

theorem info_domino : (Try.prog.info? 33).map (fun i => (i.zero, i.size, i.bytes)) = some (some (.agg #[.slice none 0 0, .slice none 0 0]), 2, 48) := by kernel_rfl

theorem toDominoS (a : Option Addr) (cap : Nat) (xs : List Domino) (w : World) (hx : Rd RDomino w.heap.size w a xs) (hm : xs.length ≤ 1048576) (sx : ∀ i (h : i < xs.length), SmallDom xs[i]) :
    Calls Try.prog 6 #[.slice a xs.length cap] w fun e w' => ∃ a', e = .returned (.slice a' xs.length xs.length) ∧ Own RDomino w.heap.size w'.heap.size w' a' xs ∧ Ext w w' := by
  obtain ⟨i0, hi, hz0, hz1, hz2⟩ := info_parts info_domino
  have hmk := fun W => run_make (P := Try.prog) W 25 33 i0 _ Try.underlying25 hi hz0 .i64 .i64 xs.length xs.length (by omega) (by omega) (by rw [hz2]; omega) (by omega)
  rw [hz1] at hmk
  simp only [Int.toNat_natCast] at hmk
  go_enter Try.func6, Try.ntmps6
  go_wp2_with fail
  clear hmk
  go_loopw [4] (fun i wr => ∃ k : Nat, k ≤ xs.length ∧ i = .int .i64 k ∧ Row RDomino (w.heap.size + 1) wr.heap.size wr w.heap.size 33 xs.length (xs.take k) ∧ Ext w wr ∧ w.heap.size < wr.heap.size) (fun i _ => xs.length - (intOf i).toNat)
  case atStart => exact ⟨0, Nat.zero_le _, rfl, Row.new (heap_alloc_new w _) (size_madeCells _ _) (.inl (by omega)), (Below.refl _ _).alloc (Nat.le_refl _) _, by simp⟩
  case round =>
    obtain ⟨k, hk, rfl, hrow, hbw, hsz⟩ := hrel
    by_cases hlt : k < xs.length
    · obtain ⟨b, off, a1, c1, a2, c2, rfl, hb, hc1, hc2, ⟨l1, m1, r1⟩, ⟨l2, m2, r2⟩⟩ := (hx.ext hbw).domino hlt
      have sk := sx k hlt
      go_wp2_with fail
      refine (toDomino _ _ _ _ _ _ r1 r2 sk.1 sk.2).mono ?_
      rintro e w1 ⟨a1', c1', a2', c2', rfl, hown, hb1⟩
      have hrow1 := hrow.keep hb1
      obtain ⟨v0, hv0⟩ := hrow1.cell (show k * 2 < xs.length * 2 by omega)
      obtain ⟨v1, hv1⟩ := hrow1.cell (show k * 2 + 1 < xs.length * 2 by omega)
      have hf0 := hrow1.frozen (k * 2)
      have hf1 := hrow1.frozen (k * 2 + 1)
      have hpush := hrow1.pushed hown hb1.size (by omega) (List.length_take_of_le hk) hlt (by omega)
      rw [← List.take_succ_eq_append_getElem hlt] at hpush
      have hext := ((hbw.trans hb1).setCell (p := ⟨w.heap.size, k * 2, none⟩) (Nat.le_refl _) (.slice a1' xs[k].top.length c1')).setCell (p := ⟨w.heap.size, k * 2 + 1, none⟩) (Nat.le_refl _) (.slice a2' xs[k].bottom.length c2')
      have hsz1 := hb1.size
      go_wp2_with fail
      go_roundw
      case rel => exact ⟨k + 1, by omega, by go_num, hpush.wide (by simp) (by omega), hext, by simp; omega⟩
      case measure => simp [intOf]; omega
    · go_wp2_with fail
      go_ret
      have : k = xs.length := by omega
      subst this
      rw [List.take_length] at hrow
      exact ⟨_, rfl, hrow.own (Nat.le_refl _) (by omega) (by omega), hbw⟩
end Go.Proofs.Ytmkjboeaooindaa
