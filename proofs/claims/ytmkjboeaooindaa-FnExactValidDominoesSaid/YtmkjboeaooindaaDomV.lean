/- Valid dominoes: the program's and the reference's. -/
import Derived.Test.YtmkjboeaooindaaDomS
import Derived.Test.YtmkjboeaooindaaWords
namespace Go.Proofs.Ytmkjboeaooindaa
open Go.RowKit

def okDom (x : Domino) : Bool := isWord x.top && isWord x.bottom && decide (0 < x.top.length + x.bottom.length)
def okDoms (xs : List Domino) : Bool := decide (1 ≤ xs.length) && decide (xs.length ≤ 80) && xs.all okDom

theorem validDomino (x : Domino) (a1 a2 : Option Addr) (c1 c2 : Nat) (w : World) (e1 : Rd RInt w.heap.size w a1 x.top) (e2 : Rd RInt w.heap.size w a2 x.bottom) (hm1 : x.top.length ≤ c1) (hm2 : x.bottom.length ≤ c2) (hn1 : c1 ≤ maxLen) (hn2 : c2 ≤ maxLen)
    (hs1 : x.top.length ≤ 1048576) (hs2 : x.bottom.length ≤ 1048576) :
    Calls Try.prog 16 #[.agg #[.slice a1 x.top.length c1, .slice a2 x.bottom.length c2]] w fun e w' => e = .returned (.bool (okDom x)) ∧ Ext w w' := by
  go_enter Try.func16, Try.ntmps16
  go_wp2_with fail
  have hb1 : Ext w _ := (((Below.refl _ _).alloc (Nat.le_refl _) (.cells #[.slice a1 x.top.length c1, .slice a2 x.bottom.length c2] 33)).alloc (by simp <;> omega) (.cells #[.slice a1 x.top.length c1, .slice a2 x.bottom.length c2] 30))
  refine (areWords_any _ _ [x.top, x.bottom] _ (Rd.lists_mk (by simp) (by simp) fun i hi => ?_) (by simp)).mono ?_
  · match i, hi with
    | 0, _ => exact ⟨a1, c1, by simp, hm1, hn1, e1.ext hb1⟩
    | 1, _ => exact ⟨a2, c2, by simp, hm2, hn2, e2.ext hb1⟩
  · rintro e w1 ⟨rfl, hb2⟩
    obtain ⟨hc, hf⟩ := ext_cells hb2
    have hz := hb2.size
    simp at hz
    have z0 : w.heap.size < w1.heap.size := by omega
    cases hv : [x.top, x.bottom].all isWord
    · have HV := Lib.hid hv
      clear hv
      go_wp2_with fail
      go_ret
      refine ⟨ret_bool ?_, hb1.trans hb2⟩
      have := HV.out
      simp only [List.all_cons, List.all_nil, Bool.and_true] at this
      rw [okDom, this, Bool.false_and]
    · have HV := Lib.hid hv
      clear hv
      go_wp2_with fail
      go_ret
      refine ⟨ret_bool ?_, hb1.trans hb2⟩
      have := HV.out
      simp only [List.all_cons, List.all_nil, Bool.and_true] at this
      rw [okDom, this, Bool.true_and]
      exact decide_eq_decide.2 (by omega)

theorem ValidDominoes_1 (x : Domino) (a1 a2 : Option Addr) (c1 c2 : Nat) (w : World) (e1 : Rd RInt w.heap.size w a1 x.top) (e2 : Rd RInt w.heap.size w a2 x.bottom) (hm1 : x.top.length ≤ c1) (hm2 : x.bottom.length ≤ c2) (hn1 : c1 ≤ maxLen) (hn2 : c2 ≤ maxLen)
    (hs1 : x.top.length ≤ 1048576) (hs2 : x.bottom.length ≤ 1048576) :
    Calls Try.prog 15 #[.agg #[.slice a1 x.top.length c1, .slice a2 x.bottom.length c2]] w fun e w' => e = .returned (.bool (!okDom x)) ∧ Ext w w' := by
  go_enter Try.func15, Try.ntmps15
  go_wp2_with fail
  have hb1 : Ext w _ := ((Below.refl _ _).alloc (Nat.le_refl _) (.cells #[.slice a1 x.top.length c1, .slice a2 x.bottom.length c2] 33))
  refine (validDomino _ _ _ _ _ _ (e1.ext hb1) (e2.ext hb1) hm1 hm2 hn1 hn2 hs1 hs2).mono ?_
  rintro e w1 ⟨rfl, hb2⟩
  go_wp2_with fail
  go_ret
  exact ⟨rfl, hb1.trans hb2⟩

theorem IndexFunc_doms (c : Nat) (hen : Enters Try.prog c) (p : Domino → Bool) (a : Option Addr) (cap : Nat) (xs : List Domino) (w : World) (hx : Rd RDomino w.heap.size w a xs) (hm : xs.length ≤ 9223372036854775807)
    (hp : ∀ (i : Nat) (h : i < xs.length) (a1 a2 : Option Addr) (c1 c2 : Nat) (W : World), Rd RInt W.heap.size W a1 xs[i].top → Rd RInt W.heap.size W a2 xs[i].bottom → xs[i].top.length ≤ c1 → xs[i].bottom.length ≤ c2 → c1 ≤ maxLen → c2 ≤ maxLen →
      Calls Try.prog c #[.agg #[.slice a1 xs[i].top.length c1, .slice a2 xs[i].bottom.length c2]] W fun e w' => e = .returned (.bool (p xs[i])) ∧ Ext W w') :
    Calls Try.prog 21 #[.slice a xs.length cap, .func (.func c) #[] #[]] w fun e w' => e = .returned (.int .i64 (indexOf p xs)) ∧ Ext w w' := by
  have HP := Lib.hid hp
  clear hp
  unfold Enters at hen
  go_enter Try.func21, Try.ntmps21
  go_wp2_with fail
  go_loopw [8] (fun i wr => ∃ k : Nat, k ≤ xs.length ∧ i = .int .i64 k ∧ Ext w wr ∧ Hid ((xs.take k).any p = false)) (fun i _ => xs.length - (intOf i).toNat)
  case atStart => exact ⟨0, Nat.zero_le _, rfl, Below.refl _ _, rfl⟩
  case round =>
    obtain ⟨k, hk, rfl, hbw, hw⟩ := hrel
    by_cases hlt : k < xs.length
    · obtain ⟨b, off, a1, c1, a2, c2, rfl, hb, hc1, hc2, ⟨l1, m1, r1⟩, ⟨l2, m2, r2⟩⟩ := (hx.ext hbw).domino hlt
      go_wp2_with fail
      refine (HP.out k hlt _ _ _ _ _ r1 r2 l1 l2 m1 m2).mono ?_
      rintro e w1 ⟨rfl, hb1⟩
      cases hin : p xs[k]
      · have HI := Lib.hid hin
        clear hin
        go_wp2_with fail
        go_roundw
        case rel => exact ⟨k + 1, by omega, by go_num, hbw.trans hb1, by show _ = _; rw [any_take_succ hlt, HI.out, hw.out]; rfl⟩
        case measure => simp [intOf]; omega
      · have HI := Lib.hid hin
        clear hin
        go_wp2_with fail
        go_ret
        exact ⟨ret_int (by rw [indexOf_some hlt HI.out hw.out]), hbw.trans hb1⟩
    · go_wp2_with fail
      go_ret
      have h := hw.out
      rw [List.take_of_length_le (by omega)] at h
      exact ⟨ret_int (indexOf_none h).symm, hbw⟩
theorem ContainsFunc_doms (c : Nat) (hen : Enters Try.prog c) (p : Domino → Bool) (a : Option Addr) (cap : Nat) (xs : List Domino) (w : World) (hx : Rd RDomino w.heap.size w a xs) (hm : xs.length ≤ 9223372036854775807)
    (hp : ∀ (i : Nat) (h : i < xs.length) (a1 a2 : Option Addr) (c1 c2 : Nat) (W : World), Rd RInt W.heap.size W a1 xs[i].top → Rd RInt W.heap.size W a2 xs[i].bottom → xs[i].top.length ≤ c1 → xs[i].bottom.length ≤ c2 → c1 ≤ maxLen → c2 ≤ maxLen →
      Calls Try.prog c #[.agg #[.slice a1 xs[i].top.length c1, .slice a2 xs[i].bottom.length c2]] W fun e w' => e = .returned (.bool (p xs[i])) ∧ Ext W w') :
    Calls Try.prog 14 #[.slice a xs.length cap, .func (.func c) #[] #[]] w fun e w' => e = .returned (.bool (xs.any p)) ∧ Ext w w' := by
  have HP := Lib.hid hp
  clear hp
  go_enter Try.func14, Try.ntmps14
  go_wp2_with fail
  refine (IndexFunc_doms c hen p _ _ _ _ hx hm HP.out).mono ?_
  rintro e w1 ⟨rfl, hb1⟩
  go_wp2_with fail
  go_ret
  exact ⟨ret_bool (indexOf_ge p xs), hb1⟩
theorem size_doms (a : Option Addr) (n cap : Nat) (w : World) (hm : n ≤ 9223372036854775807) : Calls Try.prog 13 #[.slice a n cap] w fun e w' => e = .returned (.int .i64 n) ∧ w = w' := by
  go_enter Try.func13, Try.ntmps13
  go_wp2_with fail
  go_ret
  exact ⟨rfl, rfl⟩
theorem okDoms_eq (xs : List Domino) : okDoms xs = (inB xs.length 1 80 && !(xs.any fun x => !okDom x)) := by
  rw [okDoms, inB, List.all_eq_not_any_not]
  congr 1
  rw [Bool.eq_iff_iff]
  simp
  omega
theorem ValidDominoes_impl (a : Option Addr) (cap : Nat) (xs : List Domino) (w : World) (hx : Rd RDomino w.heap.size w a xs) (hm : xs.length ≤ 1048576) (sx : ∀ i (h : i < xs.length), SmallDom xs[i]) :
    Calls Try.prog 7 #[.slice a xs.length cap] w fun e w' => e = .returned (.bool (okDoms xs)) ∧ Ext w w' := by
  have hen := Lib.hid (enters_of Try.func15 (by kernel_rfl) (by kernel_rfl))
  go_enter Try.func7, Try.ntmps7
  go_wp2_with fail
  refine (size_doms _ _ _ _ (by omega)).mono ?_
  rintro e w1 ⟨rfl, rfl⟩
  go_wp2_with fail
  refine (within_any _ _ _ _).mono ?_
  rintro e w1 ⟨rfl, rfl⟩
  cases hin : inB xs.length 1 80
  · have HI := Lib.hid hin
    clear hin
    go_wp2_with fail
    go_ret
    exact ⟨ret_bool (by rw [okDoms_eq, HI.out]; rfl), Below.refl _ _⟩
  · have HI := Lib.hid hin
    clear hin
    go_wp2_with fail
    refine (ContainsFunc_doms _ hen.out (fun x => !okDom x) _ _ _ _ hx (by omega) (fun i hi a1 a2 c1 c2 W r1 r2 l1 l2 m1 m2 => ValidDominoes_1 _ _ _ _ _ _ r1 r2 l1 l2 m1 m2 (sx i hi).1 (sx i hi).2)).mono ?_
    rintro e w1 ⟨rfl, hb1⟩
    go_wp2_with fail
    go_ret
    exact ⟨ret_bool (by rw [okDoms_eq, HI.out, Bool.true_and]), hb1⟩

theorem okDom_false {x : Domino} (h : isWord x.top = false ∨ isWord x.bottom = false ∨ x.top.length + x.bottom.length = 0) : okDom x = false := by
  rcases h with h | h | h <;> simp [okDom, h]
theorem bool_eq {a b : Bool} (h : a = b) : Value.bool a = .bool b := by rw [h]

theorem l32Is_any (a : Option Addr) (cap : Nat) (xs : List Domino) (w : World) (hx : Rd RDomino w.heap.size w a xs) (hm : xs.length ≤ 1048576) (sx : ∀ i (h : i < xs.length), SmallDom xs[i]) :
    Calls Try.prog 10 #[.slice a xs.length cap] w fun e w' => e = .returned (.bool (okDoms xs)) ∧ Ext w w' := by
  by_cases h1 : xs.length < 1
  · have h1' : decide ((xs.length : Int) < 1) = true := by simp; omega
    go_enter Try.func10, Try.ntmps10
    go_wp2_with fail
    go_ret
    exact ⟨ret_bool (by simp [okDoms]; omega), Below.refl _ _⟩
  have h1' : decide ((xs.length : Int) < 1) = false := by simp; omega
  by_cases h2 : 80 < xs.length
  · have h2' : decide ((80 : Int) < xs.length) = true := by simp; omega
    go_enter Try.func10, Try.ntmps10
    go_wp2_with fail
    go_ret
    exact ⟨ret_bool (by simp [okDoms]; omega), Below.refl _ _⟩
  have h2' : decide ((80 : Int) < xs.length) = false := by simp; omega
  go_enter Try.func10, Try.ntmps10
  go_wp2_with fail
  go_loopw [3] (fun i wr => ∃ k : Nat, k ≤ xs.length ∧ i = .int .i64 k ∧ Ext w wr ∧ Hid ((xs.take k).all okDom = true)) (fun i _ => xs.length - (intOf i).toNat)
  case atStart => exact ⟨0, Nat.zero_le _, rfl, Below.refl _ _, rfl⟩
  case round =>
    obtain ⟨k, hk, rfl, hbw, hw⟩ := hrel
    by_cases hlt : k < xs.length
    · obtain ⟨b, off, a1, c1, a2, c2, rfl, hb, hc1, hc2, ⟨l1, m1, r1⟩, ⟨l2, m2, r2⟩⟩ := (hx.ext hbw).domino hlt
      obtain ⟨s1, s2⟩ := sx k hlt
      have hX := cell_extW wr
      cases ht : isWord xs[k].top
      · have HT := Lib.hid (bool_eq ht)
        have HT' := Lib.hid ht
        clear ht
        · go_wp2_with fail
          refine wp_region_ext (by kernel_rfl) (by kernel_rfl) ?_
          repeat (go_big_quiet_step ((first
            | (go_at_call_of 19 a1; exact call_same (v := .bool false) (l03Is_any _ _ _ _ (r1.inExt _) (by omega)) HT.out)
            | (go_at_call_of 19 a2; exact call_same (v := .bool false) (l03Is_any _ _ _ _ (r2.inExt _) (by omega)) HT.out))))
          refine wpQuiet_nil ?_
          rintro _ ⟨e, rfl⟩
          have hbe := ext_of wr e
          generalize extW wr e = w1 at *
          go_wp2_with fail
          go_ret
          exact ⟨ret_bool (by rw [okDoms, all_false_of hlt (okDom_false (Or.inl HT'.out))]; simp), hbw.trans hbe⟩
      · have HT := Lib.hid (bool_eq ht)
        have HT' := Lib.hid ht
        clear ht
        cases hbt : isWord xs[k].bottom
        · have HB := Lib.hid (bool_eq hbt)
          have HB' := Lib.hid hbt
          clear hbt
          go_wp2_with fail
          refine wp_region_ext (by kernel_rfl) (by kernel_rfl) ?_
          repeat (go_big_quiet_step ((first
            | (go_at_call_of 19 a1; exact call_same (v := .bool true) (l03Is_any _ _ _ _ (r1.inExt _) (by omega)) HT.out)
            | (go_at_call_of 19 a2; exact call_same (v := .bool false) (l03Is_any _ _ _ _ (r2.inExt _) (by omega)) HB.out))))
          refine wpQuiet_nil ?_
          rintro _ ⟨e, rfl⟩
          have hbe := ext_of wr e
          generalize extW wr e = w1 at *
          go_wp2_with fail
          go_ret
          exact ⟨ret_bool (by rw [okDoms, all_false_of hlt (okDom_false (Or.inr (Or.inl HB'.out)))]; simp), hbw.trans hbe⟩
        · have HB := Lib.hid (bool_eq hbt)
          have HB' := Lib.hid hbt
          clear hbt
          by_cases hz : xs[k].top.length + xs[k].bottom.length = 0
          · have hz' : ((xs[k].top.length : Int) + xs[k].bottom.length == 0) = true := by simp; omega
            have HZ := Lib.hid hz
            clear hz
            go_wp2_with fail
            refine wp_region_ext (by kernel_rfl) (by kernel_rfl) ?_
            repeat (go_big_quiet_step ((first
              | (go_at_call_of 19 a1; exact call_same (v := .bool true) (l03Is_any _ _ _ _ (r1.inExt _) (by omega)) HT.out)
              | (go_at_call_of 19 a2; exact call_same (v := .bool true) (l03Is_any _ _ _ _ (r2.inExt _) (by omega)) HB.out))))
            refine wpQuiet_nil ?_
            rintro _ ⟨e, rfl⟩
            have hbe := ext_of wr e
            generalize extW wr e = w1 at *
            go_wp2_with fail
            go_ret
            exact ⟨ret_bool (by rw [okDoms, all_false_of hlt (okDom_false (Or.inr (Or.inr HZ.out)))]; simp), hbw.trans hbe⟩
          · have hz' : ((xs[k].top.length : Int) + xs[k].bottom.length == 0) = false := by simp; omega
            have HZ := Lib.hid hz
            clear hz
            go_wp2_with fail
            refine wp_region_ext (by kernel_rfl) (by kernel_rfl) ?_
            repeat (go_big_quiet_step ((first
              | (go_at_call_of 19 a1; exact call_same (v := .bool true) (l03Is_any _ _ _ _ (r1.inExt _) (by omega)) HT.out)
              | (go_at_call_of 19 a2; exact call_same (v := .bool true) (l03Is_any _ _ _ _ (r2.inExt _) (by omega)) HB.out))))
            refine wpQuiet_nil ?_
            rintro _ ⟨e, rfl⟩
            have hbe := ext_of wr e
            generalize extW wr e = w1 at *
            go_wp2_with fail
            go_roundw
            case rel => exact ⟨k + 1, by omega, by go_num, hbw.trans hbe, by show _ = _; rw [all_take_succ hlt, hw.out, okDom, HT'.out, HB'.out]; have := HZ.out; simp; omega⟩
            case measure => simp [intOf]; omega
    · go_wp2_with fail
      go_ret
      have h := hw.out
      rw [List.take_of_length_le (by omega)] at h
      exact ⟨ret_bool (by rw [okDoms, h]; simp; omega), hbw⟩
theorem ValidDominoes_spec (a : Option Addr) (cap : Nat) (xs : List Domino) (w : World) (hx : Rd RDomino w.heap.size w a xs) (hm : xs.length ≤ 1048576) (sx : ∀ i (h : i < xs.length), SmallDom xs[i]) :
    Calls Try.prog 5 #[.slice a xs.length cap] w fun e w' => e = .returned (.bool (okDoms xs)) ∧ Ext w w' := by
  go_enter Try.func5, Try.ntmps5
  go_wp2_with fail
  refine (l32Is_any _ _ _ _ hx hm sx).mono ?_
  rintro e w1 ⟨rfl, hb1⟩
  go_wp2_with fail
  go_ret
  exact ⟨rfl, hb1⟩
end Go.Proofs.Ytmkjboeaooindaa
