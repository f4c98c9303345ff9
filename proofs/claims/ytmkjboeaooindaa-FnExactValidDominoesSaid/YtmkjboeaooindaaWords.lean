/- Ranges and words: what the program and the reference say of them. -/
import Derived.Test.YtmkjboeaooindaaInts
namespace Go.Proofs.Ytmkjboeaooindaa
open Go.RowKit

def inB (n lo hi : Int) : Bool := decide (lo ≤ n) && decide (n ≤ hi)
theorem inB_true {n lo hi : Int} : inB n lo hi = true ↔ lo ≤ n ∧ n ≤ hi := by simp [inB]
theorem inB_false {n lo hi : Int} : inB n lo hi = false ↔ n < lo ∨ hi < n := by
  rw [← Bool.not_eq_true, inB_true]; omega

theorem within_any (n lo hi : Int) (w : World) :
    Calls Try.prog 12 #[.int .i64 n, .int .i64 lo, .int .i64 hi] w fun e w' => e = .returned (.bool (inB n lo hi)) ∧ w = w' := by
  go_enter Try.func12, Try.ntmps12
  go_wp2
  all_goals (go_ret; exact ⟨ret_bool (by simp [inB]; omega), rfl⟩)
theorem l00In_any (n lo hi : Int) (w : World) :
    Calls Try.prog 24 #[.int .i64 n, .int .i64 lo, .int .i64 hi] w fun e w' => e = .returned (.bool (inB n lo hi)) ∧ w = w' := by
  go_enter Try.func24, Try.ntmps24
  go_wp2
  all_goals (go_ret; exact ⟨ret_bool (by simp [inB]; omega), rfl⟩)

def allIn (xs : List Int) (lo hi : Int) : Bool := xs.all fun n => inB n lo hi
def isWord (xs : List Int) : Bool := allIn xs 0 9 && decide (xs.length ≤ 400)

theorem all_take_succ {α : Type} {p : α → Bool} {xs : List α} {k : Nat} (h : k < xs.length) : (xs.take (k + 1)).all p = ((xs.take k).all p && p xs[k]) := by
  rw [List.take_succ_eq_append_getElem h, List.all_append]
  simp
theorem all_false_of {α : Type} {p : α → Bool} {xs : List α} {k : Nat} (h : k < xs.length) (hp : p xs[k] = false) : xs.all p = false := by
  rw [List.all_eq_false]
  exact ⟨xs[k], List.getElem_mem h, by simp [hp]⟩

theorem allWithin_any (a : Option Addr) (cap : Nat) (xs : List Int) (lo hi : Int) (w : World) (hx : Rd RInt w.heap.size w a xs) (hm : xs.length ≤ 9223372036854775807) :
    Calls Try.prog 30 #[.slice a xs.length cap, .int .i64 lo, .int .i64 hi] w fun e w' => e = .returned (.bool (allIn xs lo hi)) ∧ w = w' := by
  go_enter Try.func30, Try.ntmps30
  go_wp2_with fail
  go_loop [11] (fun i => ∃ k : Nat, k ≤ xs.length ∧ i = .int .i64 k ∧ Hid (allIn (xs.take k) lo hi = true)) (fun i => xs.length - (intOf i).toNat)
  case atStart => exact ⟨0, Nat.zero_le _, rfl, rfl⟩
  case round =>
    obtain ⟨k, hk, rfl, hw⟩ := hrel
    by_cases hlt : k < xs.length
    · obtain ⟨b, off, rfl, _, hcell, _⟩ := hx.int hlt
      go_wp2_with fail
      refine (within_any _ _ _ _).mono ?_
      rintro e w' ⟨rfl, rfl⟩
      cases hin : inB xs[k] lo hi
      · have HI := Lib.hid hin
        clear hin
        go_wp2_with fail
        go_ret
        exact ⟨ret_bool (by rw [allIn, all_false_of hlt HI.out]), rfl⟩
      · have HI := Lib.hid hin
        clear hin
        go_wp2_with fail
        go_round
        case rel => exact ⟨k + 1, by omega, by go_num, by show _ = _; rw [allIn, all_take_succ hlt, HI.out]; have := hw.out; rw [allIn] at this; rw [this]; rfl⟩
        case measure => simp [intOf]; omega
    · go_wp2_with fail
      go_ret
      have h := hw.out
      rw [List.take_of_length_le (by omega)] at h
      exact ⟨ret_bool h.symm, rfl⟩
theorem isLetters_any (a : Option Addr) (cap : Nat) (xs : List Int) (w : World) (hx : Rd RInt w.heap.size w a xs) (hm : xs.length ≤ 9223372036854775807) :
    Calls Try.prog 29 #[.slice a xs.length cap] w fun e w' => e = .returned (.bool (allIn xs 0 9)) ∧ w = w' := by
  go_enter Try.func29, Try.ntmps29
  go_wp2_with fail
  refine (allWithin_any _ _ _ _ _ _ hx hm).mono ?_
  rintro e w' ⟨rfl, rfl⟩
  go_wp2_with fail
  go_ret
  exact ⟨rfl, rfl⟩
theorem IsWord_any (a : Option Addr) (cap : Nat) (xs : List Int) (w : World) (hx : Rd RInt w.heap.size w a xs) (hm : xs.length ≤ 9223372036854775807) :
    Calls Try.prog 27 #[.slice a xs.length cap] w fun e w' => e = .returned (.bool (isWord xs)) ∧ w = w' := by
  by_cases hl : xs.length ≤ 400
  · go_enter Try.func27, Try.ntmps27
    go_wp2_with fail
    refine (isLetters_any _ _ _ _ hx hm).mono ?_
    rintro e w' ⟨rfl, rfl⟩
    go_wp2_with fail
    go_ret
    exact ⟨ret_bool (by simp [isWord, hl]), rfl⟩
  · have hl' : decide ((xs.length : Int) ≤ 400) = false := by simp; omega
    go_enter Try.func27, Try.ntmps27
    go_wp2_with fail
    go_ret
    exact ⟨ret_bool (by simp [isWord]; omega), rfl⟩
theorem l03Is_any (a : Option Addr) (cap : Nat) (xs : List Int) (w : World) (hx : Rd RInt w.heap.size w a xs) (hm : xs.length ≤ 9223372036854775807) :
    Calls Try.prog 19 #[.slice a xs.length cap] w fun e w' => e = .returned (.bool (isWord xs)) ∧ w = w' := by
  go_enter Try.func19, Try.ntmps19
  go_wp2_with fail
  go_loop [3] (fun i => ∃ k : Nat, k ≤ xs.length ∧ i = .int .i64 k ∧ Hid (allIn (xs.take k) 0 9 = true)) (fun i => xs.length - (intOf i).toNat)
  case atStart => exact ⟨0, Nat.zero_le _, rfl, rfl⟩
  case round =>
    obtain ⟨k, hk, rfl, hw⟩ := hrel
    by_cases hlt : k < xs.length
    · obtain ⟨b, off, rfl, _, hcell, _⟩ := hx.int hlt
      go_wp2_with fail
      refine (l00In_any _ _ _ _).mono ?_
      rintro e w' ⟨rfl, rfl⟩
      cases hin : inB xs[k] 0 9
      · have HI := Lib.hid hin
        clear hin
        go_wp2_with fail
        go_ret
        exact ⟨ret_bool (by rw [isWord, allIn, all_false_of hlt HI.out]; rfl), rfl⟩
      · have HI := Lib.hid hin
        clear hin
        go_wp2_with fail
        go_round
        case rel => exact ⟨k + 1, by omega, by go_num, by show _ = _; rw [allIn, all_take_succ hlt, HI.out]; have := hw.out; rw [allIn] at this; rw [this]; rfl⟩
        case measure => simp [intOf]; omega
    · go_wp2_with fail
      go_ret
      have h := hw.out
      rw [List.take_of_length_le (by omega)] at h
      exact ⟨ret_bool (by rw [isWord, h, Bool.true_and]; exact decide_eq_decide.2 (by omega)), rfl⟩

theorem Rd.list {α : Type} {R : Rep α} {B : Nat} {w : World} {a : Option Addr} {xs : List (List α)} (h : Rd (RSl R) B w a xs) {k : Nat} (hk : k < xs.length) :
    ∃ b off a1 c1, a = some ⟨b, off, none⟩ ∧ b < B ∧ w.cell? ⟨b, off + k, none⟩ = some (.slice a1 xs[k].length c1) ∧ xs[k].length ≤ c1 ∧ c1 ≤ maxLen ∧ Rd R B w a1 xs[k] := by
  obtain ⟨b, off, cs, ha, hb, hat, fp, ⟨a1, c1, rfl, l1, m1, he⟩, hl⟩ := h.elem hk
  have := hat 0 _ rfl
  exact ⟨b, off, a1, c1, ha, hb, by simpa [RSl] using this, l1, m1, fp, he, hl⟩

/-- Lists whose slices lie side by side in a block. -/
theorem Rd.lists_mk {α : Type} {R : Rep α} {B g off : Nat} {w : World} {xs : List (List α)} (hg : g < w.heap.size) (hB : g < B)
    (h : ∀ i (h : i < xs.length), ∃ a c, w.cell? ⟨g, off + i, none⟩ = some (.slice a xs[i].length c) ∧ xs[i].length ≤ c ∧ c ≤ maxLen ∧ Rd R B w a xs[i]) : Rd (RSl R) B w (some ⟨g, off, none⟩) xs := by
  have key : ∀ i, ∃ f : List Nat, (∀ b ∈ f, b < B) ∧ ∀ (h : i < xs.length), ∃ cs, (RSl R).enc w xs[i] cs f ∧ CellsAt w g (off + i) cs := by
    intro i
    by_cases hi : i < xs.length
    · obtain ⟨a, c, hc, l, m, fp, he, hl⟩ := h i hi
      refine ⟨fp, hl, fun _ => ⟨[.slice a xs[i].length c], ⟨a, c, rfl, l, m, he⟩, fun j v hv => ?_⟩⟩
      match j, hv with
      | 0, hv => simp at hv; subst hv; exact hc
    · exact ⟨[], by simp, fun h => absurd h hi⟩
  have hF := fun i => (key i).choose_spec
  refine ⟨g :: (List.range xs.length).flatMap fun i => (key i).choose, .inr ⟨g, off, fun i => (key i).choose, rfl, hg, rfl, fun i hi => ?_⟩, fun b hb => ?_⟩
  · obtain ⟨cs, h1, h2⟩ := (hF i).2 hi
    exact ⟨cs, h1, by simpa [RSl] using h2⟩
  · simp only [List.mem_cons, List.mem_flatMap, List.mem_range] at hb
    rcases hb with rfl | ⟨i, _, hm⟩
    · exact hB
    · exact (hF i).1 b hm

/-- The first place at which a predicate holds, or -1. -/
def indexOf {α : Type} (p : α → Bool) (xs : List α) : Int := match xs.findIdx? p with | some i => i | none => -1
theorem indexOf_some {α : Type} {p : α → Bool} {xs : List α} {k : Nat} (h : k < xs.length) (hp : p xs[k] = true) (ht : (xs.take k).any p = false) : indexOf p xs = k := by
  have : xs.findIdx? p = some k := by
    rw [List.findIdx?_eq_some_iff_getElem]
    refine ⟨h, hp, fun j hj => ?_⟩
    rw [List.any_eq_false] at ht
    simpa using ht xs[j] (List.mem_take_iff_getElem.2 ⟨j, by omega, rfl⟩)
  rw [indexOf, this]
theorem indexOf_none {α : Type} {p : α → Bool} {xs : List α} (ht : xs.any p = false) : indexOf p xs = -1 := by
  have : xs.findIdx? p = none := by
    rw [List.findIdx?_eq_none_iff]
    intro x hx
    rw [List.any_eq_false] at ht
    simpa using ht x hx
  rw [indexOf, this]
theorem indexOf_ge {α : Type} (p : α → Bool) (xs : List α) : decide (0 ≤ indexOf p xs) = xs.any p := by
  cases h : xs.any p
  · rw [indexOf_none h]; decide
  · rw [indexOf]
    rcases hi : xs.findIdx? p with _ | i
    · rw [List.findIdx?_eq_none_iff] at hi
      rw [List.any_eq_true] at h
      obtain ⟨x, hx, hp⟩ := h
      have := hi x hx
      rw [hp] at this
      cases this
    · simp
theorem any_take_succ {α : Type} {p : α → Bool} {xs : List α} {k : Nat} (h : k < xs.length) : (xs.take (k + 1)).any p = ((xs.take k).any p || p xs[k]) := by
  rw [List.take_succ_eq_append_getElem h, List.any_append]
  simp

theorem IndexFunc_lists (c : Nat) (hen : Enters Try.prog c) (p : List Int → Bool) (a : Option Addr) (cap : Nat) (xs : List (List Int)) (w : World) (hx : Rd (RSl RInt) w.heap.size w a xs) (hm : xs.length ≤ 9223372036854775807)
    (hp : ∀ (ys : List Int) (b : Option Addr) (d : Nat) (W : World), Rd RInt W.heap.size W b ys → ys.length ≤ 9223372036854775807 → Calls Try.prog c #[.slice b ys.length d] W fun e w' => e = .returned (.bool (p ys)) ∧ Ext W w') :
    Calls Try.prog 28 #[.slice a xs.length cap, .func (.func c) #[] #[]] w fun e w' => e = .returned (.int .i64 (indexOf p xs)) ∧ Ext w w' := by
  have HP := Lib.hid hp
  clear hp
  unfold Enters at hen
  go_enter Try.func28, Try.ntmps28
  go_wp2_with fail
  go_loopw [8] (fun i wr => ∃ k : Nat, k ≤ xs.length ∧ i = .int .i64 k ∧ Ext w wr ∧ Hid ((xs.take k).any p = false)) (fun i _ => xs.length - (intOf i).toNat)
  case atStart => exact ⟨0, Nat.zero_le _, rfl, Below.refl _ _, rfl⟩
  case round =>
    obtain ⟨k, hk, rfl, hbw, hw⟩ := hrel
    by_cases hlt : k < xs.length
    · obtain ⟨b, off, a1, c1, rfl, _, hcell, l1, m1, hr⟩ := (hx.ext hbw).list hlt
      have q1 := maxLen_le (Nat.le_trans l1 m1)
      go_wp2_with fail
      refine (HP.out _ _ _ _ hr q1).mono ?_
      rintro e w1 ⟨rfl, hb1⟩
      cases hin : p xs[k]
      · have HI := Lib.hid hin
        clear hin
        go_wp2_with fail
        go_roundw
        case rel => exact ⟨k + 1, by omega, by go_num, hbw.trans hb1, by show _ = _; rw [any_take_succ hlt, HI.out, hw.out]; rfl⟩
        case measure => simp [intOf]; omega
      · have HI := Lib.hid hin
        clear hin
        go_wp2_with fail
        go_ret
        exact ⟨ret_int (by rw [indexOf_some hlt HI.out hw.out]), hbw.trans hb1⟩
    · go_wp2_with fail
      go_ret
      have h := hw.out
      rw [List.take_of_length_le (by omega)] at h
      exact ⟨ret_int (indexOf_none h).symm, hbw⟩
theorem ContainsFunc_lists (c : Nat) (hen : Enters Try.prog c) (p : List Int → Bool) (a : Option Addr) (cap : Nat) (xs : List (List Int)) (w : World) (hx : Rd (RSl RInt) w.heap.size w a xs) (hm : xs.length ≤ 9223372036854775807)
    (hp : ∀ (ys : List Int) (b : Option Addr) (d : Nat) (W : World), Rd RInt W.heap.size W b ys → ys.length ≤ 9223372036854775807 → Calls Try.prog c #[.slice b ys.length d] W fun e w' => e = .returned (.bool (p ys)) ∧ Ext W w') :
    Calls Try.prog 25 #[.slice a xs.length cap, .func (.func c) #[] #[]] w fun e w' => e = .returned (.bool (xs.any p)) ∧ Ext w w' := by
  have HP := Lib.hid hp
  clear hp
  go_enter Try.func25, Try.ntmps25
  go_wp2_with fail
  refine (IndexFunc_lists c hen p _ _ _ _ hx hm HP.out).mono ?_
  rintro e w1 ⟨rfl, hb1⟩
  go_wp2_with fail
  go_ret
  exact ⟨ret_bool (indexOf_ge p xs), hb1⟩
theorem areWords_1 (ys : List Int) (b : Option Addr) (d : Nat) (W : World) (h : Rd RInt W.heap.size W b ys) (hm : ys.length ≤ 9223372036854775807) : Calls Try.prog 26 #[.slice b ys.length d] W fun e w' => e = .returned (.bool (!isWord ys)) ∧ Ext W w' := by
  go_enter Try.func26, Try.ntmps26
  go_wp2_with fail
  refine (IsWord_any _ _ _ _ h hm).mono ?_
  rintro e w1 ⟨rfl, rfl⟩
  go_wp2_with fail
  go_ret
  exact ⟨rfl, Below.refl _ _⟩
theorem areWords_any (a : Option Addr) (cap : Nat) (xs : List (List Int)) (w : World) (hx : Rd (RSl RInt) w.heap.size w a xs) (hm : xs.length ≤ 9223372036854775807) :
    Calls Try.prog 22 #[.slice a xs.length cap] w fun e w' => e = .returned (.bool (xs.all isWord)) ∧ Ext w w' := by
  go_enter Try.func22, Try.ntmps22
  go_wp2_with fail
  refine (ContainsFunc_lists _ (enters_of Try.func26 (by kernel_rfl) (by kernel_rfl)) _ _ _ _ _ hx hm areWords_1).mono ?_
  rintro e w1 ⟨rfl, hb1⟩
  go_wp2_with fail
  go_ret
  exact ⟨ret_bool (by simp [List.all_eq_not_any_not]), hb1⟩
end Go.Proofs.Ytmkjboeaooindaa
