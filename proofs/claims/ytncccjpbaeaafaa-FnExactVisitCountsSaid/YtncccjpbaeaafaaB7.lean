/- Machines, rules and steps in plain words; the contracts of the runner in those words. -/
import Derived.Test.YtncccjpbaeaafaaB5
set_option linter.unusedVariables false
set_option linter.unusedSimpArgs false
set_option maxRecDepth 100000
set_option maxHeartbeats 4000000
namespace Go.Proofs.Ytncccjpbaeaafaa
open Go Foot
theorem vSide_bd {sy : Int} {l : List Int} (h : vSide sy l = true) : (l.length : Int) ≤ 200 ∧ (∀ x ∈ l, 0 ≤ x ∧ x ≤ sy - 1) ∧ l.getLastD 1 ≠ 0 := by
  unfold vSide at h
  simp only [Bool.and_eq_true, List.all_eq_true, decide_eq_true_eq] at h
  exact ⟨h.2.1, h.1, h.2.2⟩
theorem vSide_mk {sy : Int} {l : List Int} (h1 : (l.length : Int) ≤ 200) (h2 : ∀ x ∈ l, 0 ≤ x ∧ x ≤ sy - 1) (h3 : l.getLastD 1 ≠ 0) : vSide sy l = true := by
  unfold vSide
  simp only [Bool.and_eq_true, List.all_eq_true, decide_eq_true_eq]
  exact ⟨h2, h1, h3⟩
theorem vConf_bd {m : Mach} {c : Conf} (h : vConf m c = true) : (0 ≤ c.st ∧ c.st ≤ m.st - 1) ∧ vSide m.sy c.le = true ∧ vSide m.sy c.ri = true := by
  unfold vConf at h
  simp only [Bool.and_eq_true, decide_eq_true_eq] at h
  exact ⟨h.1.1, h.1.2, h.2⟩
theorem vConf_mk {m : Mach} {c : Conf} (h : (0 ≤ c.st ∧ c.st ≤ m.st - 1) ∧ vSide m.sy c.le = true ∧ vSide m.sy c.ri = true) : vConf m c = true := by
  unfold vConf
  simp only [Bool.and_eq_true, decide_eq_true_eq]
  exact ⟨⟨h.1, h.2.1⟩, h.2.2⟩
abbrev noR : Rule' := ⟨0, 0, -1⟩
/-- The rule for a configuration. -/
@[irreducible] def ruAt (m : Mach) (c : Conf) : Rule' := m.ru.getD (c.st * m.sy + c.ri.headD 0).toNat noR
theorem headD_bd {sy : Int} {l : List Int} (hs : 2 ≤ sy) (h : vSide sy l = true) : 0 ≤ l.headD 0 ∧ l.headD 0 ≤ sy - 1 := by
  have := (vSide_bd h).2.1
  cases l with
  | nil => simp; omega
  | cons a l => exact this a (by simp)
theorem at_bd {m : Mach} {c : Conf} (hm : vMach m = true) (hc : vConf m c = true) : 0 ≤ c.st * m.sy ∧ 0 ≤ c.ri.headD 0 ∧ c.ri.headD 0 ≤ 5 ∧ c.st * m.sy + c.ri.headD 0 < m.ru.length ∧ (m.ru.length : Int) ≤ 6000 ∧ c.st ≤ 999 ∧ 0 ≤ c.st ∧ (c.le.length : Int) ≤ 200 ∧ (c.ri.length : Int) ≤ 200 := by
  obtain ⟨⟨h1, h2⟩, ⟨h3, h4⟩, h5⟩ := vMach_bd hm
  obtain ⟨⟨h6, h7⟩, h8, h9⟩ := vConf_bd hc
  obtain ⟨h10, h11⟩ := headD_bd h1 h9
  have a1 : c.st * m.sy ≤ (m.st - 1) * m.sy := Int.mul_le_mul_of_nonneg_right h7 (by omega)
  have a2 : (m.st - 1) * m.sy = m.sy * m.st - m.sy := by rw [Int.sub_mul, Int.mul_comm]; omega
  have a3 : m.sy * m.st ≤ 6 * m.st := Int.mul_le_mul_of_nonneg_right h2 (by omega)
  exact ⟨Int.mul_nonneg h6 (by omega), h10, by omega, by omega, by omega, by omega, h6, (vSide_bd h8).1, (vSide_bd h9).1⟩
theorem ruAt_get {m : Mach} {c : Conf} (hm : vMach m = true) (hc : vConf m c = true) : m.ru[(c.st * m.sy + c.ri.headD 0).toNat]? = some (ruAt m c) := by
  have h := at_bd hm hc
  rw [ruAt, List.getD_eq_getElem?_getD, List.getElem?_eq_getElem (by omega)]
  rfl
theorem ruAt_ge {m : Mach} {c : Conf} (hm : vMach m = true) (hc : vConf m c = true) (h : (c.st * m.sy + c.ri.headD 0).toNat < m.ru.length) : m.ru[(c.st * m.sy + c.ri.headD 0).toNat] = ruAt m c :=
  (List.getElem?_eq_some_iff.1 (ruAt_get hm hc)).2
theorem ruAt_ok {m : Mach} {c : Conf} (hm : vMach m = true) (hc : vConf m c = true) (hn : ruAt m c ≠ noR) : (0 ≤ (ruAt m c).w ∧ (ruAt m c).w ≤ m.sy - 1) ∧ ((ruAt m c).m = 1 ∨ (ruAt m c).m = -1) ∧ 0 ≤ (ruAt m c).n ∧ (ruAt m c).n ≤ m.st - 1 := by
  have hg := ruAt_get hm hc
  have := hm
  unfold vMach at this
  rw [Bool.and_eq_true, List.all_eq_true] at this
  have := this.2 _ (List.mem_of_getElem? hg)
  unfold okRule at this
  rw [decide_eq_true_eq] at this
  exact this.resolve_left hn
/-! Blanks at the end. -/
theorem trimR_id {l : List Int} (h : l.getLastD 1 ≠ 0) : trimR l = l := by
  unfold trimR
  cases hl : l.reverse with
  | nil => rw [List.reverse_eq_nil_iff] at hl; subst hl; rfl
  | cons a r =>
    have : l = r.reverse ++ [a] := by rw [← List.reverse_reverse l, hl, List.reverse_cons]
    subst this
    rw [List.getLastD_concat] at h
    rw [List.dropWhile_cons_of_neg (by simpa using h)]
    simp
theorem trimR_norm (l : List Int) : (trimR l).getLastD 1 ≠ 0 := by
  unfold trimR
  rw [List.getLastD_eq_getLast?, List.getLast?_reverse]
  cases h : l.reverse.dropWhile (· == 0) with
  | nil => decide
  | cons a r =>
    have := List.head?_dropWhile_not (· == (0 : Int)) l.reverse
    rw [h] at this
    simp at this
    simpa using this
theorem trimR_mem {l : List Int} {x : Int} (h : x ∈ trimR l) : x ∈ l := by
  unfold trimR at h
  rw [List.mem_reverse] at h
  exact List.mem_reverse.1 ((List.dropWhile_sublist _).mem h)
theorem trimR_cons {x : Int} {l : List Int} (h : l.getLastD 1 ≠ 0) : trimR (x :: l) = if x = 0 ∧ l = [] then [] else x :: l := by
  split
  · rename_i e
    obtain ⟨rfl, rfl⟩ := e
    decide +kernel
  · rename_i hn
    apply trimR_id
    cases l with
    | nil => simpa using hn
    | cons a l => simpa using h
theorem norm_tail {l : List Int} (h : l.getLastD 1 ≠ 0) : l.tail.getLastD 1 ≠ 0 := by
  cases l with
  | nil => simp
  | cons a l =>
    cases l with
    | nil => simp
    | cons b l => simpa using h
theorem pushL_rev {x : Int} {l : List Int} (h : l.getLastD 1 ≠ 0) : pushL l.reverse x = (trimR (x :: l)).reverse := by
  rw [trimR_cons h]
  unfold pushL
  split
  · rename_i e
    rw [List.reverse_eq_nil_iff] at e
    rw [if_pos e, e.2]
  · rename_i e
    rw [List.reverse_eq_nil_iff] at e
    rw [if_neg e, List.reverse_cons]
theorem getLastD_rev (l : List Int) (d : Int) : l.reverse.getLastD d = l.headD d := by
  rw [List.getLastD_eq_getLast?, List.getLast?_reverse]
  cases l <;> rfl
theorem dropLast_rev (l : List Int) : l.reverse.dropLast = l.tail.reverse := List.dropLast_reverse
theorem stepL_rev {m : Mach} {c : Conf} (hc : vConf m c = true) (u : Rule') : stepL u c.le.reverse c.ri.reverse = (stepS u c).le.reverse := by
  obtain ⟨_, h1, h2⟩ := vConf_bd hc
  unfold stepL stepS
  split
  · exact pushL_rev (vSide_bd h1).2.2
  · exact dropLast_rev _
theorem stepR_rev {m : Mach} {c : Conf} (hc : vConf m c = true) (u : Rule') : stepR u c.le.reverse c.ri.reverse = (stepS u c).ri.reverse := by
  obtain ⟨_, h1, h2⟩ := vConf_bd hc
  unfold stepR stepS
  split
  · exact dropLast_rev _
  · rw [dropLast_rev, pushL_rev (norm_tail (vSide_bd h2).2.2), pushL_rev (trimR_norm _), getLastD_rev]
theorem stepS_n (u : Rule') (c : Conf) : (stepS u c).st = u.n := by unfold stepS; split <;> rfl
theorem stepS_ok {m : Mach} {c : Conf} (hm : vMach m = true) (hc : vConf m c = true) (hn : ruAt m c ≠ noR) (hr : roomS (stepS (ruAt m c) c) = true) : vConf m (stepS (ruAt m c) c) = true := by
  obtain ⟨hw, hmv, hst⟩ := ruAt_ok hm hc hn
  obtain ⟨_, h1, h2⟩ := vConf_bd hc
  have hb := (vMach_bd hm).1
  obtain ⟨a1, a2, a3⟩ := vSide_bd h1
  obtain ⟨b1, b2, b3⟩ := vSide_bd h2
  unfold roomS at hr
  rw [decide_eq_true_eq] at hr
  apply vConf_mk
  rw [stepS_n]
  refine ⟨hst, vSide_mk (by omega) ?_ ?_, vSide_mk (by omega) ?_ ?_⟩
  · unfold stepS
    split
    · intro x hx
      rcases List.mem_cons.1 (trimR_mem hx) with rfl | hx
      · exact hw
      · exact a2 x hx
    · intro x hx
      exact a2 x (List.mem_of_mem_tail hx)
  · unfold stepS
    split
    · exact trimR_norm _
    · exact norm_tail a3
  · unfold stepS
    split
    · intro x hx
      exact b2 x (List.mem_of_mem_tail hx)
    · intro x hx
      rcases List.mem_cons.1 (trimR_mem hx) with rfl | hx
      · exact headD_bd hb.1 h1
      · rcases List.mem_cons.1 (trimR_mem hx) with rfl | hx
        · exact hw
        · exact b2 x (List.mem_of_mem_tail hx)
  · unfold stepS
    split
    · exact norm_tail b3
    · exact trimR_norm _
/-! The contracts in these words. -/
--HIDE step_ok rule_ok halts_ok at_ok l05Halts_ok l05At_ok l05Step_ok config_ok
theorem preB7 {p : Prop} (h : p := by first | with_reducible assumption | omega | (simp only [List.length_append, List.length_cons, List.length_nil, List.length_set, List.length_replicate, List.length_take, List.length_drop, List.length_tail, List.length_dropLast, List.length_reverse] at *; omega) | (with_reducible refine Int.le_trans (Int.ofNat_le.2 (trimR_len _)) ?_; simp only [List.length_cons, List.length_tail]; omega) | (have := vMach_bd (by assumption); omega) | (with_reducible refine Int.le_trans (Int.ofNat_le.2 (pushL_len _ _)) ?_; simp only [List.length_dropLast]; omega) | trivial) : p := h
theorem stepC_ok (m : Mach) (c : Conf) (hm : vMach m = true) (hc : vConf m c = true) : Does Try.prog 98 [.one (.gv 0)] [ruBx m c.st 1 2, roI c.le.reverse, roI c.ri.reverse] (.one (boo (roomS (stepS (ruAt m c) c)))) [ruBx m (stepS (ruAt m c) c).st 3 4, .dead, .dead, roI (stepS (ruAt m c) c).le.reverse, roI (stepS (ruAt m c) c).ri.reverse] := by
  have hb := at_bd hm hc
  have := step_ok m c.st c.le.reverse c.ri.reverse (ruAt m c) (by simp; omega) (by simp; omega) (by omega) (by omega) (by rw [getLastD_rev]; omega) (by rw [getLastD_rev]; omega) (by rw [getLastD_rev]; omega) (by rw [getLastD_rev]; exact ruAt_get hm hc)
  rw [stepL_rev hc, stepR_rev hc, List.length_reverse, List.length_reverse, ← stepS_n (ruAt m c) c] at this
  unfold roomS
  exact this
theorem ruleC_ok (m : Mach) (c : Conf) (hm : vMach m = true) (hc : vConf m c = true) : Does Try.prog 97 [.one (ruD m c.st c.le.reverse c.ri.reverse)] [] (.agg (ruC (ruAt m c))) [] := by
  have hb := at_bd hm hc
  have := rule_ok m c.st c.le.reverse c.ri.reverse (by simp; omega) (by omega) (by omega) (by rw [getLastD_rev]; omega) (by rw [getLastD_rev]; omega) (by rw [getLastD_rev]; omega)
  simp only [getLastD_rev, ruAt_ge hm hc] at this
  exact this
theorem haltsC_ok (m : Mach) (c : Conf) (hm : vMach m = true) (hc : vConf m c = true) : Does Try.prog 96 [.one (ruD m c.st c.le.reverse c.ri.reverse)] [] (.one (boo (decide (ruAt m c = noR)))) [] := by
  have hb := at_bd hm hc
  have := halts_ok m c.st c.le.reverse c.ri.reverse (by simp; omega) (by omega) (by omega) (by rw [getLastD_rev]; omega) (by rw [getLastD_rev]; omega) (by rw [getLastD_rev]; omega)
  simp only [getLastD_rev, ruAt_ge hm hc] at this
  exact this
theorem atC_ok (m : Mach) (c : Conf) (hm : vMach m = true) (hc : vConf m c = true) : Does Try.prog 129 [.one (ruD m c.st c.le.reverse c.ri.reverse)] [] (.one (int (c.st * m.sy + c.ri.headD 0))) [] := by
  have hb := at_bd hm hc
  have := at_ok m c.st c.le.reverse c.ri.reverse (by simp; omega) (by omega) (by omega) (by rw [getLastD_rev]; omega) (by rw [getLastD_rev]; omega)
  simp only [getLastD_rev] at this
  exact this
theorem configC_ok (m : Mach) (c : Conf) (hx : (c.le.length : Int) ≤ 16777216) (hy : (c.ri.length : Int) ≤ 16777216) : Does Try.prog 77 [.one (ruD m c.st c.le.reverse c.ri.reverse)] [] (.agg [int c.st, .gv 0, .gv 1]) [roI c.le, roI c.ri] := by
  have := config_ok m c.st c.le.reverse c.ri.reverse (by simpa using hy) (by simpa using hx)
  rw [List.reverse_reverse, List.reverse_reverse] at this
  exact this
theorem l05HaltsC_ok (m : Mach) (c : Conf) (hm : vMach m = true) (hc : vConf m c = true) : Does Try.prog 87 [.one (maB m), .one (coB c)] [] (.one (boo (decide (ruAt m c = noR)))) [] := by
  have hb := at_bd hm hc
  have := l05Halts_ok m c (by omega) (by omega) (by omega) (by omega) (by omega) (by omega)
  simp only [ruAt_ge hm hc] at this
  exact this
theorem l05AtC_ok (m : Mach) (c : Conf) (hm : vMach m = true) (hc : vConf m c = true) : Does Try.prog 88 [.one (maB m), .one (coB c)] [] (.one (int (c.st * m.sy + c.ri.headD 0))) [] := by
  have hb := at_bd hm hc
  exact l05At_ok m c (by omega) (by omega) (by omega) (by omega) (by omega)
theorem l05StepC_ok (m : Mach) (c : Conf) (hm : vMach m = true) (hc : vConf m c = true) : Does Try.prog 91 [.one (maB m), .one (coB c)] [] (.tup [(true, [int (stepS (ruAt m c) c).st, .gv 0, .gv 1]), (false, [boo (roomS (stepS (ruAt m c) c))])]) [roI (stepS (ruAt m c) c).le, roI (stepS (ruAt m c) c).ri] := by
  have hb := at_bd hm hc
  exact l05Step_ok m c (ruAt m c) (by omega) (by omega) (by omega) (by omega) (by omega) (by omega) (by omega) (ruAt_get hm hc)
end Go.Proofs.Ytncccjpbaeaafaa
