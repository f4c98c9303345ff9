/- Parts of the proof (12 of 14). -/
import Derived.Test.YtncccjpbaeaafaaQ11
section
set_option linter.unusedVariables false
set_option linter.unusedSimpArgs false
set_option maxRecDepth 100000
set_option maxHeartbeats 4000000
namespace Go.Proofs.Ytncccjpbaeaafaa
open Go Foot
@[irreducible] def minL (l : List Int) : Int := l.foldl min (l.headD 0)
@[irreducible] def maxL (l : List Int) : Int := l.foldl max (l.headD 0)
theorem foldl_next {l : List Int} {i : Int} (f : Int → Int → Int) (z : Int) (h0 : 0 ≤ i) (h : i.toNat < l.length) : (l.take (i + 1).toNat).foldl f z = f ((l.take i.toNat).foldl f z) l[i.toNat] := by
  rw [show (i + 1).toNat = i.toNat + 1 by omega, List.take_succ_eq_append_getElem h, List.foldl_append]; rfl
theorem foldl_one {l : List Int} (f : Int → Int → Int) (hf : ∀ x, f x x = x) (h : 0 < l.length) : (l.take (1 : Int).toNat).foldl f (l.headD 0) = l[(0 : Int).toNat] := by
  cases l with
  | nil => simp at h
  | cons a l => exact hf a
theorem preB36 {p : Prop} (h : p := by first | with_reducible assumption | omega | (simp only [List.length_append, List.length_cons, List.length_nil, List.length_set, List.length_replicate, List.length_take, List.length_drop, List.length_tail, List.length_dropLast, List.length_reverse] at *; omega) | exact mem_len (by assumption) (by omega) | (with_reducible refine Int.le_trans (Int.ofNat_le.2 (trimR_len _)) ?_; simp only [List.length_cons, List.length_tail]; omega) | (exact (ruAt_ok (by assumption) (by assumption) (by assumption)).2.1) | (exact (ruAt_ok (by assumption) (by assumption) (by assumption)).2.1) | (have := vMach_bd (by assumption); omega) | (simp only [mC_ch, mC_tu]; omega) | (with_reducible refine Int.le_trans (Int.ofNat_le.2 (pushL_len _ _)) ?_; simp only [List.length_dropLast]; omega) | exact (ask_ok (by assumption)).1 | exact (ask_ok (by assumption)).2.1 | exact (ask_ok (by assumption)).2.2.1 | exact (ask_ok (by assumption)).2.2.2 | trivial) : p := h
theorem sMin_ok (l : List Int) (h : 0 < (l.length : Int)) (hx : (l.length : Int) ≤ 16777216) : Does Try.prog 119 [.one (shI l)] [] (.one (int (minL l))) [] := by
  refine does_of (k := 0) Try.func119 rfl Try.ntmps119 rfl rfl fun w F0 S0 ρ0 => ?_
  dsimp only [argT, argH]
  repeat' first
    | refine g_seq ?_
    | refine g_skip ?_
    | refine g_exit ?_
    | refine g_block ?_
    | refine g_reg ?_
    | refine g_if_t rfl ?_
    | refine g_if_f rfl ?_
    | refine o_nil ?_
    | refine q_s ?_
    | refine q_se ?_
    | refine q_b ?_
    | refine q_be rfl ?_
    | refine q_bn rfl ?_
    | refine q_le ?_
    | refine q_ce ?_
    | (apply p3; (first | exact pu1 | exact puL | exact puN | exact a_len_str rfl (fT rfl) | exact puC | exact a_min rfl rfl | exact a_add rfl rfl (by omega) (by omega) | exact puI); exact rfl)
    | (refine o_gs rfl rfl (fun hc => ?_) (fun hc => ?_) <;> (try simp only [decide_eq_true_eq, decide_eq_false_iff_not, Bool.not_eq_true', Bool.not_eq_false', Bool.not_eq_true, Bool.not_eq_false, Bool.and_eq_true, Bool.or_eq_false_iff, Bool.not_not] at hc) <;> (try (first | contradiction | (exfalso; omega))))
    | (refine g_cond rfl (fun hc => ?_) (fun hc => ?_) <;> (try simp only [decide_eq_true_eq, decide_eq_false_iff_not, Bool.not_eq_true', Bool.not_eq_false', Bool.not_eq_true, Bool.not_eq_false, Bool.and_eq_true, Bool.or_eq_false_iff, Bool.not_not] at hc) <;> (try (first | contradiction | (exfalso; omega))))
  refine g_loop_id ?_
  refine loopK [0, 2] [] (fun y : Int × Int => 1 ≤ y.1 ∧ y.1 ≤ l.length ∧ y.2 = (l.take y.1.toNat).foldl min (l.headD 0)) (fun y => [(4, .one (int y.1)), (3, .one (int y.2))]) (fun _ => []) (fun y => (l.length - y.1).toNat) ((1 : Int), l[(0 : Int).toNat]'(by simp; omega)) [] (hI := ?_) (hr := ?_)
  · exact ⟨by simp, by dsimp only; omega, (foldl_one min (fun x => by omega) (by omega)).symm⟩
  · rintro ⟨i, k⟩ ⟨h0, h1, h2⟩
    dsimp only [List.cons_append, List.nil_append] at *
    skip
    repeat' first
      | refine g_seq ?_
      | refine g_skip ?_
      | refine g_exit ?_
      | refine g_block ?_
      | refine g_reg ?_
      | refine g_if_t rfl ?_
      | refine g_if_f rfl ?_
      | refine o_nil ?_
      | refine q_s ?_
      | refine q_se ?_
      | refine q_b ?_
      | refine q_be rfl ?_
      | refine q_bn rfl ?_
      | refine q_le ?_
      | refine q_ce ?_
      | (apply p3; (first | exact pu1 | exact puL | exact puN | exact a_len_str rfl (fT rfl) | exact puC | exact a_min rfl rfl | exact a_add rfl rfl (by omega) (by omega) | exact puI); exact rfl)
      | (refine o_gs rfl rfl (fun hc => ?_) (fun hc => ?_) <;> (try simp only [decide_eq_true_eq, decide_eq_false_iff_not, Bool.not_eq_true', Bool.not_eq_false', Bool.not_eq_true, Bool.not_eq_false, Bool.and_eq_true, Bool.or_eq_false_iff, Bool.not_not] at hc) <;> (try (first | contradiction | (exfalso; omega))))
      | (refine g_cond rfl (fun hc => ?_) (fun hc => ?_) <;> (try simp only [decide_eq_true_eq, decide_eq_false_iff_not, Bool.not_eq_true', Bool.not_eq_false', Bool.not_eq_true, Bool.not_eq_false, Bool.and_eq_true, Bool.or_eq_false_iff, Bool.not_not] at hc) <;> (try (first | contradiction | (exfalso; omega))))
    · refine q_again (i + 1, if l[i.toNat]'(by omega) < k then l[i.toNat]'(by omega) else k) [] (by exact stk) ?_ ?_
      · exact ⟨by dsimp only; omega, by dsimp only; omega, by dsimp only; rw [foldl_next min _ (by omega) (by omega), ← h2]; split <;> omega⟩
      · dsimp only; omega
    · repeat (first | refine g_ret ?_ | refine q_sr ?_ | refine q_br ?_ | refine q_lr ?_ | refine q_cr ?_)
      refine ends_id ?_
      refine endK [] (h2 := ?_) (h3 := ?_) (nd := ?_)
      all_goals (repeat' first | with_reducible exact SVLe.refl | exact SVLe.any | exact SVLe.one (.sh rfl) | exact SVLe.one (.nil (by decide)) | refine SVLe.agg ?_ | refine SVLe.tup ?_ | exact TLe.nil | refine TLe.cons ?_ ?_ | exact CsLe.nil | refine CsLe.cons ?_ ?_ | exact CLe.refl | exact CLe.sh rfl | exact CLe.nil (by decide) | refine cle_i ?_ | refine cle_b ?_ | exact trivial | refine And.intro ?_ ?_ | exact Or.inl rfl | exact Or.inr rfl | refine Or.inr (row_eq ?_) | (refine Or.inr (bx_eq rfl rfl ?_); (try dsimp only [C.ren, C.ren.all]); (try exact rfl)) | exact SVLe.refl | refine sle_i ?_ | refine sle_b ?_)
      all_goals first | exact (show nodupB _ = true from rfl) | exact Or.inr rfl | ((unfold minL; rw [h2, List.take_of_length_le (by omega)]))
theorem sMax_ok (l : List Int) (h : 0 < (l.length : Int)) (hx : (l.length : Int) ≤ 16777216) : Does Try.prog 120 [.one (shI l)] [] (.one (int (maxL l))) [] := by
  refine does_of (k := 0) Try.func120 rfl Try.ntmps120 rfl rfl fun w F0 S0 ρ0 => ?_
  dsimp only [argT, argH]
  repeat' first
    | refine g_seq ?_
    | refine g_skip ?_
    | refine g_exit ?_
    | refine g_block ?_
    | refine g_reg ?_
    | refine g_if_t rfl ?_
    | refine g_if_f rfl ?_
    | refine o_nil ?_
    | refine q_s ?_
    | refine q_se ?_
    | refine q_b ?_
    | refine q_be rfl ?_
    | refine q_bn rfl ?_
    | refine q_le ?_
    | refine q_ce ?_
    | (apply p3; (first | exact pu1 | exact puL | exact puN | exact a_len_str rfl (fT rfl) | exact puC | exact a_max rfl rfl | exact a_add rfl rfl (by omega) (by omega) | exact puI); exact rfl)
    | (refine o_gs rfl rfl (fun hc => ?_) (fun hc => ?_) <;> (try simp only [decide_eq_true_eq, decide_eq_false_iff_not, Bool.not_eq_true', Bool.not_eq_false', Bool.not_eq_true, Bool.not_eq_false, Bool.and_eq_true, Bool.or_eq_false_iff, Bool.not_not] at hc) <;> (try (first | contradiction | (exfalso; omega))))
    | (refine g_cond rfl (fun hc => ?_) (fun hc => ?_) <;> (try simp only [decide_eq_true_eq, decide_eq_false_iff_not, Bool.not_eq_true', Bool.not_eq_false', Bool.not_eq_true, Bool.not_eq_false, Bool.and_eq_true, Bool.or_eq_false_iff, Bool.not_not] at hc) <;> (try (first | contradiction | (exfalso; omega))))
  refine g_loop_id ?_
  refine loopK [0, 2] [] (fun y : Int × Int => 1 ≤ y.1 ∧ y.1 ≤ l.length ∧ y.2 = (l.take y.1.toNat).foldl max (l.headD 0)) (fun y => [(4, .one (int y.1)), (3, .one (int y.2))]) (fun _ => []) (fun y => (l.length - y.1).toNat) ((1 : Int), l[(0 : Int).toNat]'(by simp; omega)) [] (hI := ?_) (hr := ?_)
  · exact ⟨by simp, by dsimp only; omega, (foldl_one max (fun x => by omega) (by omega)).symm⟩
  · rintro ⟨i, k⟩ ⟨h0, h1, h2⟩
    dsimp only [List.cons_append, List.nil_append] at *
    skip
    repeat' first
      | refine g_seq ?_
      | refine g_skip ?_
      | refine g_exit ?_
      | refine g_block ?_
      | refine g_reg ?_
      | refine g_if_t rfl ?_
      | refine g_if_f rfl ?_
      | refine o_nil ?_
      | refine q_s ?_
      | refine q_se ?_
      | refine q_b ?_
      | refine q_be rfl ?_
      | refine q_bn rfl ?_
      | refine q_le ?_
      | refine q_ce ?_
      | (apply p3; (first | exact pu1 | exact puL | exact puN | exact a_len_str rfl (fT rfl) | exact puC | exact a_max rfl rfl | exact a_add rfl rfl (by omega) (by omega) | exact puI); exact rfl)
      | (refine o_gs rfl rfl (fun hc => ?_) (fun hc => ?_) <;> (try simp only [decide_eq_true_eq, decide_eq_false_iff_not, Bool.not_eq_true', Bool.not_eq_false', Bool.not_eq_true, Bool.not_eq_false, Bool.and_eq_true, Bool.or_eq_false_iff, Bool.not_not] at hc) <;> (try (first | contradiction | (exfalso; omega))))
      | (refine g_cond rfl (fun hc => ?_) (fun hc => ?_) <;> (try simp only [decide_eq_true_eq, decide_eq_false_iff_not, Bool.not_eq_true', Bool.not_eq_false', Bool.not_eq_true, Bool.not_eq_false, Bool.and_eq_true, Bool.or_eq_false_iff, Bool.not_not] at hc) <;> (try (first | contradiction | (exfalso; omega))))
    · refine q_again (i + 1, if k < l[i.toNat]'(by omega) then l[i.toNat]'(by omega) else k) [] (by exact stk) ?_ ?_
      · exact ⟨by dsimp only; omega, by dsimp only; omega, by dsimp only; rw [foldl_next max _ (by omega) (by omega), ← h2]; split <;> omega⟩
      · dsimp only; omega
    · repeat (first | refine g_ret ?_ | refine q_sr ?_ | refine q_br ?_ | refine q_lr ?_ | refine q_cr ?_)
      refine ends_id ?_
      refine endK [] (h2 := ?_) (h3 := ?_) (nd := ?_)
      all_goals (repeat' first | with_reducible exact SVLe.refl | exact SVLe.any | exact SVLe.one (.sh rfl) | exact SVLe.one (.nil (by decide)) | refine SVLe.agg ?_ | refine SVLe.tup ?_ | exact TLe.nil | refine TLe.cons ?_ ?_ | exact CsLe.nil | refine CsLe.cons ?_ ?_ | exact CLe.refl | exact CLe.sh rfl | exact CLe.nil (by decide) | refine cle_i ?_ | refine cle_b ?_ | exact trivial | refine And.intro ?_ ?_ | exact Or.inl rfl | exact Or.inr rfl | refine Or.inr (row_eq ?_) | (refine Or.inr (bx_eq rfl rfl ?_); (try dsimp only [C.ren, C.ren.all]); (try exact rfl)) | exact SVLe.refl | refine sle_i ?_ | refine sle_b ?_)
      all_goals first | exact (show nodupB _ = true from rfl) | exact Or.inr rfl | ((unfold maxL; rw [h2, List.take_of_length_le (by omega)]))
@[irreducible] def behind (l : List Int) (d : Int) : Int := if 0 < d then l.headD 0 - minL l else maxL l - l.headD 0
theorem behindHead_ok (l : List Int) (d : Int) (h : 0 < (l.length : Int)) (hx : (l.length : Int) ≤ 16777216) (h1 : -1000000 ≤ l.headD 0) (h2 : l.headD 0 ≤ 1000000) (h3 : -1000000 ≤ minL l) (h4 : minL l ≤ 1000000) (h5 : -1000000 ≤ maxL l) (h6 : maxL l ≤ 1000000) : Does Try.prog 78 [.one (shI l), .one (int d)] [] (.one (int (behind l d))) [] := by
  have hp : (0 : Int).toNat < l.length := by simp; omega
  have e : l[(0 : Int).toNat]'hp = l.headD 0 := by cases l with | nil => simp at h | cons a l => rfl
  have g1 : -1000000 ≤ l[(0 : Int).toNat]'hp := by rw [e]; exact h1
  have g2 : l[(0 : Int).toNat]'hp ≤ 1000000 := by rw [e]; exact h2
  refine does_of (k := 0) Try.func78 rfl Try.ntmps78 rfl rfl fun w F0 S0 ρ0 => ?_
  dsimp only [argT, argH]
  repeat' first
    | refine g_seq ?_
    | refine g_skip ?_
    | refine g_exit ?_
    | refine g_block ?_
    | refine g_reg ?_
    | refine g_if_t rfl ?_
    | refine g_if_f rfl ?_
    | refine o_nil ?_
    | refine q_s ?_
    | refine q_se ?_
    | refine q_b ?_
    | refine q_be rfl ?_
    | refine q_bn rfl ?_
    | refine q_le ?_
    | refine q_ce ?_
    | (apply p3; (first | exact pu1 | exact puC); exact rfl)
    | (apply g_drN (id := 2) okM [[], [0], [0, 1], [], [3], [0, 1, 2, 3, 4], [0, 1, 2, 3, 4, 5]] [([], []), ([], []), ([], []), ([], []), ([], []), ([], []), ([], [])] 0; (focus (all_goals refine dp 0 0 [10, 11] [] pu1 ?_; all_goals refine dp 1 1 [10, 11] [] puI ?_; all_goals refine dp 2 3 [10, 11] [] puL ?_; all_goals refine dp 3 0 [7, 8, 9] [] pu1 ?_; all_goals refine dp 4 1 [7, 8, 9] [] (callD1 (n := _) 0 (θ := []) (hD := (sMin_ok _ preB36 preB36))) ?_; all_goals refine dp 5 31 [] [] (a_sub rfl rfl (by omega) (by omega)) ?_; all_goals refine dp 6 63 [] [] pu1 ?_; all_goals (refine d_nil ?_; dsimp only [selT, selH, trues, SV.ren, C.ren, C.ren.all, tRen, GB.ren, calF, upOf, List.cons_append, List.nil_append, Nat.reduceAdd, setRow, List.map_cons, List.map_nil, scC, List.set_cons_zero, List.set_cons_succ, List.take_succ_cons, List.take_zero, List.drop_succ_cons, List.drop_zero]))); any_goals kernel_rfl)
    | (apply g_drN (id := 3) okM [[], [0], [], [2], [2, 3], [0, 1, 2, 3, 4], [0, 1, 2, 3, 4, 5]] [([], []), ([], []), ([], []), ([], []), ([], []), ([], []), ([], [])] 0; (focus (all_goals refine dp 0 0 [15, 16, 17] [] pu1 ?_; all_goals refine dp 1 1 [15, 16, 17] [] (callD1 (n := _) 0 (θ := []) (hD := (sMax_ok _ preB36 preB36))) ?_; all_goals refine dp 2 0 [13, 14] [] pu1 ?_; all_goals refine dp 3 1 [13, 14] [] puI ?_; all_goals refine dp 4 3 [13, 14] [] puL ?_; all_goals refine dp 5 31 [] [] (a_sub rfl rfl (by omega) (by omega)) ?_; all_goals refine dp 6 63 [] [] pu1 ?_; all_goals (refine d_nil ?_; dsimp only [selT, selH, trues, SV.ren, C.ren, C.ren.all, tRen, GB.ren, calF, upOf, List.cons_append, List.nil_append, Nat.reduceAdd, setRow, List.map_cons, List.map_nil, scC, List.set_cons_zero, List.set_cons_succ, List.take_succ_cons, List.take_zero, List.drop_succ_cons, List.drop_zero]))); any_goals kernel_rfl)
    | (refine o_gs rfl rfl (fun hc => ?_) (fun hc => ?_) <;> (try simp only [decide_eq_true_eq, decide_eq_false_iff_not, Bool.not_eq_true', Bool.not_eq_false', Bool.not_eq_true, Bool.not_eq_false, Bool.and_eq_true, Bool.or_eq_false_iff, Bool.not_not] at hc) <;> (try (first | contradiction | (exfalso; omega))))
    | (refine g_cond rfl (fun hc => ?_) (fun hc => ?_) <;> (try simp only [decide_eq_true_eq, decide_eq_false_iff_not, Bool.not_eq_true', Bool.not_eq_false', Bool.not_eq_true, Bool.not_eq_false, Bool.and_eq_true, Bool.or_eq_false_iff, Bool.not_not] at hc) <;> (try (first | contradiction | (exfalso; omega))))
  · repeat (first | refine g_ret ?_ | refine q_sr ?_ | refine q_br ?_ | refine q_lr ?_ | refine q_cr ?_)
    refine ends_id ?_
    refine endK [] (h2 := ?_) (h3 := ?_) (nd := ?_)
    all_goals (repeat' first | with_reducible exact SVLe.refl | exact SVLe.any | exact SVLe.one (.sh rfl) | exact SVLe.one (.nil (by decide)) | refine SVLe.agg ?_ | refine SVLe.tup ?_ | exact TLe.nil | refine TLe.cons ?_ ?_ | exact CsLe.nil | refine CsLe.cons ?_ ?_ | exact CLe.refl | exact CLe.sh rfl | exact CLe.nil (by decide) | refine cle_i ?_ | refine cle_b ?_ | exact trivial | refine And.intro ?_ ?_ | exact Or.inl rfl | exact Or.inr rfl | refine Or.inr (row_eq ?_) | (refine Or.inr (bx_eq rfl rfl ?_); (try dsimp only [C.ren, C.ren.all]); (try exact rfl)) | exact SVLe.refl | refine sle_i ?_ | refine sle_b ?_)
    all_goals first | exact (show nodupB _ = true from rfl) | exact Or.inr rfl | ((unfold behind; rw [if_pos hc, e]))
  · repeat (first | refine g_ret ?_ | refine q_sr ?_ | refine q_br ?_ | refine q_lr ?_ | refine q_cr ?_)
    refine ends_id ?_
    refine endK [] (h2 := ?_) (h3 := ?_) (nd := ?_)
    all_goals (repeat' first | with_reducible exact SVLe.refl | exact SVLe.any | exact SVLe.one (.sh rfl) | exact SVLe.one (.nil (by decide)) | refine SVLe.agg ?_ | refine SVLe.tup ?_ | exact TLe.nil | refine TLe.cons ?_ ?_ | exact CsLe.nil | refine CsLe.cons ?_ ?_ | exact CLe.refl | exact CLe.sh rfl | exact CLe.nil (by decide) | refine cle_i ?_ | refine cle_b ?_ | exact trivial | refine And.intro ?_ ?_ | exact Or.inl rfl | exact Or.inr rfl | refine Or.inr (row_eq ?_) | (refine Or.inr (bx_eq rfl rfl ?_); (try dsimp only [C.ren, C.ren.all]); (try exact rfl)) | exact SVLe.refl | refine sle_i ?_ | refine sle_b ?_)
    all_goals first | exact (show nodupB _ = true from rfl) | exact Or.inr rfl | ((unfold behind; rw [if_neg hc, e]))
end Go.Proofs.Ytncccjpbaeaafaa
end
section
set_option linter.unusedVariables false
set_option linter.unusedSimpArgs false
set_option maxRecDepth 100000
set_option maxHeartbeats 4000000
namespace Go.Proofs.Ytncccjpbaeaafaa
open Go Foot
section
variable {m : Mach}
end
theorem fold_min (pa : Int) : ∀ (l : List Int) (z : Int), l.foldl (fun z q => max z (-(q - pa))) (pa - z) = pa - l.foldl min z
  | [], z => rfl
  | q :: l, z => by
    rw [List.foldl_cons, List.foldl_cons, ← fold_min pa l]
    congr 1
    omega
theorem fold_max (pa : Int) : ∀ (l : List Int) (z : Int), l.foldl (fun z q => max z (q - pa)) (z - pa) = l.foldl max z - pa
  | [], z => rfl
  | q :: l, z => by
    rw [List.foldl_cons, List.foldl_cons, ← fold_max pa l]
    congr 1
    omega
theorem foldl_bd (f : Int → Int → Int) (hf : ∀ x y, f x y = x ∨ f x y = y) (lo hi : Int) : ∀ (l : List Int) (z : Int), lo ≤ z → z ≤ hi → (∀ p ∈ l, lo ≤ p ∧ p ≤ hi) → lo ≤ l.foldl f z ∧ l.foldl f z ≤ hi
  | [], z, h1, h2, _ => ⟨h1, h2⟩
  | q :: l, z, h1, h2, h => by
    rw [List.foldl_cons]
    have hq := h q (by simp)
    refine foldl_bd f hf lo hi l _ ?_ ?_ fun p hp => h p (by simp [hp])
    · rcases hf z q with e | e <;> rw [e] <;> omega
    · rcases hf z q with e | e <;> rw [e] <;> omega
abbrev blank : Conf := ⟨0, [], []⟩
end Go.Proofs.Ytncccjpbaeaafaa
end
section
set_option linter.unusedVariables false
set_option linter.unusedSimpArgs false
set_option maxRecDepth 100000
set_option maxHeartbeats 4000000
namespace Go.Proofs.Ytncccjpbaeaafaa
open Go Foot
end Go.Proofs.Ytncccjpbaeaafaa
end
section
set_option linter.unusedVariables false
set_option linter.unusedSimpArgs false
set_option maxRecDepth 100000
set_option maxHeartbeats 4000000
namespace Go.Proofs.Ytncccjpbaeaafaa
open Go Foot
@[irreducible] def posAt (l : List Int) (k : Int) : Int := l.getD k.toNat 0
theorem posAt_get {l : List Int} {k : Int} (h : k.toNat < l.length) : l[k.toNat] = posAt l k := by unfold posAt; exact get_getD l 0 _ h
theorem posAt_app {l : List Int} {p k : Int} (h0 : 0 ≤ k) (h : k < l.length) : posAt (l ++ [p]) k = posAt l k := by
  unfold posAt
  rw [List.getD_eq_getElem?_getD, List.getD_eq_getElem?_getD, List.getElem?_append_left (by omega)]
theorem posAt_new {l : List Int} {p : Int} : posAt (l ++ [p]) l.length = p := by
  unfold posAt
  rw [List.getD_eq_getElem?_getD, List.getElem?_append_right (by omega)]
  simp
theorem posAt_mem {l : List Int} {k : Int} (h0 : 0 ≤ k) (h : k < l.length) : posAt l k ∈ l := by
  rw [← posAt_get (by omega)]; exact List.getElem_mem _
/-- What is known of the records of a run. -/
structure QInv (x : Qk) : Prop where
  len : (x.pos.length : Int) ≤ 20001
  rlen : (x.rcs.length : Int) ≤ x.pos.length
  lo : -20001 ≤ x.le
  hi : x.gr ≤ 20001
  bd : ∀ p ∈ x.pos, x.le ≤ p ∧ p ≤ x.gr
  rc : ∀ r ∈ x.rcs, (0 ≤ r.n ∧ r.n < x.pos.length) ∧ (r.sd = 1 ∨ r.sd = -1) ∧ (r.c.le.length : Int) ≤ 1000 ∧ (r.c.ri.length : Int) ≤ 1000
  pw : x.rcs.Pairwise fun a e => a.n < e.n ∧ (a.sd = 1 → e.sd = 1 → posAt x.pos a.n < posAt x.pos e.n) ∧ (a.sd = -1 → e.sd = -1 → posAt x.pos e.n < posAt x.pos a.n)
/-- Does the record e come again behind a? -/
@[irreducible] def hitS (pos : List Int) (a e : Rec) : Bool :=
  decide (a.sd = e.sd) && decide (a.c.st = e.c.st) && fits a.c e.c (posAt pos e.n - posAt pos a.n) (behind ((pos.drop a.n.toNat).take ((e.n + 1).toNat - a.n.toNat)) (posAt pos e.n - posAt pos a.n))
/-- The last of the first k records behind which e comes again. -/
@[irreducible] def fndA (pos : List Int) (rs : List Rec) (e : Rec) : Nat → Option Rec
  | 0 => none
  | i + 1 => match rs[i]? with
    | some a => if hitS pos a e then some a else fndA pos rs e i
    | none => none
theorem fndA_s {pos : List Int} {rs : List Rec} {e : Rec} {i : Int} (h0 : 0 ≤ i) (h : i.toNat < rs.length) : fndA pos rs e (i + 1).toNat = if hitS pos (rs[i.toNat]) e then some (rs[i.toNat]) else fndA pos rs e i.toNat := by
  rw [show (i + 1).toNat = i.toNat + 1 by omega]
  conv => lhs; unfold fndA
  rw [List.getElem?_eq_getElem h]
@[irreducible] def prfOf (pos : List Int) (e : Rec) : Option Rec → Prf
  | none => ⟨0, [], []⟩
  | some a => ⟨3, [a.n, e.n - a.n, posAt pos e.n - posAt pos a.n], []⟩
/-- The part between two records. -/
theorem part_len {pos : List Int} {a e : Int} (h0 : 0 ≤ a) (h1 : a ≤ e) (h2 : e < pos.length) : (((pos.drop a.toNat).take ((e + 1).toNat - a.toNat)).length : Int) = e + 1 - a := by
  simp only [List.length_take, List.length_drop]; omega
theorem part_mem {pos : List Int} {a e : Int} {p : Int} (h : p ∈ (pos.drop a.toNat).take ((e + 1).toNat - a.toNat)) : p ∈ pos := List.mem_of_mem_drop (List.mem_of_mem_take h)
theorem headD_mem {l : List Int} (h : 0 < (l.length : Int)) : l.headD 0 ∈ l := by cases l with | nil => simp at h | cons a l => simp
theorem minL_bd {l : List Int} {lo hi : Int} (h : 0 < (l.length : Int)) (hl : ∀ p ∈ l, lo ≤ p ∧ p ≤ hi) : lo ≤ minL l ∧ minL l ≤ hi := by
  unfold minL; have := hl _ (headD_mem h); exact foldl_bd min (fun x y => by omega) lo hi l _ this.1 this.2 hl
theorem maxL_bd {l : List Int} {lo hi : Int} (h : 0 < (l.length : Int)) (hl : ∀ p ∈ l, lo ≤ p ∧ p ≤ hi) : lo ≤ maxL l ∧ maxL l ≤ hi := by
  unfold maxL; have := hl _ (headD_mem h); exact foldl_bd max (fun x y => by omega) lo hi l _ this.1 this.2 hl
theorem behind_bd {l : List Int} {d lo hi : Int} (h : 0 < (l.length : Int)) (hl : ∀ p ∈ l, lo ≤ p ∧ p ≤ hi) : lo - hi ≤ behind l d ∧ behind l d ≤ hi - lo := by
  have h1 := minL_bd h hl
  have h2 := maxL_bd h hl
  have h3 := hl _ (headD_mem h)
  unfold behind
  split <;> omega
theorem preB39 {p : Prop} (h : p := by first | with_reducible assumption | omega | (simp only [List.length_append, List.length_cons, List.length_nil, List.length_set, List.length_replicate, List.length_take, List.length_drop, List.length_tail, List.length_dropLast, List.length_reverse] at *; omega) | exact mem_len (by assumption) (by omega) | (with_reducible refine Int.le_trans (Int.ofNat_le.2 (trimR_len _)) ?_; simp only [List.length_cons, List.length_tail]; omega) | (exact (ruAt_ok (by assumption) (by assumption) (by assumption)).2.1) | (exact (ruAt_ok (by assumption) (by assumption) (by assumption)).2.1) | (have := vMach_bd (by assumption); omega) | (simp only [mC_ch, mC_tu]; omega) | (with_reducible refine Int.le_trans (Int.ofNat_le.2 (pushL_len _ _)) ?_; simp only [List.length_dropLast]; omega) | exact (ask_ok (by assumption)).1 | exact (ask_ok (by assumption)).2.1 | exact (ask_ok (by assumption)).2.2.1 | exact (ask_ok (by assumption)).2.2.2 | trivial) : p := h
theorem behindPart_ok (pos : List Int) (a e d : Int) (h0 : 0 ≤ a) (h1 : a ≤ e) (h2 : e < pos.length) (h3 : (pos.length : Int) ≤ 20001) (hb : ∀ p ∈ pos, -20001 ≤ p ∧ p ≤ 20001) : Does Try.prog 78 [.one (shI ((pos.drop a.toNat).take ((e + 1).toNat - a.toNat))), .one (int d)] [] (.one (int (behind ((pos.drop a.toNat).take ((e + 1).toNat - a.toNat)) d))) [] := by
  have hl := part_len h0 h1 h2
  have hb' : ∀ p ∈ (pos.drop a.toNat).take ((e + 1).toNat - a.toNat), -20001 ≤ p ∧ p ≤ 20001 := fun p hp => hb p (part_mem hp)
  have k1 := minL_bd (by omega) hb'
  have k2 := maxL_bd (by omega) hb'
  have k3 := hb' _ (headD_mem (by omega))
  exact behindHead_ok _ d (by omega) (by omega) (by omega) (by omega) (by omega) (by omega) (by omega) (by omega)
theorem shiftTo_ok (x : Qk) (k : Int) (h0 : 0 ≤ k) (hk : k < x.rcs.length) (hq : QInv x) : Does Try.prog 82 [.one (.gv 0), .one (int k)] [qkBx 1 2 x, .sh 1 (rows eI x.pos), .sh 5 (rows eQ x.rcs)] (.tup [(true, prO (prfOf x.pos (x.rcs[k.toNat]'(by omega)) (fndA x.pos x.rcs (x.rcs[k.toNat]'(by omega)) k.toNat)) 3 4), (false, [boo (fndA x.pos x.rcs (x.rcs[k.toNat]'(by omega)) k.toNat).isSome])]) [qkBx 1 2 x, .sh 1 (rows eI x.pos), .sh 5 (rows eQ x.rcs), roI (prfOf x.pos (x.rcs[k.toNat]'(by omega)) (fndA x.pos x.rcs (x.rcs[k.toNat]'(by omega)) k.toNat)).nu, roW (prfOf x.pos (x.rcs[k.toNat]'(by omega)) (fndA x.pos x.rcs (x.rcs[k.toNat]'(by omega)) k.toNat)).wo] := by
  have hl1 := hq.len
  have hl2 := hq.rlen
  have hlo := hq.lo
  have hhi := hq.hi
  have hb : ∀ p ∈ x.pos, -20001 ≤ p ∧ p ≤ 20001 := fun p hp => by have := hq.bd p hp; omega
  have hk' : k.toNat < x.rcs.length := by omega
  have hr := hq.rc _ (List.getElem_mem hk')
  obtain ⟨e, he⟩ : ∃ e, e = x.rcs[k.toNat]'hk' := ⟨_, rfl⟩
  have hee : ∀ h, x.rcs[k.toNat]'h = e := fun h => he.symm
  rw [← he] at hr
  simp only [hee]
  refine does_of (k := 3) Try.func82 rfl Try.ntmps82 rfl rfl fun w F0 S0 ρ0 => ?_
  dsimp only [argT, argH]
  repeat' first
    | refine g_seq ?_
    | refine g_skip ?_
    | refine g_exit ?_
    | refine g_block ?_
    | refine g_reg ?_
    | refine g_if_t rfl ?_
    | refine g_if_f rfl ?_
    | refine o_nil ?_
    | refine q_s ?_
    | refine q_se ?_
    | refine q_b ?_
    | refine q_be rfl ?_
    | refine q_bn rfl ?_
    | refine q_le ?_
    | refine q_ce ?_
    | (apply n3; (first | exact a_new (gb := .bx _) rfl | exact a_litE eI [_, _, _] rfl rfl rfl rfl rfl rfl rfl rfl); exact rfl; (try dsimp only [List.map_cons, List.map_nil, scC, Nat.reduceAdd]))
    | (apply p3; (first | exact pu1 | exact puL | exact a_sub rfl rfl (by omega) (by omega) | exact puC | exact a_ne rfl rfl | exact a_neS rfl rfl rfl | exact puI); exact rfl)
    | (apply w3; (first | exact a_st_bx rfl rfl rfl rfl (fN rfl rfl) (Nat.le_of_ble_eq_true rfl) rfl | exact a_stE (E := eQ) ⟨_, _, ⟨_, _, _⟩⟩ rfl rfl rfl rfl (fN rfl rfl) bnd (by exact rfl) | exact a_stF (E := eQ) ⟨_, _, ⟨_, _, _⟩⟩ rfl rfl rfl rfl (fN rfl rfl) (Nat.le_of_ble_eq_true rfl) (Nat.le_of_ble_eq_true rfl) (by first | exact List.getElem?_set_self bnd | exact List.getElem?_eq_getElem bnd) (by (try dsimp only [setRow, List.set_cons_succ, List.set_cons_zero]); first | done | exact rfl) rfl); exact rfl; (try dsimp only [setRow, List.map_cons, List.map_nil, scC, List.set_cons_zero, List.set_cons_succ, List.take_succ_cons, List.take_zero, List.drop_succ_cons, List.drop_zero, Nat.reduceAdd]))
    | refine o_no rfl rfl rfl rfl ?_
    | refine o_noN rfl rfl rfl ?_
    | (apply py3; exact rfl; exact rfl; (first | exact pu1 | exact puL | exact a_sub rfl rfl (by omega) (by omega) | exact puC | exact a_ne rfl rfl | exact a_neS rfl rfl rfl | exact puI); exact rfl; exact rfl)
    | (apply ny3; exact rfl; exact rfl; (first | exact a_new (gb := .bx _) rfl | exact a_litE eI [_, _, _] rfl rfl rfl rfl rfl rfl rfl rfl); exact rfl; exact rfl)
    | (apply g_drN (id := 7) okM [[], [0], [0, 1], [0, 1, 2], [0, 1, 2, 3], [], [5], [0, 1, 2, 3, 4, 5, 6], [0, 1, 2, 3, 4, 5, 6, 7], [], [9], [9, 10], [9, 10, 11], [9, 10, 11, 12], [], [14], [9, 10, 11, 12, 13, 14, 15], [9, 10, 11, 12, 13, 14, 15, 16], [0, 1, 2, 3, 4, 5, 6, 7, 8, 9, 10, 11, 12, 13, 14, 15, 16, 17], [0, 1, 2, 3, 4, 5, 6, 7, 8, 9, 10, 11, 12, 13, 14, 15, 16, 17, 18]] [([], []), ([], []), ([], []), ([], []), ([], []), ([], []), ([], []), ([], []), ([], []), ([], []), ([], []), ([], []), ([], []), ([], []), ([], []), ([], []), ([], []), ([], []), ([], []), ([], [])] 0; (focus (all_goals refine dp 0 0 [51, 52, 55, 56, 57, 58, 59, 60, 61, 62, 63] [] pu1 ?_; all_goals refine dp 1 1 [51, 52, 55, 56, 57, 58, 59, 60, 61, 62, 63] [] (a_pure (sv := .one _) rfl) ?_; all_goals refine dp 2 3 [51, 52, 55, 56, 57, 58, 59, 60, 61, 62, 63] [] (a_pure (sv := .one _) rfl) ?_; all_goals refine dp 3 7 [51, 52, 55, 56, 57, 58, 59, 60, 61, 62, 63] [] (a_pure (sv := .one _) rfl) ?_; all_goals refine dp 4 15 [51, 52, 55, 56, 57, 58, 59, 60, 61, 62, 63] [] puL ?_; all_goals refine dp 5 0 [46, 47, 48, 49, 50, 55, 56, 57, 58, 59, 60, 61, 62, 63] [] (a_pure (sv := .one _) rfl) ?_; all_goals refine dp 6 1 [46, 47, 48, 49, 50, 55, 56, 57, 58, 59, 60, 61, 62, 63] [] puL ?_; all_goals refine dp 7 127 [55, 56, 57, 58, 59, 60, 61, 62, 63] [] puI ?_; all_goals refine dp 8 255 [55, 56, 57, 58, 59, 60, 61, 62, 63] [] puL ?_; all_goals refine dp 9 0 [46, 47, 48, 49, 50, 51, 52, 53, 54, 60, 61] [] pu1 ?_; all_goals refine dp 10 1 [46, 47, 48, 49, 50, 51, 52, 53, 54, 60, 61] [] (a_pure (sv := .one _) rfl) ?_; all_goals refine dp 11 3 [46, 47, 48, 49, 50, 51, 52, 53, 54, 60, 61] [] (a_pure (sv := .one _) rfl) ?_; all_goals refine dp 12 7 [46, 47, 48, 49, 50, 51, 52, 53, 54, 60, 61] [] (a_pure (sv := .one _) rfl) ?_; all_goals refine dp 13 15 [46, 47, 48, 49, 50, 51, 52, 53, 54, 60, 61] [] puL ?_; all_goals refine dp 14 0 [46, 47, 48, 49, 50, 51, 52, 53, 54, 55, 56, 57, 58, 59] [] (a_pure (sv := .one _) rfl) ?_; all_goals refine dp 15 1 [46, 47, 48, 49, 50, 51, 52, 53, 54, 55, 56, 57, 58, 59] [] puL ?_; all_goals refine dp 16 127 [46, 47, 48, 49, 50, 51, 52, 53, 54] [] puI ?_; all_goals refine dp 17 255 [46, 47, 48, 49, 50, 51, 52, 53, 54] [] puL ?_; all_goals refine dp 18 262143 [] [] (a_sub rfl rfl (by omega) (by omega)) ?_; all_goals refine dp 19 524287 [] [] pu1 ?_; all_goals (refine d_nil ?_; dsimp only [selT, selH, trues, SV.ren, C.ren, C.ren.all, tRen, GB.ren, calF, upOf, List.cons_append, List.nil_append, Nat.reduceAdd, setRow, List.map_cons, List.map_nil, scC, List.set_cons_zero, List.set_cons_succ, List.take_succ_cons, List.take_zero, List.drop_succ_cons, List.drop_zero]))); any_goals kernel_rfl)
    | (apply g_drN (id := 8) okM [[], [0], [], [2], [], [], [5], [5, 6], [5, 6, 7], [5, 6, 7, 8], [], [10], [], [12], [12, 13], [5, 6, 7, 8, 9, 10, 11, 12, 13, 14], [], [5, 6, 7, 8, 9, 10, 11, 12, 13, 14, 15, 16], [0, 1, 2, 3, 4, 5, 6, 7, 8, 9, 10, 11, 12, 13, 14, 15, 16, 17]] [([], []), ([], []), ([], []), ([], []), ([], []), ([], []), ([], []), ([], []), ([], []), ([], []), ([], []), ([], []), ([], []), ([], []), ([], []), ([], []), ([], []), ([], []), ([], [])] 0; (focus (all_goals refine dp 0 0 [67, 68, 69, 70, 71, 72, 73, 74, 75, 76, 77, 78, 79, 80, 81, 82] [] (a_pure (sv := .one _) rfl) ?_; all_goals refine dp 1 1 [67, 68, 69, 70, 71, 72, 73, 74, 75, 76, 77, 78, 79, 80, 81, 82] [] puL ?_; all_goals refine dp 2 0 [65, 66, 69, 70, 71, 72, 73, 74, 75, 76, 77, 78, 79, 80, 81, 82] [] (a_pure (sv := .one _) rfl) ?_; all_goals refine dp 3 1 [65, 66, 69, 70, 71, 72, 73, 74, 75, 76, 77, 78, 79, 80, 81, 82] [] puL ?_; all_goals refine dp 4 0 [65, 66, 67, 68, 70, 71, 72, 73, 74, 75, 76, 77, 78, 79, 80, 81, 82] [] pu1 ?_; all_goals refine dp 5 0 [65, 66, 67, 68, 69, 75, 76, 77, 78, 79, 81] [] pu1 ?_; all_goals refine dp 6 1 [65, 66, 67, 68, 69, 75, 76, 77, 78, 79, 81] [] (a_pure (sv := .one _) rfl) ?_; all_goals refine dp 7 3 [65, 66, 67, 68, 69, 75, 76, 77, 78, 79, 81] [] (a_pure (sv := .one _) rfl) ?_; all_goals refine dp 8 7 [65, 66, 67, 68, 69, 75, 76, 77, 78, 79, 81] [] (a_pure (sv := .one _) rfl) ?_; all_goals refine dp 9 15 [65, 66, 67, 68, 69, 75, 76, 77, 78, 79, 81] [] puL ?_; all_goals refine dp 10 0 [65, 66, 67, 68, 69, 70, 71, 72, 73, 74, 77, 78, 79, 81] [] (a_pure (sv := .one _) rfl) ?_; all_goals refine dp 11 1 [65, 66, 67, 68, 69, 70, 71, 72, 73, 74, 77, 78, 79, 81] [] puL ?_; all_goals refine dp 12 0 [65, 66, 67, 68, 69, 70, 71, 72, 73, 74, 75, 76, 81] [] (a_pure (sv := .one _) rfl) ?_; all_goals refine dp 13 1 [65, 66, 67, 68, 69, 70, 71, 72, 73, 74, 75, 76, 81] [] puL ?_; all_goals refine dp 14 3 [65, 66, 67, 68, 69, 70, 71, 72, 73, 74, 75, 76, 81] [] (a_add rfl rfl (by omega) (by omega)) ?_; all_goals refine dp 15 1023 [65, 66, 67, 68, 69, 81] [] (a_slM rfl rfl rfl rfl (fS rfl) (by omega) (by omega) (by omega) (by exact rfl)) ?_; all_goals refine dp 16 0 [65, 66, 67, 68, 69, 70, 71, 72, 73, 74, 75, 76, 77, 78, 79, 80] [] pu1 ?_; all_goals refine dp 17 4095 [65, 66, 67, 68, 69] [] (callD1 (n := _) 0 (θ := []) (hD := (behindPart_ok _ _ _ _ preB39 preB39 preB39 preB39 preB39))) ?_; all_goals refine dp 18 262143 [] [] (callD1 (n := _) 0 (θ := []) (hD := (shiftFits_ok _ _ _ _ preB39 preB39 preB39 preB39 preB39 preB39))) ?_; all_goals (refine d_nil ?_; dsimp only [selT, selH, trues, SV.ren, C.ren, C.ren.all, tRen, GB.ren, calF, upOf, List.cons_append, List.nil_append, Nat.reduceAdd, setRow, List.map_cons, List.map_nil, scC, List.set_cons_zero, List.set_cons_succ, List.take_succ_cons, List.take_zero, List.drop_succ_cons, List.drop_zero]))); any_goals kernel_rfl)
    | (refine o_gs rfl rfl (fun hc => ?_) (fun hc => ?_) <;> (try simp only [decide_eq_true_eq, decide_eq_false_iff_not, Bool.not_eq_true', Bool.not_eq_false', Bool.not_eq_true, Bool.not_eq_false, Bool.and_eq_true, Bool.or_eq_false_iff, Bool.not_not] at hc) <;> (try (first | contradiction | (exfalso; omega))))
    | (refine g_cond rfl (fun hc => ?_) (fun hc => ?_) <;> (try simp only [decide_eq_true_eq, decide_eq_false_iff_not, Bool.not_eq_true', Bool.not_eq_false', Bool.not_eq_true, Bool.not_eq_false, Bool.and_eq_true, Bool.or_eq_false_iff, Bool.not_not] at hc) <;> (try (first | contradiction | (exfalso; omega))))
  simp only [hee]
  refine g_loop_id ?_
  refine loopK [0, 4, 5, 6] [] (fun i : Int => -1 ≤ i ∧ i < k ∧ fndA x.pos x.rcs e (i + 1).toNat = fndA x.pos x.rcs e k.toNat) (fun i => [(7, .one (int i))]) (fun _ => []) (fun i => (i + 1).toNat) (k - 1) [0, 1, 2, 3, 4] (hI := ?_) (hr := ?_)
  · exact ⟨by omega, by omega, by congr 1; omega⟩
  · rintro i ⟨i1, i2, i3⟩
    dsimp only [List.cons_append, List.nil_append] at *
    try dsimp only [qkBx]
    skip
    repeat' first
      | refine g_seq ?_
      | refine g_skip ?_
      | refine g_exit ?_
      | refine g_block ?_
      | refine g_reg (id := 3) ?_
      | refine g_reg (id := 10) ?_
      | refine g_if_t rfl ?_
      | refine g_if_f rfl ?_
      | refine o_nil ?_
      | refine q_s ?_
      | refine q_se ?_
      | refine q_b ?_
      | refine q_be rfl ?_
      | refine q_bn rfl ?_
      | refine q_le ?_
      | refine q_ce ?_
      | (apply p3; (first | exact pu1 | exact puC); exact rfl)
      | (apply w3; (first | exact a_st_bx rfl rfl rfl rfl (fN rfl rfl) (Nat.le_of_ble_eq_true rfl) rfl | exact a_stF (E := eQ) ⟨_, _, ⟨_, _, _⟩⟩ rfl rfl rfl rfl (fN rfl rfl) (Nat.le_of_ble_eq_true rfl) (Nat.le_of_ble_eq_true rfl) (by first | exact List.getElem?_set_self bnd | exact List.getElem?_eq_getElem bnd) (by (try dsimp only [setRow, List.set_cons_succ, List.set_cons_zero]); first | done | exact rfl) rfl); exact rfl; (try dsimp only [setRow, List.map_cons, List.map_nil, scC, List.set_cons_zero, List.set_cons_succ, List.take_succ_cons, List.take_zero, List.drop_succ_cons, List.drop_zero, Nat.reduceAdd]))
      | (refine o_gs rfl rfl (fun hc => ?_) (fun hc => ?_) <;> (try simp only [decide_eq_true_eq, decide_eq_false_iff_not, Bool.not_eq_true', Bool.not_eq_false', Bool.not_eq_true, Bool.not_eq_false, Bool.and_eq_true, Bool.or_eq_false_iff, Bool.not_not] at hc) <;> (try (first | contradiction | (exfalso; omega))))
      | (refine g_cond rfl (fun hc => ?_) (fun hc => ?_) <;> (try simp only [decide_eq_true_eq, decide_eq_false_iff_not, Bool.not_eq_true', Bool.not_eq_false', Bool.not_eq_true, Bool.not_eq_false, Bool.and_eq_true, Bool.or_eq_false_iff, Bool.not_not] at hc) <;> (try (first | contradiction | (exfalso; omega))))
    · have hi' : i.toNat < x.rcs.length := by omega
      have ha := hq.rc _ (List.getElem_mem hi')
      have hpw := List.pairwise_iff_getElem.1 hq.pw i.toNat k.toNat hi' hk' (by omega)
      rw [← he] at hpw
      rw [fndA_s (by omega) hi'] at i3
      obtain ⟨a, hae⟩ : ∃ a, a = x.rcs[i.toNat]'hi' := ⟨_, rfl⟩
      have haa : ∀ h, x.rcs[i.toNat]'h = a := fun h => hae.symm
      rw [← hae] at hpw ha i3
      have g1 : ∀ h, x.pos[e.n.toNat]'h = posAt x.pos e.n := fun h => posAt_get h
      have g2 : ∀ h, x.pos[a.n.toNat]'h = posAt x.pos a.n := fun h => posAt_get h
      have b1 := hb _ (posAt_mem hr.1.1 hr.1.2)
      have b2 := hb _ (posAt_mem ha.1.1 ha.1.2)
      rw [← g1 (by omega)] at b1
      rw [← g2 (by omega)] at b2
      have b3 := behind_bd (l := (x.pos.drop a.n.toNat).take ((e.n + 1).toNat - a.n.toNat)) (d := x.pos[e.n.toNat]'(by omega) - x.pos[a.n.toNat]'(by omega)) (by rw [part_len (by omega) (by omega) (by omega)]; omega) fun p hp => hb p (part_mem hp)
      repeat' first
        | refine g_seq ?_
        | refine g_skip ?_
        | refine g_exit ?_
        | refine g_block ?_
        | refine g_reg (id := 3) ?_
        | refine g_reg (id := 5) ?_
        | refine g_reg (id := 10) ?_
        | refine g_if_t rfl ?_
        | refine g_if_f rfl ?_
        | refine o_nil ?_
        | refine q_s ?_
        | refine q_se ?_
        | refine q_b ?_
        | refine q_be rfl ?_
        | refine q_bn rfl ?_
        | refine q_le ?_
        | refine q_ce ?_
        | (apply n3; exact a_new (gb := .bx _) rfl; exact rfl; (try dsimp only [List.map_cons, List.map_nil, scC, Nat.reduceAdd]))
        | (apply p3; (first | exact pu1 | exact puL | exact puC | exact puI); exact rfl)
        | (apply w3; (first | exact a_st_bx rfl rfl rfl rfl (fN rfl rfl) (Nat.le_of_ble_eq_true rfl) rfl | exact a_stE (E := eQ) ⟨_, _, ⟨_, _, _⟩⟩ rfl rfl rfl rfl (fN rfl rfl) bnd (by exact rfl) | exact a_stF (E := eQ) ⟨_, _, ⟨_, _, _⟩⟩ rfl rfl rfl rfl (fN rfl rfl) (Nat.le_of_ble_eq_true rfl) (Nat.le_of_ble_eq_true rfl) (by first | exact List.getElem?_set_self bnd | exact List.getElem?_eq_getElem bnd) (by (try dsimp only [setRow, List.set_cons_succ, List.set_cons_zero]); first | done | exact rfl) rfl); exact rfl; (try dsimp only [setRow, List.map_cons, List.map_nil, scC, List.set_cons_zero, List.set_cons_succ, List.take_succ_cons, List.take_zero, List.drop_succ_cons, List.drop_zero, Nat.reduceAdd]))
        | (refine o_gs rfl rfl (fun hc => ?_) (fun hc => ?_) <;> (try simp only [decide_eq_true_eq, decide_eq_false_iff_not, Bool.not_eq_true', Bool.not_eq_false', Bool.not_eq_true, Bool.not_eq_false, Bool.and_eq_true, Bool.or_eq_false_iff, Bool.not_not] at hc) <;> (try (first | contradiction | (exfalso; omega))))
        | (refine g_cond rfl (fun hc => ?_) (fun hc => ?_) <;> (try simp only [decide_eq_true_eq, decide_eq_false_iff_not, Bool.not_eq_true', Bool.not_eq_false', Bool.not_eq_true, Bool.not_eq_false, Bool.and_eq_true, Bool.or_eq_false_iff, Bool.not_not] at hc) <;> (try (first | contradiction | (exfalso; omega))))
      simp only [haa]
      repeat' first
        | refine g_seq ?_
        | refine g_skip ?_
        | refine g_exit ?_
        | refine g_block ?_
        | refine g_reg (id := 3) ?_
        | refine g_reg (id := 5) ?_
        | refine g_reg (id := 6) ?_
        | refine g_reg (id := 10) ?_
        | refine g_if_t rfl ?_
        | refine g_if_f rfl ?_
        | refine o_nil ?_
        | refine q_s ?_
        | refine q_se ?_
        | refine q_b ?_
        | refine q_be rfl ?_
        | refine q_bn rfl ?_
        | refine q_le ?_
        | refine q_ce ?_
        | (apply n3; exact a_new (gb := .bx _) rfl; exact rfl; (try dsimp only [List.map_cons, List.map_nil, scC, Nat.reduceAdd]))
        | (apply p3; (first | exact pu1 | exact puL | exact puC | exact a_ne rfl rfl | exact a_neS rfl rfl rfl | exact puI); exact rfl)
        | (apply w3; (first | exact a_st_bx rfl rfl rfl rfl (fN rfl rfl) (Nat.le_of_ble_eq_true rfl) rfl | exact a_stE (E := eQ) ⟨_, _, ⟨_, _, _⟩⟩ rfl rfl rfl rfl (fN rfl rfl) bnd (by exact rfl) | exact a_stF (E := eQ) ⟨_, _, ⟨_, _, _⟩⟩ rfl rfl rfl rfl (fN rfl rfl) (Nat.le_of_ble_eq_true rfl) (Nat.le_of_ble_eq_true rfl) (by first | exact List.getElem?_set_self bnd | exact List.getElem?_eq_getElem bnd) (by (try dsimp only [setRow, List.set_cons_succ, List.set_cons_zero]); first | done | exact rfl) rfl); exact rfl; (try dsimp only [setRow, List.map_cons, List.map_nil, scC, List.set_cons_zero, List.set_cons_succ, List.take_succ_cons, List.take_zero, List.drop_succ_cons, List.drop_zero, Nat.reduceAdd]))
        | refine o_no rfl rfl rfl rfl ?_
        | refine o_noN rfl rfl rfl ?_
        | (apply py3; exact rfl; exact rfl; (first | exact pu1 | exact puL | exact puC | exact a_ne rfl rfl | exact a_neS rfl rfl rfl | exact puI); exact rfl; exact rfl)
        | (apply ny3; exact rfl; exact rfl; exact a_new (gb := .bx _) rfl; exact rfl; exact rfl)
        | (apply g_drN (id := 7) okM [[], [0], [0, 1], [0, 1, 2], [0, 1, 2, 3], [], [5], [0, 1, 2, 3, 4, 5, 6], [0, 1, 2, 3, 4, 5, 6, 7], [], [9], [9, 10], [9, 10, 11], [9, 10, 11, 12], [], [14], [9, 10, 11, 12, 13, 14, 15], [9, 10, 11, 12, 13, 14, 15, 16], [0, 1, 2, 3, 4, 5, 6, 7, 8, 9, 10, 11, 12, 13, 14, 15, 16, 17], [0, 1, 2, 3, 4, 5, 6, 7, 8, 9, 10, 11, 12, 13, 14, 15, 16, 17, 18]] [([], []), ([], []), ([], []), ([], []), ([], []), ([], []), ([], []), ([], []), ([], []), ([], []), ([], []), ([], []), ([], []), ([], []), ([], []), ([], []), ([], []), ([], []), ([], []), ([], [])] 0; (focus (all_goals refine dp 0 0 [51, 52, 55, 56, 57, 58, 59, 60, 61, 62, 63] [] pu1 ?_; all_goals refine dp 1 1 [51, 52, 55, 56, 57, 58, 59, 60, 61, 62, 63] [] (a_pure (sv := .one _) rfl) ?_; all_goals refine dp 2 3 [51, 52, 55, 56, 57, 58, 59, 60, 61, 62, 63] [] (a_pure (sv := .one _) rfl) ?_; all_goals refine dp 3 7 [51, 52, 55, 56, 57, 58, 59, 60, 61, 62, 63] [] (a_pure (sv := .one _) rfl) ?_; all_goals refine dp 4 15 [51, 52, 55, 56, 57, 58, 59, 60, 61, 62, 63] [] puL ?_; all_goals refine dp 5 0 [46, 47, 48, 49, 50, 55, 56, 57, 58, 59, 60, 61, 62, 63] [] (a_pure (sv := .one _) rfl) ?_; all_goals refine dp 6 1 [46, 47, 48, 49, 50, 55, 56, 57, 58, 59, 60, 61, 62, 63] [] puL ?_; all_goals refine dp 7 127 [55, 56, 57, 58, 59, 60, 61, 62, 63] [] puI ?_; all_goals refine dp 8 255 [55, 56, 57, 58, 59, 60, 61, 62, 63] [] puL ?_; all_goals refine dp 9 0 [46, 47, 48, 49, 50, 51, 52, 53, 54, 60, 61] [] pu1 ?_; all_goals refine dp 10 1 [46, 47, 48, 49, 50, 51, 52, 53, 54, 60, 61] [] (a_pure (sv := .one _) rfl) ?_; all_goals refine dp 11 3 [46, 47, 48, 49, 50, 51, 52, 53, 54, 60, 61] [] (a_pure (sv := .one _) rfl) ?_; all_goals refine dp 12 7 [46, 47, 48, 49, 50, 51, 52, 53, 54, 60, 61] [] (a_pure (sv := .one _) rfl) ?_; all_goals refine dp 13 15 [46, 47, 48, 49, 50, 51, 52, 53, 54, 60, 61] [] puL ?_; all_goals refine dp 14 0 [46, 47, 48, 49, 50, 51, 52, 53, 54, 55, 56, 57, 58, 59] [] (a_pure (sv := .one _) rfl) ?_; all_goals refine dp 15 1 [46, 47, 48, 49, 50, 51, 52, 53, 54, 55, 56, 57, 58, 59] [] puL ?_; all_goals refine dp 16 127 [46, 47, 48, 49, 50, 51, 52, 53, 54] [] puI ?_; all_goals refine dp 17 255 [46, 47, 48, 49, 50, 51, 52, 53, 54] [] puL ?_; all_goals refine dp 18 262143 [] [] (a_sub rfl rfl (by omega) (by omega)) ?_; all_goals refine dp 19 524287 [] [] pu1 ?_; all_goals (refine d_nil ?_; dsimp only [selT, selH, trues, SV.ren, C.ren, C.ren.all, tRen, GB.ren, calF, upOf, List.cons_append, List.nil_append, Nat.reduceAdd, setRow, List.map_cons, List.map_nil, scC, List.set_cons_zero, List.set_cons_succ, List.take_succ_cons, List.take_zero, List.drop_succ_cons, List.drop_zero]))); any_goals kernel_rfl)
        | (apply g_drN (id := 8) okM [[], [0], [], [2], [], [], [5], [5, 6], [5, 6, 7], [5, 6, 7, 8], [], [10], [], [12], [12, 13], [5, 6, 7, 8, 9, 10, 11, 12, 13, 14], [], [5, 6, 7, 8, 9, 10, 11, 12, 13, 14, 15, 16], [0, 1, 2, 3, 4, 5, 6, 7, 8, 9, 10, 11, 12, 13, 14, 15, 16, 17]] [([], []), ([], []), ([], []), ([], []), ([], []), ([], []), ([], []), ([], []), ([], []), ([], []), ([], []), ([], []), ([], []), ([], []), ([], []), ([], []), ([], []), ([], []), ([], [])] 0; (focus (all_goals refine dp 0 0 [67, 68, 69, 70, 71, 72, 73, 74, 75, 76, 77, 78, 79, 80, 81, 82] [] (a_pure (sv := .one _) rfl) ?_; all_goals refine dp 1 1 [67, 68, 69, 70, 71, 72, 73, 74, 75, 76, 77, 78, 79, 80, 81, 82] [] puL ?_; all_goals refine dp 2 0 [65, 66, 69, 70, 71, 72, 73, 74, 75, 76, 77, 78, 79, 80, 81, 82] [] (a_pure (sv := .one _) rfl) ?_; all_goals refine dp 3 1 [65, 66, 69, 70, 71, 72, 73, 74, 75, 76, 77, 78, 79, 80, 81, 82] [] puL ?_; all_goals refine dp 4 0 [65, 66, 67, 68, 70, 71, 72, 73, 74, 75, 76, 77, 78, 79, 80, 81, 82] [] pu1 ?_; all_goals refine dp 5 0 [65, 66, 67, 68, 69, 75, 76, 77, 78, 79, 81] [] pu1 ?_; all_goals refine dp 6 1 [65, 66, 67, 68, 69, 75, 76, 77, 78, 79, 81] [] (a_pure (sv := .one _) rfl) ?_; all_goals refine dp 7 3 [65, 66, 67, 68, 69, 75, 76, 77, 78, 79, 81] [] (a_pure (sv := .one _) rfl) ?_; all_goals refine dp 8 7 [65, 66, 67, 68, 69, 75, 76, 77, 78, 79, 81] [] (a_pure (sv := .one _) rfl) ?_; all_goals refine dp 9 15 [65, 66, 67, 68, 69, 75, 76, 77, 78, 79, 81] [] puL ?_; all_goals refine dp 10 0 [65, 66, 67, 68, 69, 70, 71, 72, 73, 74, 77, 78, 79, 81] [] (a_pure (sv := .one _) rfl) ?_; all_goals refine dp 11 1 [65, 66, 67, 68, 69, 70, 71, 72, 73, 74, 77, 78, 79, 81] [] puL ?_; all_goals refine dp 12 0 [65, 66, 67, 68, 69, 70, 71, 72, 73, 74, 75, 76, 81] [] (a_pure (sv := .one _) rfl) ?_; all_goals refine dp 13 1 [65, 66, 67, 68, 69, 70, 71, 72, 73, 74, 75, 76, 81] [] puL ?_; all_goals refine dp 14 3 [65, 66, 67, 68, 69, 70, 71, 72, 73, 74, 75, 76, 81] [] (a_add rfl rfl (by omega) (by omega)) ?_; all_goals refine dp 15 1023 [65, 66, 67, 68, 69, 81] [] (a_slM rfl rfl rfl rfl (fS rfl) (by omega) (by omega) (by omega) (by exact rfl)) ?_; all_goals refine dp 16 0 [65, 66, 67, 68, 69, 70, 71, 72, 73, 74, 75, 76, 77, 78, 79, 80] [] pu1 ?_; all_goals refine dp 17 4095 [65, 66, 67, 68, 69] [] (callD1 (n := _) 0 (θ := []) (hD := (behindPart_ok _ _ _ _ preB39 preB39 preB39 preB39 preB39))) ?_; all_goals refine dp 18 262143 [] [] (callD1 (n := _) 0 (θ := []) (hD := (shiftFits_ok _ _ _ _ preB39 preB39 preB39 preB39 preB39 preB39))) ?_; all_goals (refine d_nil ?_; dsimp only [selT, selH, trues, SV.ren, C.ren, C.ren.all, tRen, GB.ren, calF, upOf, List.cons_append, List.nil_append, Nat.reduceAdd, setRow, List.map_cons, List.map_nil, scC, List.set_cons_zero, List.set_cons_succ, List.take_succ_cons, List.take_zero, List.drop_succ_cons, List.drop_zero]))); any_goals kernel_rfl)
        | (refine o_gs rfl rfl (fun hc => ?_) (fun hc => ?_) <;> (try simp only [decide_eq_true_eq, decide_eq_false_iff_not, Bool.not_eq_true', Bool.not_eq_false', Bool.not_eq_true, Bool.not_eq_false, Bool.and_eq_true, Bool.or_eq_false_iff, Bool.not_not] at hc) <;> (try (first | contradiction | (exfalso; omega))))
        | (refine g_cond rfl (fun hc => ?_) (fun hc => ?_) <;> (try simp only [decide_eq_true_eq, decide_eq_false_iff_not, Bool.not_eq_true', Bool.not_eq_false', Bool.not_eq_true, Bool.not_eq_false, Bool.and_eq_true, Bool.or_eq_false_iff, Bool.not_not] at hc) <;> (try (first | contradiction | (exfalso; omega))))
      · have hh : hitS x.pos a e = false := by unfold hitS; rw [decide_eq_false hc]; rfl
        repeat' first
          | refine g_seq ?_
          | refine g_skip ?_
          | refine g_exit ?_
          | refine g_block ?_
          | refine g_reg ?_
          | refine g_if_t rfl ?_
          | refine g_if_f rfl ?_
          | refine o_nil ?_
          | refine q_s ?_
          | refine q_se ?_
          | refine q_b ?_
          | refine q_be rfl ?_
          | refine q_bn rfl ?_
          | refine q_le ?_
          | refine q_ce ?_
          | (apply n3; (first | exact a_new (gb := .bx _) rfl | exact a_litE eI [_, _, _] rfl rfl rfl rfl rfl rfl rfl rfl); exact rfl; (try dsimp only [List.map_cons, List.map_nil, scC, Nat.reduceAdd]))
          | (apply p3; (first | exact pu1 | exact puL | exact puC | exact a_ne rfl rfl | exact a_neS rfl rfl rfl | exact a_sub rfl rfl (by omega) (by omega) | exact puI); exact rfl)
          | (apply w3; (first | exact a_st_bx rfl rfl rfl rfl (fN rfl rfl) (Nat.le_of_ble_eq_true rfl) rfl | exact a_stE (E := eQ) ⟨_, _, ⟨_, _, _⟩⟩ rfl rfl rfl rfl (fN rfl rfl) bnd (by exact rfl) | exact a_stF (E := eQ) ⟨_, _, ⟨_, _, _⟩⟩ rfl rfl rfl rfl (fN rfl rfl) (Nat.le_of_ble_eq_true rfl) (Nat.le_of_ble_eq_true rfl) (by first | exact List.getElem?_set_self bnd | exact List.getElem?_eq_getElem bnd) (by (try dsimp only [setRow, List.set_cons_succ, List.set_cons_zero]); first | done | exact rfl) rfl); exact rfl; (try dsimp only [setRow, List.map_cons, List.map_nil, scC, List.set_cons_zero, List.set_cons_succ, List.take_succ_cons, List.take_zero, List.drop_succ_cons, List.drop_zero, Nat.reduceAdd]))
          | refine o_no rfl rfl rfl rfl ?_
          | refine o_noN rfl rfl rfl ?_
          | (apply py3; exact rfl; exact rfl; (first | exact pu1 | exact puL | exact puC | exact a_ne rfl rfl | exact a_neS rfl rfl rfl | exact a_sub rfl rfl (by omega) (by omega) | exact puI); exact rfl; exact rfl)
          | (apply ny3; exact rfl; exact rfl; (first | exact a_new (gb := .bx _) rfl | exact a_litE eI [_, _, _] rfl rfl rfl rfl rfl rfl rfl rfl); exact rfl; exact rfl)
          | (apply g_drN (id := 7) okM [[], [0], [0, 1], [0, 1, 2], [0, 1, 2, 3], [], [5], [0, 1, 2, 3, 4, 5, 6], [0, 1, 2, 3, 4, 5, 6, 7], [], [9], [9, 10], [9, 10, 11], [9, 10, 11, 12], [], [14], [9, 10, 11, 12, 13, 14, 15], [9, 10, 11, 12, 13, 14, 15, 16], [0, 1, 2, 3, 4, 5, 6, 7, 8, 9, 10, 11, 12, 13, 14, 15, 16, 17], [0, 1, 2, 3, 4, 5, 6, 7, 8, 9, 10, 11, 12, 13, 14, 15, 16, 17, 18]] [([], []), ([], []), ([], []), ([], []), ([], []), ([], []), ([], []), ([], []), ([], []), ([], []), ([], []), ([], []), ([], []), ([], []), ([], []), ([], []), ([], []), ([], []), ([], []), ([], [])] 0; (focus (all_goals refine dp 0 0 [51, 52, 55, 56, 57, 58, 59, 60, 61, 62, 63] [] pu1 ?_; all_goals refine dp 1 1 [51, 52, 55, 56, 57, 58, 59, 60, 61, 62, 63] [] (a_pure (sv := .one _) rfl) ?_; all_goals refine dp 2 3 [51, 52, 55, 56, 57, 58, 59, 60, 61, 62, 63] [] (a_pure (sv := .one _) rfl) ?_; all_goals refine dp 3 7 [51, 52, 55, 56, 57, 58, 59, 60, 61, 62, 63] [] (a_pure (sv := .one _) rfl) ?_; all_goals refine dp 4 15 [51, 52, 55, 56, 57, 58, 59, 60, 61, 62, 63] [] puL ?_; all_goals refine dp 5 0 [46, 47, 48, 49, 50, 55, 56, 57, 58, 59, 60, 61, 62, 63] [] (a_pure (sv := .one _) rfl) ?_; all_goals refine dp 6 1 [46, 47, 48, 49, 50, 55, 56, 57, 58, 59, 60, 61, 62, 63] [] puL ?_; all_goals refine dp 7 127 [55, 56, 57, 58, 59, 60, 61, 62, 63] [] puI ?_; all_goals refine dp 8 255 [55, 56, 57, 58, 59, 60, 61, 62, 63] [] puL ?_; all_goals refine dp 9 0 [46, 47, 48, 49, 50, 51, 52, 53, 54, 60, 61] [] pu1 ?_; all_goals refine dp 10 1 [46, 47, 48, 49, 50, 51, 52, 53, 54, 60, 61] [] (a_pure (sv := .one _) rfl) ?_; all_goals refine dp 11 3 [46, 47, 48, 49, 50, 51, 52, 53, 54, 60, 61] [] (a_pure (sv := .one _) rfl) ?_; all_goals refine dp 12 7 [46, 47, 48, 49, 50, 51, 52, 53, 54, 60, 61] [] (a_pure (sv := .one _) rfl) ?_; all_goals refine dp 13 15 [46, 47, 48, 49, 50, 51, 52, 53, 54, 60, 61] [] puL ?_; all_goals refine dp 14 0 [46, 47, 48, 49, 50, 51, 52, 53, 54, 55, 56, 57, 58, 59] [] (a_pure (sv := .one _) rfl) ?_; all_goals refine dp 15 1 [46, 47, 48, 49, 50, 51, 52, 53, 54, 55, 56, 57, 58, 59] [] puL ?_; all_goals refine dp 16 127 [46, 47, 48, 49, 50, 51, 52, 53, 54] [] puI ?_; all_goals refine dp 17 255 [46, 47, 48, 49, 50, 51, 52, 53, 54] [] puL ?_; all_goals refine dp 18 262143 [] [] (a_sub rfl rfl (by omega) (by omega)) ?_; all_goals refine dp 19 524287 [] [] pu1 ?_; all_goals (refine d_nil ?_; dsimp only [selT, selH, trues, SV.ren, C.ren, C.ren.all, tRen, GB.ren, calF, upOf, List.cons_append, List.nil_append, Nat.reduceAdd, setRow, List.map_cons, List.map_nil, scC, List.set_cons_zero, List.set_cons_succ, List.take_succ_cons, List.take_zero, List.drop_succ_cons, List.drop_zero]))); any_goals kernel_rfl)
          | (apply g_drN (id := 8) okM [[], [0], [], [2], [], [], [5], [5, 6], [5, 6, 7], [5, 6, 7, 8], [], [10], [], [12], [12, 13], [5, 6, 7, 8, 9, 10, 11, 12, 13, 14], [], [5, 6, 7, 8, 9, 10, 11, 12, 13, 14, 15, 16], [0, 1, 2, 3, 4, 5, 6, 7, 8, 9, 10, 11, 12, 13, 14, 15, 16, 17]] [([], []), ([], []), ([], []), ([], []), ([], []), ([], []), ([], []), ([], []), ([], []), ([], []), ([], []), ([], []), ([], []), ([], []), ([], []), ([], []), ([], []), ([], []), ([], [])] 0; (focus (all_goals refine dp 0 0 [67, 68, 69, 70, 71, 72, 73, 74, 75, 76, 77, 78, 79, 80, 81, 82] [] (a_pure (sv := .one _) rfl) ?_; all_goals refine dp 1 1 [67, 68, 69, 70, 71, 72, 73, 74, 75, 76, 77, 78, 79, 80, 81, 82] [] puL ?_; all_goals refine dp 2 0 [65, 66, 69, 70, 71, 72, 73, 74, 75, 76, 77, 78, 79, 80, 81, 82] [] (a_pure (sv := .one _) rfl) ?_; all_goals refine dp 3 1 [65, 66, 69, 70, 71, 72, 73, 74, 75, 76, 77, 78, 79, 80, 81, 82] [] puL ?_; all_goals refine dp 4 0 [65, 66, 67, 68, 70, 71, 72, 73, 74, 75, 76, 77, 78, 79, 80, 81, 82] [] pu1 ?_; all_goals refine dp 5 0 [65, 66, 67, 68, 69, 75, 76, 77, 78, 79, 81] [] pu1 ?_; all_goals refine dp 6 1 [65, 66, 67, 68, 69, 75, 76, 77, 78, 79, 81] [] (a_pure (sv := .one _) rfl) ?_; all_goals refine dp 7 3 [65, 66, 67, 68, 69, 75, 76, 77, 78, 79, 81] [] (a_pure (sv := .one _) rfl) ?_; all_goals refine dp 8 7 [65, 66, 67, 68, 69, 75, 76, 77, 78, 79, 81] [] (a_pure (sv := .one _) rfl) ?_; all_goals refine dp 9 15 [65, 66, 67, 68, 69, 75, 76, 77, 78, 79, 81] [] puL ?_; all_goals refine dp 10 0 [65, 66, 67, 68, 69, 70, 71, 72, 73, 74, 77, 78, 79, 81] [] (a_pure (sv := .one _) rfl) ?_; all_goals refine dp 11 1 [65, 66, 67, 68, 69, 70, 71, 72, 73, 74, 77, 78, 79, 81] [] puL ?_; all_goals refine dp 12 0 [65, 66, 67, 68, 69, 70, 71, 72, 73, 74, 75, 76, 81] [] (a_pure (sv := .one _) rfl) ?_; all_goals refine dp 13 1 [65, 66, 67, 68, 69, 70, 71, 72, 73, 74, 75, 76, 81] [] puL ?_; all_goals refine dp 14 3 [65, 66, 67, 68, 69, 70, 71, 72, 73, 74, 75, 76, 81] [] (a_add rfl rfl (by omega) (by omega)) ?_; all_goals refine dp 15 1023 [65, 66, 67, 68, 69, 81] [] (a_slM rfl rfl rfl rfl (fS rfl) (by omega) (by omega) (by omega) (by exact rfl)) ?_; all_goals refine dp 16 0 [65, 66, 67, 68, 69, 70, 71, 72, 73, 74, 75, 76, 77, 78, 79, 80] [] pu1 ?_; all_goals refine dp 17 4095 [65, 66, 67, 68, 69] [] (callD1 (n := _) 0 (θ := []) (hD := (behindPart_ok _ _ _ _ preB39 preB39 preB39 preB39 preB39))) ?_; all_goals refine dp 18 262143 [] [] (callD1 (n := _) 0 (θ := []) (hD := (shiftFits_ok _ _ _ _ preB39 preB39 preB39 preB39 preB39 preB39))) ?_; all_goals (refine d_nil ?_; dsimp only [selT, selH, trues, SV.ren, C.ren, C.ren.all, tRen, GB.ren, calF, upOf, List.cons_append, List.nil_append, Nat.reduceAdd, setRow, List.map_cons, List.map_nil, scC, List.set_cons_zero, List.set_cons_succ, List.take_succ_cons, List.take_zero, List.drop_succ_cons, List.drop_zero]))); any_goals kernel_rfl)
          | (refine o_gs rfl rfl (fun hc => ?_) (fun hc => ?_) <;> (try simp only [decide_eq_true_eq, decide_eq_false_iff_not, Bool.not_eq_true', Bool.not_eq_false', Bool.not_eq_true, Bool.not_eq_false, Bool.and_eq_true, Bool.or_eq_false_iff, Bool.not_not] at hc) <;> (try (first | contradiction | (exfalso; omega))))
          | (refine g_cond rfl (fun hc => ?_) (fun hc => ?_) <;> (try simp only [decide_eq_true_eq, decide_eq_false_iff_not, Bool.not_eq_true', Bool.not_eq_false', Bool.not_eq_true, Bool.not_eq_false, Bool.and_eq_true, Bool.or_eq_false_iff, Bool.not_not] at hc) <;> (try (first | contradiction | (exfalso; omega))))
        rw [if_neg (by rw [hh]; simp)] at i3
        refine q_again (i - 1) [0, 1, 2, 3, 4] (by exact stk) ?_ ?_
        · exact ⟨by omega, by omega, by rw [show (i - 1 + 1).toNat = i.toNat by omega]; exact i3⟩
        · omega
      · have hh : hitS x.pos a e = false := by unfold hitS; rw [decide_eq_false hc]; simp
        repeat' first
          | refine g_seq ?_
          | refine g_skip ?_
          | refine g_exit ?_
          | refine g_block ?_
          | refine g_reg ?_
          | refine g_if_t rfl ?_
          | refine g_if_f rfl ?_
          | refine o_nil ?_
          | refine q_s ?_
          | refine q_se ?_
          | refine q_b ?_
          | refine q_be rfl ?_
          | refine q_bn rfl ?_
          | refine q_le ?_
          | refine q_ce ?_
          | (apply n3; (first | exact a_new (gb := .bx _) rfl | exact a_litE eI [_, _, _] rfl rfl rfl rfl rfl rfl rfl rfl); exact rfl; (try dsimp only [List.map_cons, List.map_nil, scC, Nat.reduceAdd]))
          | (apply p3; (first | exact pu1 | exact puL | exact puC | exact a_ne rfl rfl | exact a_neS rfl rfl rfl | exact a_sub rfl rfl (by omega) (by omega) | exact puI); exact rfl)
          | (apply w3; (first | exact a_st_bx rfl rfl rfl rfl (fN rfl rfl) (Nat.le_of_ble_eq_true rfl) rfl | exact a_stE (E := eQ) ⟨_, _, ⟨_, _, _⟩⟩ rfl rfl rfl rfl (fN rfl rfl) bnd (by exact rfl) | exact a_stF (E := eQ) ⟨_, _, ⟨_, _, _⟩⟩ rfl rfl rfl rfl (fN rfl rfl) (Nat.le_of_ble_eq_true rfl) (Nat.le_of_ble_eq_true rfl) (by first | exact List.getElem?_set_self bnd | exact List.getElem?_eq_getElem bnd) (by (try dsimp only [setRow, List.set_cons_succ, List.set_cons_zero]); first | done | exact rfl) rfl); exact rfl; (try dsimp only [setRow, List.map_cons, List.map_nil, scC, List.set_cons_zero, List.set_cons_succ, List.take_succ_cons, List.take_zero, List.drop_succ_cons, List.drop_zero, Nat.reduceAdd]))
          | refine o_no rfl rfl rfl rfl ?_
          | refine o_noN rfl rfl rfl ?_
          | (apply py3; exact rfl; exact rfl; (first | exact pu1 | exact puL | exact puC | exact a_ne rfl rfl | exact a_neS rfl rfl rfl | exact a_sub rfl rfl (by omega) (by omega) | exact puI); exact rfl; exact rfl)
          | (apply ny3; exact rfl; exact rfl; (first | exact a_new (gb := .bx _) rfl | exact a_litE eI [_, _, _] rfl rfl rfl rfl rfl rfl rfl rfl); exact rfl; exact rfl)
          | (apply g_drN (id := 7) okM [[], [0], [0, 1], [0, 1, 2], [0, 1, 2, 3], [], [5], [0, 1, 2, 3, 4, 5, 6], [0, 1, 2, 3, 4, 5, 6, 7], [], [9], [9, 10], [9, 10, 11], [9, 10, 11, 12], [], [14], [9, 10, 11, 12, 13, 14, 15], [9, 10, 11, 12, 13, 14, 15, 16], [0, 1, 2, 3, 4, 5, 6, 7, 8, 9, 10, 11, 12, 13, 14, 15, 16, 17], [0, 1, 2, 3, 4, 5, 6, 7, 8, 9, 10, 11, 12, 13, 14, 15, 16, 17, 18]] [([], []), ([], []), ([], []), ([], []), ([], []), ([], []), ([], []), ([], []), ([], []), ([], []), ([], []), ([], []), ([], []), ([], []), ([], []), ([], []), ([], []), ([], []), ([], []), ([], [])] 0; (focus (all_goals refine dp 0 0 [51, 52, 55, 56, 57, 58, 59, 60, 61, 62, 63] [] pu1 ?_; all_goals refine dp 1 1 [51, 52, 55, 56, 57, 58, 59, 60, 61, 62, 63] [] (a_pure (sv := .one _) rfl) ?_; all_goals refine dp 2 3 [51, 52, 55, 56, 57, 58, 59, 60, 61, 62, 63] [] (a_pure (sv := .one _) rfl) ?_; all_goals refine dp 3 7 [51, 52, 55, 56, 57, 58, 59, 60, 61, 62, 63] [] (a_pure (sv := .one _) rfl) ?_; all_goals refine dp 4 15 [51, 52, 55, 56, 57, 58, 59, 60, 61, 62, 63] [] puL ?_; all_goals refine dp 5 0 [46, 47, 48, 49, 50, 55, 56, 57, 58, 59, 60, 61, 62, 63] [] (a_pure (sv := .one _) rfl) ?_; all_goals refine dp 6 1 [46, 47, 48, 49, 50, 55, 56, 57, 58, 59, 60, 61, 62, 63] [] puL ?_; all_goals refine dp 7 127 [55, 56, 57, 58, 59, 60, 61, 62, 63] [] puI ?_; all_goals refine dp 8 255 [55, 56, 57, 58, 59, 60, 61, 62, 63] [] puL ?_; all_goals refine dp 9 0 [46, 47, 48, 49, 50, 51, 52, 53, 54, 60, 61] [] pu1 ?_; all_goals refine dp 10 1 [46, 47, 48, 49, 50, 51, 52, 53, 54, 60, 61] [] (a_pure (sv := .one _) rfl) ?_; all_goals refine dp 11 3 [46, 47, 48, 49, 50, 51, 52, 53, 54, 60, 61] [] (a_pure (sv := .one _) rfl) ?_; all_goals refine dp 12 7 [46, 47, 48, 49, 50, 51, 52, 53, 54, 60, 61] [] (a_pure (sv := .one _) rfl) ?_; all_goals refine dp 13 15 [46, 47, 48, 49, 50, 51, 52, 53, 54, 60, 61] [] puL ?_; all_goals refine dp 14 0 [46, 47, 48, 49, 50, 51, 52, 53, 54, 55, 56, 57, 58, 59] [] (a_pure (sv := .one _) rfl) ?_; all_goals refine dp 15 1 [46, 47, 48, 49, 50, 51, 52, 53, 54, 55, 56, 57, 58, 59] [] puL ?_; all_goals refine dp 16 127 [46, 47, 48, 49, 50, 51, 52, 53, 54] [] puI ?_; all_goals refine dp 17 255 [46, 47, 48, 49, 50, 51, 52, 53, 54] [] puL ?_; all_goals refine dp 18 262143 [] [] (a_sub rfl rfl (by omega) (by omega)) ?_; all_goals refine dp 19 524287 [] [] pu1 ?_; all_goals (refine d_nil ?_; dsimp only [selT, selH, trues, SV.ren, C.ren, C.ren.all, tRen, GB.ren, calF, upOf, List.cons_append, List.nil_append, Nat.reduceAdd, setRow, List.map_cons, List.map_nil, scC, List.set_cons_zero, List.set_cons_succ, List.take_succ_cons, List.take_zero, List.drop_succ_cons, List.drop_zero]))); any_goals kernel_rfl)
          | (apply g_drN (id := 8) okM [[], [0], [], [2], [], [], [5], [5, 6], [5, 6, 7], [5, 6, 7, 8], [], [10], [], [12], [12, 13], [5, 6, 7, 8, 9, 10, 11, 12, 13, 14], [], [5, 6, 7, 8, 9, 10, 11, 12, 13, 14, 15, 16], [0, 1, 2, 3, 4, 5, 6, 7, 8, 9, 10, 11, 12, 13, 14, 15, 16, 17]] [([], []), ([], []), ([], []), ([], []), ([], []), ([], []), ([], []), ([], []), ([], []), ([], []), ([], []), ([], []), ([], []), ([], []), ([], []), ([], []), ([], []), ([], []), ([], [])] 0; (focus (all_goals refine dp 0 0 [67, 68, 69, 70, 71, 72, 73, 74, 75, 76, 77, 78, 79, 80, 81, 82] [] (a_pure (sv := .one _) rfl) ?_; all_goals refine dp 1 1 [67, 68, 69, 70, 71, 72, 73, 74, 75, 76, 77, 78, 79, 80, 81, 82] [] puL ?_; all_goals refine dp 2 0 [65, 66, 69, 70, 71, 72, 73, 74, 75, 76, 77, 78, 79, 80, 81, 82] [] (a_pure (sv := .one _) rfl) ?_; all_goals refine dp 3 1 [65, 66, 69, 70, 71, 72, 73, 74, 75, 76, 77, 78, 79, 80, 81, 82] [] puL ?_; all_goals refine dp 4 0 [65, 66, 67, 68, 70, 71, 72, 73, 74, 75, 76, 77, 78, 79, 80, 81, 82] [] pu1 ?_; all_goals refine dp 5 0 [65, 66, 67, 68, 69, 75, 76, 77, 78, 79, 81] [] pu1 ?_; all_goals refine dp 6 1 [65, 66, 67, 68, 69, 75, 76, 77, 78, 79, 81] [] (a_pure (sv := .one _) rfl) ?_; all_goals refine dp 7 3 [65, 66, 67, 68, 69, 75, 76, 77, 78, 79, 81] [] (a_pure (sv := .one _) rfl) ?_; all_goals refine dp 8 7 [65, 66, 67, 68, 69, 75, 76, 77, 78, 79, 81] [] (a_pure (sv := .one _) rfl) ?_; all_goals refine dp 9 15 [65, 66, 67, 68, 69, 75, 76, 77, 78, 79, 81] [] puL ?_; all_goals refine dp 10 0 [65, 66, 67, 68, 69, 70, 71, 72, 73, 74, 77, 78, 79, 81] [] (a_pure (sv := .one _) rfl) ?_; all_goals refine dp 11 1 [65, 66, 67, 68, 69, 70, 71, 72, 73, 74, 77, 78, 79, 81] [] puL ?_; all_goals refine dp 12 0 [65, 66, 67, 68, 69, 70, 71, 72, 73, 74, 75, 76, 81] [] (a_pure (sv := .one _) rfl) ?_; all_goals refine dp 13 1 [65, 66, 67, 68, 69, 70, 71, 72, 73, 74, 75, 76, 81] [] puL ?_; all_goals refine dp 14 3 [65, 66, 67, 68, 69, 70, 71, 72, 73, 74, 75, 76, 81] [] (a_add rfl rfl (by omega) (by omega)) ?_; all_goals refine dp 15 1023 [65, 66, 67, 68, 69, 81] [] (a_slM rfl rfl rfl rfl (fS rfl) (by omega) (by omega) (by omega) (by exact rfl)) ?_; all_goals refine dp 16 0 [65, 66, 67, 68, 69, 70, 71, 72, 73, 74, 75, 76, 77, 78, 79, 80] [] pu1 ?_; all_goals refine dp 17 4095 [65, 66, 67, 68, 69] [] (callD1 (n := _) 0 (θ := []) (hD := (behindPart_ok _ _ _ _ preB39 preB39 preB39 preB39 preB39))) ?_; all_goals refine dp 18 262143 [] [] (callD1 (n := _) 0 (θ := []) (hD := (shiftFits_ok _ _ _ _ preB39 preB39 preB39 preB39 preB39 preB39))) ?_; all_goals (refine d_nil ?_; dsimp only [selT, selH, trues, SV.ren, C.ren, C.ren.all, tRen, GB.ren, calF, upOf, List.cons_append, List.nil_append, Nat.reduceAdd, setRow, List.map_cons, List.map_nil, scC, List.set_cons_zero, List.set_cons_succ, List.take_succ_cons, List.take_zero, List.drop_succ_cons, List.drop_zero]))); any_goals kernel_rfl)
          | (refine o_gs rfl rfl (fun hc => ?_) (fun hc => ?_) <;> (try simp only [decide_eq_true_eq, decide_eq_false_iff_not, Bool.not_eq_true', Bool.not_eq_false', Bool.not_eq_true, Bool.not_eq_false, Bool.and_eq_true, Bool.or_eq_false_iff, Bool.not_not] at hc) <;> (try (first | contradiction | (exfalso; omega))))
          | (refine g_cond rfl (fun hc => ?_) (fun hc => ?_) <;> (try simp only [decide_eq_true_eq, decide_eq_false_iff_not, Bool.not_eq_true', Bool.not_eq_false', Bool.not_eq_true, Bool.not_eq_false, Bool.and_eq_true, Bool.or_eq_false_iff, Bool.not_not] at hc) <;> (try (first | contradiction | (exfalso; omega))))
        rw [if_neg (by rw [hh]; simp)] at i3
        refine q_again (i - 1) [0, 1, 2, 3, 4] (by exact stk) ?_ ?_
        · exact ⟨by omega, by omega, by rw [show (i - 1 + 1).toNat = i.toNat by omega]; exact i3⟩
        · omega
      · have hh : hitS x.pos a e = true := by
          rw [g1, g2] at hc
          unfold hitS
          rw [hc, decide_eq_true (show a.sd = e.sd by assumption), decide_eq_true (show a.c.st = e.c.st by assumption)]; rfl
        rw [if_pos hh] at i3
        rw [← i3]
        repeat' first
          | refine g_seq ?_
          | refine g_skip ?_
          | refine g_exit ?_
          | refine g_block ?_
          | refine g_reg ?_
          | refine g_if_t rfl ?_
          | refine g_if_f rfl ?_
          | refine o_nil ?_
          | refine q_s ?_
          | refine q_se ?_
          | refine q_b ?_
          | refine q_be rfl ?_
          | refine q_bn rfl ?_
          | refine q_le ?_
          | refine q_ce ?_
          | (apply n3; (first | exact a_new (gb := .bx _) rfl | exact a_litE eI [_, _, _] rfl rfl rfl rfl rfl rfl rfl rfl); exact rfl; (try dsimp only [List.map_cons, List.map_nil, scC, Nat.reduceAdd]))
          | (apply p3; (first | exact pu1 | exact puL | exact puC | exact a_ne rfl rfl | exact a_neS rfl rfl rfl | exact a_sub rfl rfl (by omega) (by omega) | exact puI); exact rfl)
          | (apply w3; (first | exact a_st_bx rfl rfl rfl rfl (fN rfl rfl) (Nat.le_of_ble_eq_true rfl) rfl | exact a_stE (E := eQ) ⟨_, _, ⟨_, _, _⟩⟩ rfl rfl rfl rfl (fN rfl rfl) bnd (by exact rfl) | exact a_stF (E := eQ) ⟨_, _, ⟨_, _, _⟩⟩ rfl rfl rfl rfl (fN rfl rfl) (Nat.le_of_ble_eq_true rfl) (Nat.le_of_ble_eq_true rfl) (by first | exact List.getElem?_set_self bnd | exact List.getElem?_eq_getElem bnd) (by (try dsimp only [setRow, List.set_cons_succ, List.set_cons_zero]); first | done | exact rfl) rfl); exact rfl; (try dsimp only [setRow, List.map_cons, List.map_nil, scC, List.set_cons_zero, List.set_cons_succ, List.take_succ_cons, List.take_zero, List.drop_succ_cons, List.drop_zero, Nat.reduceAdd]))
          | refine o_no rfl rfl rfl rfl ?_
          | refine o_noN rfl rfl rfl ?_
          | (apply py3; exact rfl; exact rfl; (first | exact pu1 | exact puL | exact puC | exact a_ne rfl rfl | exact a_neS rfl rfl rfl | exact a_sub rfl rfl (by omega) (by omega) | exact puI); exact rfl; exact rfl)
          | (apply ny3; exact rfl; exact rfl; (first | exact a_new (gb := .bx _) rfl | exact a_litE eI [_, _, _] rfl rfl rfl rfl rfl rfl rfl rfl); exact rfl; exact rfl)
          | (apply g_drN (id := 7) okM [[], [0], [0, 1], [0, 1, 2], [0, 1, 2, 3], [], [5], [0, 1, 2, 3, 4, 5, 6], [0, 1, 2, 3, 4, 5, 6, 7], [], [9], [9, 10], [9, 10, 11], [9, 10, 11, 12], [], [14], [9, 10, 11, 12, 13, 14, 15], [9, 10, 11, 12, 13, 14, 15, 16], [0, 1, 2, 3, 4, 5, 6, 7, 8, 9, 10, 11, 12, 13, 14, 15, 16, 17], [0, 1, 2, 3, 4, 5, 6, 7, 8, 9, 10, 11, 12, 13, 14, 15, 16, 17, 18]] [([], []), ([], []), ([], []), ([], []), ([], []), ([], []), ([], []), ([], []), ([], []), ([], []), ([], []), ([], []), ([], []), ([], []), ([], []), ([], []), ([], []), ([], []), ([], []), ([], [])] 0; (focus (all_goals refine dp 0 0 [51, 52, 55, 56, 57, 58, 59, 60, 61, 62, 63] [] pu1 ?_; all_goals refine dp 1 1 [51, 52, 55, 56, 57, 58, 59, 60, 61, 62, 63] [] (a_pure (sv := .one _) rfl) ?_; all_goals refine dp 2 3 [51, 52, 55, 56, 57, 58, 59, 60, 61, 62, 63] [] (a_pure (sv := .one _) rfl) ?_; all_goals refine dp 3 7 [51, 52, 55, 56, 57, 58, 59, 60, 61, 62, 63] [] (a_pure (sv := .one _) rfl) ?_; all_goals refine dp 4 15 [51, 52, 55, 56, 57, 58, 59, 60, 61, 62, 63] [] puL ?_; all_goals refine dp 5 0 [46, 47, 48, 49, 50, 55, 56, 57, 58, 59, 60, 61, 62, 63] [] (a_pure (sv := .one _) rfl) ?_; all_goals refine dp 6 1 [46, 47, 48, 49, 50, 55, 56, 57, 58, 59, 60, 61, 62, 63] [] puL ?_; all_goals refine dp 7 127 [55, 56, 57, 58, 59, 60, 61, 62, 63] [] puI ?_; all_goals refine dp 8 255 [55, 56, 57, 58, 59, 60, 61, 62, 63] [] puL ?_; all_goals refine dp 9 0 [46, 47, 48, 49, 50, 51, 52, 53, 54, 60, 61] [] pu1 ?_; all_goals refine dp 10 1 [46, 47, 48, 49, 50, 51, 52, 53, 54, 60, 61] [] (a_pure (sv := .one _) rfl) ?_; all_goals refine dp 11 3 [46, 47, 48, 49, 50, 51, 52, 53, 54, 60, 61] [] (a_pure (sv := .one _) rfl) ?_; all_goals refine dp 12 7 [46, 47, 48, 49, 50, 51, 52, 53, 54, 60, 61] [] (a_pure (sv := .one _) rfl) ?_; all_goals refine dp 13 15 [46, 47, 48, 49, 50, 51, 52, 53, 54, 60, 61] [] puL ?_; all_goals refine dp 14 0 [46, 47, 48, 49, 50, 51, 52, 53, 54, 55, 56, 57, 58, 59] [] (a_pure (sv := .one _) rfl) ?_; all_goals refine dp 15 1 [46, 47, 48, 49, 50, 51, 52, 53, 54, 55, 56, 57, 58, 59] [] puL ?_; all_goals refine dp 16 127 [46, 47, 48, 49, 50, 51, 52, 53, 54] [] puI ?_; all_goals refine dp 17 255 [46, 47, 48, 49, 50, 51, 52, 53, 54] [] puL ?_; all_goals refine dp 18 262143 [] [] (a_sub rfl rfl (by omega) (by omega)) ?_; all_goals refine dp 19 524287 [] [] pu1 ?_; all_goals (refine d_nil ?_; dsimp only [selT, selH, trues, SV.ren, C.ren, C.ren.all, tRen, GB.ren, calF, upOf, List.cons_append, List.nil_append, Nat.reduceAdd, setRow, List.map_cons, List.map_nil, scC, List.set_cons_zero, List.set_cons_succ, List.take_succ_cons, List.take_zero, List.drop_succ_cons, List.drop_zero]))); any_goals kernel_rfl)
          | (apply g_drN (id := 8) okM [[], [0], [], [2], [], [], [5], [5, 6], [5, 6, 7], [5, 6, 7, 8], [], [10], [], [12], [12, 13], [5, 6, 7, 8, 9, 10, 11, 12, 13, 14], [], [5, 6, 7, 8, 9, 10, 11, 12, 13, 14, 15, 16], [0, 1, 2, 3, 4, 5, 6, 7, 8, 9, 10, 11, 12, 13, 14, 15, 16, 17]] [([], []), ([], []), ([], []), ([], []), ([], []), ([], []), ([], []), ([], []), ([], []), ([], []), ([], []), ([], []), ([], []), ([], []), ([], []), ([], []), ([], []), ([], []), ([], [])] 0; (focus (all_goals refine dp 0 0 [67, 68, 69, 70, 71, 72, 73, 74, 75, 76, 77, 78, 79, 80, 81, 82] [] (a_pure (sv := .one _) rfl) ?_; all_goals refine dp 1 1 [67, 68, 69, 70, 71, 72, 73, 74, 75, 76, 77, 78, 79, 80, 81, 82] [] puL ?_; all_goals refine dp 2 0 [65, 66, 69, 70, 71, 72, 73, 74, 75, 76, 77, 78, 79, 80, 81, 82] [] (a_pure (sv := .one _) rfl) ?_; all_goals refine dp 3 1 [65, 66, 69, 70, 71, 72, 73, 74, 75, 76, 77, 78, 79, 80, 81, 82] [] puL ?_; all_goals refine dp 4 0 [65, 66, 67, 68, 70, 71, 72, 73, 74, 75, 76, 77, 78, 79, 80, 81, 82] [] pu1 ?_; all_goals refine dp 5 0 [65, 66, 67, 68, 69, 75, 76, 77, 78, 79, 81] [] pu1 ?_; all_goals refine dp 6 1 [65, 66, 67, 68, 69, 75, 76, 77, 78, 79, 81] [] (a_pure (sv := .one _) rfl) ?_; all_goals refine dp 7 3 [65, 66, 67, 68, 69, 75, 76, 77, 78, 79, 81] [] (a_pure (sv := .one _) rfl) ?_; all_goals refine dp 8 7 [65, 66, 67, 68, 69, 75, 76, 77, 78, 79, 81] [] (a_pure (sv := .one _) rfl) ?_; all_goals refine dp 9 15 [65, 66, 67, 68, 69, 75, 76, 77, 78, 79, 81] [] puL ?_; all_goals refine dp 10 0 [65, 66, 67, 68, 69, 70, 71, 72, 73, 74, 77, 78, 79, 81] [] (a_pure (sv := .one _) rfl) ?_; all_goals refine dp 11 1 [65, 66, 67, 68, 69, 70, 71, 72, 73, 74, 77, 78, 79, 81] [] puL ?_; all_goals refine dp 12 0 [65, 66, 67, 68, 69, 70, 71, 72, 73, 74, 75, 76, 81] [] (a_pure (sv := .one _) rfl) ?_; all_goals refine dp 13 1 [65, 66, 67, 68, 69, 70, 71, 72, 73, 74, 75, 76, 81] [] puL ?_; all_goals refine dp 14 3 [65, 66, 67, 68, 69, 70, 71, 72, 73, 74, 75, 76, 81] [] (a_add rfl rfl (by omega) (by omega)) ?_; all_goals refine dp 15 1023 [65, 66, 67, 68, 69, 81] [] (a_slM rfl rfl rfl rfl (fS rfl) (by omega) (by omega) (by omega) (by exact rfl)) ?_; all_goals refine dp 16 0 [65, 66, 67, 68, 69, 70, 71, 72, 73, 74, 75, 76, 77, 78, 79, 80] [] pu1 ?_; all_goals refine dp 17 4095 [65, 66, 67, 68, 69] [] (callD1 (n := _) 0 (θ := []) (hD := (behindPart_ok _ _ _ _ preB39 preB39 preB39 preB39 preB39))) ?_; all_goals refine dp 18 262143 [] [] (callD1 (n := _) 0 (θ := []) (hD := (shiftFits_ok _ _ _ _ preB39 preB39 preB39 preB39 preB39 preB39))) ?_; all_goals (refine d_nil ?_; dsimp only [selT, selH, trues, SV.ren, C.ren, C.ren.all, tRen, GB.ren, calF, upOf, List.cons_append, List.nil_append, Nat.reduceAdd, setRow, List.map_cons, List.map_nil, scC, List.set_cons_zero, List.set_cons_succ, List.take_succ_cons, List.take_zero, List.drop_succ_cons, List.drop_zero]))); any_goals kernel_rfl)
          | (refine o_gs rfl rfl (fun hc => ?_) (fun hc => ?_) <;> (try simp only [decide_eq_true_eq, decide_eq_false_iff_not, Bool.not_eq_true', Bool.not_eq_false', Bool.not_eq_true, Bool.not_eq_false, Bool.and_eq_true, Bool.or_eq_false_iff, Bool.not_not] at hc) <;> (try (first | contradiction | (exfalso; omega))))
          | (refine g_cond rfl (fun hc => ?_) (fun hc => ?_) <;> (try simp only [decide_eq_true_eq, decide_eq_false_iff_not, Bool.not_eq_true', Bool.not_eq_false', Bool.not_eq_true, Bool.not_eq_false, Bool.and_eq_true, Bool.or_eq_false_iff, Bool.not_not] at hc) <;> (try (first | contradiction | (exfalso; omega))))
        refine g_conv (t_nilB (i := 3) (k := 2) (z := 1) rfl rfl rfl (by decide)) ?_
        try dsimp only [setRow, List.map_cons, List.map_nil, scC, List.set_cons_zero, List.set_cons_succ]
        unfold prfOf
        simp only [g1, g2]
        repeat (first | refine g_ret ?_ | refine q_sr ?_ | refine q_br ?_ | refine q_lr ?_ | refine q_cr ?_)
        refine ends_id ?_
        refine endK [?_, ?_] (h2 := ?_) (h3 := ?_) (nd := ?_)
        rotate_left 2
        all_goals (repeat' first | with_reducible exact SVLe.refl | exact SVLe.any | exact SVLe.one (.sh rfl) | exact SVLe.one (.nil (by decide)) | refine SVLe.agg ?_ | refine SVLe.tup ?_ | exact TLe.nil | refine TLe.cons ?_ ?_ | exact CsLe.nil | refine CsLe.cons ?_ ?_ | exact CLe.refl | exact CLe.sh rfl | exact CLe.nil (by decide) | refine cle_i ?_ | refine cle_b ?_ | exact trivial | refine And.intro ?_ ?_ | exact Or.inl rfl | exact Or.inr rfl | refine Or.inr (row_eq ?_) | (refine Or.inr (bx_eq rfl rfl ?_); (try dsimp only [C.ren, C.ren.all]); (try exact rfl)) | exact SVLe.refl | refine sle_i ?_ | refine sle_b ?_)
        all_goals first | exact (show nodupB _ = true from rfl) | exact Or.inr rfl | (rfl)
      · have hh : hitS x.pos a e = false := by
          rw [g1, g2] at hc
          unfold hitS
          rw [hc]; simp
        repeat' first
          | refine g_seq ?_
          | refine g_skip ?_
          | refine g_exit ?_
          | refine g_block ?_
          | refine g_reg ?_
          | refine g_if_t rfl ?_
          | refine g_if_f rfl ?_
          | refine o_nil ?_
          | refine q_s ?_
          | refine q_se ?_
          | refine q_b ?_
          | refine q_be rfl ?_
          | refine q_bn rfl ?_
          | refine q_le ?_
          | refine q_ce ?_
          | (apply n3; (first | exact a_new (gb := .bx _) rfl | exact a_litE eI [_, _, _] rfl rfl rfl rfl rfl rfl rfl rfl); exact rfl; (try dsimp only [List.map_cons, List.map_nil, scC, Nat.reduceAdd]))
          | (apply p3; (first | exact pu1 | exact puL | exact puC | exact a_ne rfl rfl | exact a_neS rfl rfl rfl | exact a_sub rfl rfl (by omega) (by omega) | exact puI); exact rfl)
          | (apply w3; (first | exact a_st_bx rfl rfl rfl rfl (fN rfl rfl) (Nat.le_of_ble_eq_true rfl) rfl | exact a_stE (E := eQ) ⟨_, _, ⟨_, _, _⟩⟩ rfl rfl rfl rfl (fN rfl rfl) bnd (by exact rfl) | exact a_stF (E := eQ) ⟨_, _, ⟨_, _, _⟩⟩ rfl rfl rfl rfl (fN rfl rfl) (Nat.le_of_ble_eq_true rfl) (Nat.le_of_ble_eq_true rfl) (by first | exact List.getElem?_set_self bnd | exact List.getElem?_eq_getElem bnd) (by (try dsimp only [setRow, List.set_cons_succ, List.set_cons_zero]); first | done | exact rfl) rfl); exact rfl; (try dsimp only [setRow, List.map_cons, List.map_nil, scC, List.set_cons_zero, List.set_cons_succ, List.take_succ_cons, List.take_zero, List.drop_succ_cons, List.drop_zero, Nat.reduceAdd]))
          | refine o_no rfl rfl rfl rfl ?_
          | refine o_noN rfl rfl rfl ?_
          | (apply py3; exact rfl; exact rfl; (first | exact pu1 | exact puL | exact puC | exact a_ne rfl rfl | exact a_neS rfl rfl rfl | exact a_sub rfl rfl (by omega) (by omega) | exact puI); exact rfl; exact rfl)
          | (apply ny3; exact rfl; exact rfl; (first | exact a_new (gb := .bx _) rfl | exact a_litE eI [_, _, _] rfl rfl rfl rfl rfl rfl rfl rfl); exact rfl; exact rfl)
          | (apply g_drN (id := 7) okM [[], [0], [0, 1], [0, 1, 2], [0, 1, 2, 3], [], [5], [0, 1, 2, 3, 4, 5, 6], [0, 1, 2, 3, 4, 5, 6, 7], [], [9], [9, 10], [9, 10, 11], [9, 10, 11, 12], [], [14], [9, 10, 11, 12, 13, 14, 15], [9, 10, 11, 12, 13, 14, 15, 16], [0, 1, 2, 3, 4, 5, 6, 7, 8, 9, 10, 11, 12, 13, 14, 15, 16, 17], [0, 1, 2, 3, 4, 5, 6, 7, 8, 9, 10, 11, 12, 13, 14, 15, 16, 17, 18]] [([], []), ([], []), ([], []), ([], []), ([], []), ([], []), ([], []), ([], []), ([], []), ([], []), ([], []), ([], []), ([], []), ([], []), ([], []), ([], []), ([], []), ([], []), ([], []), ([], [])] 0; (focus (all_goals refine dp 0 0 [51, 52, 55, 56, 57, 58, 59, 60, 61, 62, 63] [] pu1 ?_; all_goals refine dp 1 1 [51, 52, 55, 56, 57, 58, 59, 60, 61, 62, 63] [] (a_pure (sv := .one _) rfl) ?_; all_goals refine dp 2 3 [51, 52, 55, 56, 57, 58, 59, 60, 61, 62, 63] [] (a_pure (sv := .one _) rfl) ?_; all_goals refine dp 3 7 [51, 52, 55, 56, 57, 58, 59, 60, 61, 62, 63] [] (a_pure (sv := .one _) rfl) ?_; all_goals refine dp 4 15 [51, 52, 55, 56, 57, 58, 59, 60, 61, 62, 63] [] puL ?_; all_goals refine dp 5 0 [46, 47, 48, 49, 50, 55, 56, 57, 58, 59, 60, 61, 62, 63] [] (a_pure (sv := .one _) rfl) ?_; all_goals refine dp 6 1 [46, 47, 48, 49, 50, 55, 56, 57, 58, 59, 60, 61, 62, 63] [] puL ?_; all_goals refine dp 7 127 [55, 56, 57, 58, 59, 60, 61, 62, 63] [] puI ?_; all_goals refine dp 8 255 [55, 56, 57, 58, 59, 60, 61, 62, 63] [] puL ?_; all_goals refine dp 9 0 [46, 47, 48, 49, 50, 51, 52, 53, 54, 60, 61] [] pu1 ?_; all_goals refine dp 10 1 [46, 47, 48, 49, 50, 51, 52, 53, 54, 60, 61] [] (a_pure (sv := .one _) rfl) ?_; all_goals refine dp 11 3 [46, 47, 48, 49, 50, 51, 52, 53, 54, 60, 61] [] (a_pure (sv := .one _) rfl) ?_; all_goals refine dp 12 7 [46, 47, 48, 49, 50, 51, 52, 53, 54, 60, 61] [] (a_pure (sv := .one _) rfl) ?_; all_goals refine dp 13 15 [46, 47, 48, 49, 50, 51, 52, 53, 54, 60, 61] [] puL ?_; all_goals refine dp 14 0 [46, 47, 48, 49, 50, 51, 52, 53, 54, 55, 56, 57, 58, 59] [] (a_pure (sv := .one _) rfl) ?_; all_goals refine dp 15 1 [46, 47, 48, 49, 50, 51, 52, 53, 54, 55, 56, 57, 58, 59] [] puL ?_; all_goals refine dp 16 127 [46, 47, 48, 49, 50, 51, 52, 53, 54] [] puI ?_; all_goals refine dp 17 255 [46, 47, 48, 49, 50, 51, 52, 53, 54] [] puL ?_; all_goals refine dp 18 262143 [] [] (a_sub rfl rfl (by omega) (by omega)) ?_; all_goals refine dp 19 524287 [] [] pu1 ?_; all_goals (refine d_nil ?_; dsimp only [selT, selH, trues, SV.ren, C.ren, C.ren.all, tRen, GB.ren, calF, upOf, List.cons_append, List.nil_append, Nat.reduceAdd, setRow, List.map_cons, List.map_nil, scC, List.set_cons_zero, List.set_cons_succ, List.take_succ_cons, List.take_zero, List.drop_succ_cons, List.drop_zero]))); any_goals kernel_rfl)
          | (apply g_drN (id := 8) okM [[], [0], [], [2], [], [], [5], [5, 6], [5, 6, 7], [5, 6, 7, 8], [], [10], [], [12], [12, 13], [5, 6, 7, 8, 9, 10, 11, 12, 13, 14], [], [5, 6, 7, 8, 9, 10, 11, 12, 13, 14, 15, 16], [0, 1, 2, 3, 4, 5, 6, 7, 8, 9, 10, 11, 12, 13, 14, 15, 16, 17]] [([], []), ([], []), ([], []), ([], []), ([], []), ([], []), ([], []), ([], []), ([], []), ([], []), ([], []), ([], []), ([], []), ([], []), ([], []), ([], []), ([], []), ([], []), ([], [])] 0; (focus (all_goals refine dp 0 0 [67, 68, 69, 70, 71, 72, 73, 74, 75, 76, 77, 78, 79, 80, 81, 82] [] (a_pure (sv := .one _) rfl) ?_; all_goals refine dp 1 1 [67, 68, 69, 70, 71, 72, 73, 74, 75, 76, 77, 78, 79, 80, 81, 82] [] puL ?_; all_goals refine dp 2 0 [65, 66, 69, 70, 71, 72, 73, 74, 75, 76, 77, 78, 79, 80, 81, 82] [] (a_pure (sv := .one _) rfl) ?_; all_goals refine dp 3 1 [65, 66, 69, 70, 71, 72, 73, 74, 75, 76, 77, 78, 79, 80, 81, 82] [] puL ?_; all_goals refine dp 4 0 [65, 66, 67, 68, 70, 71, 72, 73, 74, 75, 76, 77, 78, 79, 80, 81, 82] [] pu1 ?_; all_goals refine dp 5 0 [65, 66, 67, 68, 69, 75, 76, 77, 78, 79, 81] [] pu1 ?_; all_goals refine dp 6 1 [65, 66, 67, 68, 69, 75, 76, 77, 78, 79, 81] [] (a_pure (sv := .one _) rfl) ?_; all_goals refine dp 7 3 [65, 66, 67, 68, 69, 75, 76, 77, 78, 79, 81] [] (a_pure (sv := .one _) rfl) ?_; all_goals refine dp 8 7 [65, 66, 67, 68, 69, 75, 76, 77, 78, 79, 81] [] (a_pure (sv := .one _) rfl) ?_; all_goals refine dp 9 15 [65, 66, 67, 68, 69, 75, 76, 77, 78, 79, 81] [] puL ?_; all_goals refine dp 10 0 [65, 66, 67, 68, 69, 70, 71, 72, 73, 74, 77, 78, 79, 81] [] (a_pure (sv := .one _) rfl) ?_; all_goals refine dp 11 1 [65, 66, 67, 68, 69, 70, 71, 72, 73, 74, 77, 78, 79, 81] [] puL ?_; all_goals refine dp 12 0 [65, 66, 67, 68, 69, 70, 71, 72, 73, 74, 75, 76, 81] [] (a_pure (sv := .one _) rfl) ?_; all_goals refine dp 13 1 [65, 66, 67, 68, 69, 70, 71, 72, 73, 74, 75, 76, 81] [] puL ?_; all_goals refine dp 14 3 [65, 66, 67, 68, 69, 70, 71, 72, 73, 74, 75, 76, 81] [] (a_add rfl rfl (by omega) (by omega)) ?_; all_goals refine dp 15 1023 [65, 66, 67, 68, 69, 81] [] (a_slM rfl rfl rfl rfl (fS rfl) (by omega) (by omega) (by omega) (by exact rfl)) ?_; all_goals refine dp 16 0 [65, 66, 67, 68, 69, 70, 71, 72, 73, 74, 75, 76, 77, 78, 79, 80] [] pu1 ?_; all_goals refine dp 17 4095 [65, 66, 67, 68, 69] [] (callD1 (n := _) 0 (θ := []) (hD := (behindPart_ok _ _ _ _ preB39 preB39 preB39 preB39 preB39))) ?_; all_goals refine dp 18 262143 [] [] (callD1 (n := _) 0 (θ := []) (hD := (shiftFits_ok _ _ _ _ preB39 preB39 preB39 preB39 preB39 preB39))) ?_; all_goals (refine d_nil ?_; dsimp only [selT, selH, trues, SV.ren, C.ren, C.ren.all, tRen, GB.ren, calF, upOf, List.cons_append, List.nil_append, Nat.reduceAdd, setRow, List.map_cons, List.map_nil, scC, List.set_cons_zero, List.set_cons_succ, List.take_succ_cons, List.take_zero, List.drop_succ_cons, List.drop_zero]))); any_goals kernel_rfl)
          | (refine o_gs rfl rfl (fun hc => ?_) (fun hc => ?_) <;> (try simp only [decide_eq_true_eq, decide_eq_false_iff_not, Bool.not_eq_true', Bool.not_eq_false', Bool.not_eq_true, Bool.not_eq_false, Bool.and_eq_true, Bool.or_eq_false_iff, Bool.not_not] at hc) <;> (try (first | contradiction | (exfalso; omega))))
          | (refine g_cond rfl (fun hc => ?_) (fun hc => ?_) <;> (try simp only [decide_eq_true_eq, decide_eq_false_iff_not, Bool.not_eq_true', Bool.not_eq_false', Bool.not_eq_true, Bool.not_eq_false, Bool.and_eq_true, Bool.or_eq_false_iff, Bool.not_not] at hc) <;> (try (first | contradiction | (exfalso; omega))))
        rw [if_neg (by rw [hh]; simp)] at i3
        refine q_again (i - 1) [0, 1, 2, 3, 4] (by exact stk) ?_ ?_
        · exact ⟨by omega, by omega, by rw [show (i - 1 + 1).toNat = i.toNat by omega]; exact i3⟩
        · omega
    · refine g_conv (t_nilB (i := 3) (k := 1) (z := 1) rfl rfl rfl (by decide)) ?_
      try dsimp only [setRow, List.map_cons, List.map_nil, scC, List.set_cons_zero, List.set_cons_succ]
      refine g_conv (t_nilB (i := 3) (k := 2) (z := 1) rfl rfl rfl (by decide)) ?_
      try dsimp only [setRow, List.map_cons, List.map_nil, scC, List.set_cons_zero, List.set_cons_succ]
      have hi : i = -1 := by omega
      subst hi
      have i4 : fndA x.pos x.rcs e k.toNat = none := by rw [← i3]; unfold fndA; rfl
      rw [i4]
      unfold prfOf
      repeat (first | refine g_ret ?_ | refine q_sr ?_ | refine q_br ?_ | refine q_lr ?_ | refine q_cr ?_)
      refine ends_id ?_
      refine endK [?_, ?_] (h2 := ?_) (h3 := ?_) (nd := ?_)
      rotate_left 2
      all_goals (repeat' first | with_reducible exact SVLe.refl | exact SVLe.any | exact SVLe.one (.sh rfl) | exact SVLe.one (.nil (by decide)) | refine SVLe.agg ?_ | refine SVLe.tup ?_ | exact TLe.nil | refine TLe.cons ?_ ?_ | exact CsLe.nil | refine CsLe.cons ?_ ?_ | exact CLe.refl | exact CLe.sh rfl | exact CLe.nil (by decide) | refine cle_i ?_ | refine cle_b ?_ | exact trivial | refine And.intro ?_ ?_ | exact Or.inl rfl | exact Or.inr rfl | refine Or.inr (row_eq ?_) | (refine Or.inr (bx_eq rfl rfl ?_); (try dsimp only [C.ren, C.ren.all]); (try exact rfl)) | exact SVLe.refl | refine sle_i ?_ | refine sle_b ?_)
      all_goals first | exact (show nodupB _ = true from rfl) | exact Or.inr rfl | (rfl)
end Go.Proofs.Ytncccjpbaeaafaa
end
section
set_option linter.unusedVariables false
set_option linter.unusedSimpArgs false
set_option maxRecDepth 100000
set_option maxHeartbeats 4000000
namespace Go.Proofs.Ytncccjpbaeaafaa
open Go Foot
/-- What is known of the records, by the number of configurations seen. -/
structure QI (x : Qk) (n : Int) : Prop where
  len : (x.pos.length : Int) = n
  rlen : (x.rcs.length : Int) ≤ n
  lo : -n ≤ x.le ∧ x.le ≤ 0
  hi : x.gr ≤ n ∧ 0 ≤ x.gr
  bd : ∀ p ∈ x.pos, x.le ≤ p ∧ p ≤ x.gr
  rc : ∀ r ∈ x.rcs, (0 ≤ r.n ∧ r.n < n) ∧ (r.sd = 1 ∨ r.sd = -1) ∧ (r.c.le.length : Int) ≤ 1000 ∧ (r.c.ri.length : Int) ≤ 1000
  pw : x.rcs.Pairwise fun a e => a.n < e.n ∧ (a.sd = 1 → e.sd = 1 → posAt x.pos a.n < posAt x.pos e.n) ∧ (a.sd = -1 → e.sd = -1 → posAt x.pos e.n < posAt x.pos a.n)
theorem QI.inv {x : Qk} {n : Int} (h : QI x n) (hn : n ≤ 20001) : QInv x :=
  ⟨by have := h.len; omega, by have := h.len; have := h.rlen; omega, by have := h.lo; omega, by have := h.hi; omega, h.bd, fun r hr => by have := h.rc r hr; have := h.len; omega, h.pw⟩
theorem qi_0 : QI ⟨[], [], 0, 0⟩ 0 := ⟨rfl, by simp, by simp, by simp, fun p h => by simp at h, fun r h => by simp at h, List.Pairwise.nil⟩
theorem pw_old {x : Qk} {n hd : Int} (h : QI x n) : x.rcs.Pairwise fun a e => a.n < e.n ∧ (a.sd = 1 → e.sd = 1 → posAt (x.pos ++ [hd]) a.n < posAt (x.pos ++ [hd]) e.n) ∧ (a.sd = -1 → e.sd = -1 → posAt (x.pos ++ [hd]) e.n < posAt (x.pos ++ [hd]) a.n) := by
  refine List.Pairwise.imp_of_mem ?_ h.pw
  intro a e ha he q
  have h1 := (h.rc a ha).1
  have h2 := (h.rc e he).1
  have hl := h.len
  rw [posAt_app h1.1 (by omega), posAt_app h2.1 (by omega)]
  exact q
theorem pw_new {x : Qk} {n hd sd : Int} {c : Conf} (h : QI x n) (hs : (sd = 1 ∧ x.gr < hd) ∨ (sd = -1 ∧ hd < x.le)) : (x.rcs ++ [(⟨x.pos.length, sd, c⟩ : Rec)]).Pairwise fun a e => a.n < e.n ∧ (a.sd = 1 → e.sd = 1 → posAt (x.pos ++ [hd]) a.n < posAt (x.pos ++ [hd]) e.n) ∧ (a.sd = -1 → e.sd = -1 → posAt (x.pos ++ [hd]) e.n < posAt (x.pos ++ [hd]) a.n) := by
  refine List.pairwise_append.2 ⟨pw_old h, List.pairwise_singleton _ _, fun a ha e he => ?_⟩
  rw [List.mem_singleton] at he
  subst he
  have h1 := (h.rc a ha).1
  have hl := h.len
  have h2 := h.bd _ (posAt_mem h1.1 (by omega : a.n < x.pos.length))
  dsimp only
  rw [posAt_app h1.1 (by omega), posAt_new]
  refine ⟨by omega, fun _ e => by omega, fun _ e => by omega⟩
theorem qi_next {m : Mach} {x : Qk} {n hd : Int} {c : Conf} (h : QI x n) (hc : (c.le.length : Int) ≤ 1000 ∧ (c.ri.length : Int) ≤ 1000) (h1 : -n ≤ hd) (h2 : hd ≤ n) : QI (qkC c hd x) (n + 1) := by
  have hl := h.len
  have hlo := h.lo
  have hhi := h.hi
  have hrl := h.rlen
  unfold qkC
  split
  · rename_i hg
    refine ⟨by simp; omega, by simp; omega, by dsimp only; omega, by dsimp only; omega, fun p hp => ?_, fun r hr => ?_, pw_new h (.inl ⟨rfl, hg⟩)⟩
    · rcases List.mem_append.1 hp with hp | hp
      · have := h.bd p hp; dsimp only; omega
      · rw [List.mem_singleton] at hp; dsimp only; omega
    · rcases List.mem_append.1 hr with hr | hr
      · have := h.rc r hr; omega
      · rw [List.mem_singleton] at hr; subst hr; dsimp only; omega
  · split
    · rename_i hg hg2
      refine ⟨by simp; omega, by simp; omega, by dsimp only; omega, by dsimp only; omega, fun p hp => ?_, fun r hr => ?_, pw_new h (.inr ⟨rfl, hg2⟩)⟩
      · rcases List.mem_append.1 hp with hp | hp
        · have := h.bd p hp; dsimp only; omega
        · rw [List.mem_singleton] at hp; dsimp only; omega
      · rcases List.mem_append.1 hr with hr | hr
        · have := h.rc r hr; omega
        · rw [List.mem_singleton] at hr; subst hr; dsimp only; omega
    · refine ⟨by simp; omega, by dsimp only; omega, by dsimp only; omega, by dsimp only; omega, fun p hp => ?_, fun r hr => ?_, pw_old h⟩
      · rcases List.mem_append.1 hp with hp | hp
        · exact h.bd p hp
        · rw [List.mem_singleton] at hp; dsimp only; omega
      · have := h.rc r hr; dsimp only at *; omega
theorem vConf_len {m : Mach} {c : Conf} (hm : vMach m = true) (hc : vConf m c = true) : (c.le.length : Int) ≤ 1000 ∧ (c.ri.length : Int) ≤ 1000 := by
  have := at_bd hm hc; omega
theorem qi_run {m : Mach} (hm : vMach m = true) : ∀ (k : Nat) (n : Int) (c : Conf) (hd : Int) (x : Qk), vConf m c = true → QI x n → -n ≤ hd → hd ≤ n → ∃ n', QI (runG m qkC qkS k n c hd x).x n' ∧ n' ≤ n + k + 1
  | k, n, c, hd, x, hc, h, h1, h2 => by
    have hn := qi_next (m := m) h (vConf_len hm hc) h1 h2
    unfold runG
    split
    · exact ⟨n + 1, hn, by omega⟩
    · rename_i hr
      cases k with
      | zero => exact ⟨n + 1, hn, by omega⟩
      | succ k =>
        dsimp only
        split
        · rename_i hf
          have h3 := (ruAt_ok hm hc hr).2.1
          obtain ⟨n', h4, h5⟩ := qi_run hm k (n + 1) _ (hd + (ruAt m c).m) _ (stepS_ok hm hc hr hf) hn (by omega) (by omega)
          exact ⟨n', h4, by omega⟩
        · exact ⟨n + 1, hn, by omega⟩
theorem qkRun_inv {m : Mach} {b : Int} (hm : vMach m = true) (hb : 1 ≤ b) (hb2 : b ≤ 20000) : QInv (qkRun m b).x := by
  obtain ⟨n, h1, h2⟩ := qi_run hm b.toNat 0 blank 0 ⟨[], [], 0, 0⟩ (vBlank hm) qi_0 (by simp) (by simp)
  unfold qkRun
  exact h1.inv (by omega)
/-- The first record that comes again. -/
@[irreducible] def fndT (pos : List Int) (rs : List Rec) : Nat → Nat → Option Prf
  | 0, _ => none
  | j + 1, k => match rs[k]? with
    | none => none
    | some e => match fndA pos rs e k with
      | some a => some (prfOf pos e (some a))
      | none => fndT pos rs j (k + 1)
theorem fndT_s {pos : List Int} {rs : List Rec} {k : Int} (h0 : 0 ≤ k) (h : k.toNat < rs.length) : fndT pos rs (rs.length - k.toNat) k.toNat = if (fndA pos rs (rs[k.toNat]) k.toNat).isSome then some (prfOf pos (rs[k.toNat]) (fndA pos rs (rs[k.toNat]) k.toNat)) else fndT pos rs (rs.length - (k + 1).toNat) (k + 1).toNat := by
  rw [show rs.length - k.toNat = (rs.length - (k + 1).toNat) + 1 by omega]
  conv => lhs; unfold fndT
  rw [List.getElem?_eq_getElem h]
  dsimp only
  cases fndA pos rs (rs[k.toNat]) k.toNat with
  | some a => rfl
  | none => rw [show k.toNat + 1 = (k + 1).toNat by omega]; rfl
@[irreducible] def fsRes (m : Mach) (b : Int) : Prf × Int :=
  if askC m blank b ≠ 0 then (⟨0, [], []⟩, askC m blank b) else
  if (qkRun m b).halts then (⟨0, [], []⟩, 3) else
  match fndT (qkRun m b).x.pos (qkRun m b).x.rcs (qkRun m b).x.rcs.length 0 with
  | some p => (p, 0)
  | none => (⟨0, [], []⟩, if (qkRun m b).full then 5 else 6)
theorem fs_code {m : Mach} {b : Int} (h : ¬ askC m blank b = 0) : fsRes m b = (⟨0, [], []⟩, askC m blank b) := by unfold fsRes; rw [if_pos h]
theorem fs_halts {m : Mach} {b : Int} (h : askC m blank b = 0) (h2 : (qkRun m b).halts = true) : fsRes m b = (⟨0, [], []⟩, 3) := by unfold fsRes; rw [if_neg (by simp [h]), if_pos h2]
theorem fs_some {m : Mach} {b : Int} {p : Prf} (h : askC m blank b = 0) (h2 : (qkRun m b).halts = false) (h3 : fndT (qkRun m b).x.pos (qkRun m b).x.rcs (qkRun m b).x.rcs.length 0 = some p) : fsRes m b = (p, 0) := by unfold fsRes; rw [if_neg (by simp [h]), if_neg (by simp [h2]), h3]
theorem fs_none {m : Mach} {b : Int} (h : askC m blank b = 0) (h2 : (qkRun m b).halts = false) (h3 : fndT (qkRun m b).x.pos (qkRun m b).x.rcs (qkRun m b).x.rcs.length 0 = none) : fsRes m b = (⟨0, [], []⟩, if (qkRun m b).full then 5 else 6) := by unfold fsRes; rw [if_neg (by simp [h]), if_neg (by simp [h2]), h3]
theorem preB40 {p : Prop} (h : p := by first | with_reducible assumption | omega | (simp only [List.length_append, List.length_cons, List.length_nil, List.length_set, List.length_replicate, List.length_take, List.length_drop, List.length_tail, List.length_dropLast, List.length_reverse] at *; omega) | exact mem_len (by assumption) (by omega) | (with_reducible refine Int.le_trans (Int.ofNat_le.2 (trimR_len _)) ?_; simp only [List.length_cons, List.length_tail]; omega) | (exact (ruAt_ok (by assumption) (by assumption) (by assumption)).2.1) | (exact (ruAt_ok (by assumption) (by assumption) (by assumption)).2.1) | (have := vMach_bd (by assumption); omega) | (simp only [mC_ch, mC_tu]; omega) | (with_reducible refine Int.le_trans (Int.ofNat_le.2 (pushL_len _ _)) ?_; simp only [List.length_dropLast]; omega) | exact (ask_ok (by assumption)).1 | exact (ask_ok (by assumption)).2.1 | exact (ask_ok (by assumption)).2.2.1 | exact (ask_ok (by assumption)).2.2.2 | trivial) : p := h
theorem budgeted_ok (m : Mach) (b : Int) (hm : (m.ru.length : Int) ≤ 16777216) : Does Try.prog 50 [.agg (maC m), .one (int b)] [] (.one (int (askC m blank b))) [] := by
  refine does_of (k := 0) Try.func50 rfl Try.ntmps50 rfl rfl fun w F0 S0 ρ0 => ?_
  dsimp only [argT, argH]
  repeat' first
    | refine g_seq ?_
    | refine g_skip ?_
    | refine g_exit ?_
    | refine g_block ?_
    | refine g_reg ?_
    | refine g_if_t rfl ?_
    | refine g_if_f rfl ?_
    | refine o_nil ?_
    | refine q_s ?_
    | refine q_se ?_
    | refine q_b ?_
    | refine q_be rfl ?_
    | refine q_bn rfl ?_
    | refine q_le ?_
    | refine q_ce ?_
    | (apply n3; exact a_new (gb := .bx _) rfl; exact rfl; (try dsimp only [List.map_cons, List.map_nil, scC, Nat.reduceAdd]))
    | (apply p3; (first | exact pu1 | exact puL); exact rfl)
    | (apply c4 0; exact callK1 (θ := []) (hD := (runCode0_ok _ _ preB40)); exact rfl; exact rfl; exact rfl; (try dsimp only [SV.ren, C.ren, C.ren.all, tRen, GB.ren, calF, upOf, List.cons_append, List.nil_append, Nat.reduceAdd]))
    | (apply c4 0; exact callK1 (θ := []) (hD := (runCode_ok m blank b preB40 (by simp) (by simp))); exact rfl; exact rfl; exact rfl; (try dsimp only [SV.ren, C.ren, C.ren.all, tRen, GB.ren, calF, upOf, List.cons_append, List.nil_append, Nat.reduceAdd]))
    | (refine o_gs rfl rfl (fun hc => ?_) (fun hc => ?_) <;> (try simp only [decide_eq_true_eq, decide_eq_false_iff_not, Bool.not_eq_true', Bool.not_eq_false', Bool.not_eq_true, Bool.not_eq_false, Bool.and_eq_true, Bool.or_eq_false_iff, Bool.not_not] at hc) <;> (try (first | contradiction | (exfalso; omega))))
    | (refine g_cond rfl (fun hc => ?_) (fun hc => ?_) <;> (try simp only [decide_eq_true_eq, decide_eq_false_iff_not, Bool.not_eq_true', Bool.not_eq_false', Bool.not_eq_true, Bool.not_eq_false, Bool.and_eq_true, Bool.or_eq_false_iff, Bool.not_not] at hc) <;> (try (first | contradiction | (exfalso; omega))))
  repeat (first | refine g_ret ?_ | refine q_sr ?_ | refine q_br ?_ | refine q_lr ?_ | refine q_cr ?_)
  refine ends_id ?_
  refine endK [] (h2 := ?_) (h3 := ?_) (nd := ?_)
  all_goals (repeat' first | with_reducible exact SVLe.refl | exact SVLe.any | exact SVLe.one (.sh rfl) | exact SVLe.one (.nil (by decide)) | refine SVLe.agg ?_ | refine SVLe.tup ?_ | exact TLe.nil | refine TLe.cons ?_ ?_ | exact CsLe.nil | refine CsLe.cons ?_ ?_ | exact CLe.refl | exact CLe.sh rfl | exact CLe.nil (by decide) | refine cle_i ?_ | refine cle_b ?_ | exact trivial | refine And.intro ?_ ?_ | exact Or.inl rfl | exact Or.inr rfl | refine Or.inr (row_eq ?_) | (refine Or.inr (bx_eq rfl rfl ?_); (try dsimp only [C.ren, C.ren.all]); (try exact rfl)) | exact SVLe.refl | refine sle_i ?_ | refine sle_b ?_)
  all_goals first | exact (show nodupB _ = true from rfl) | exact Or.inr rfl | (rfl)
theorem iFindShift_ok (m : Mach) (b : Int) (hm : (m.ru.length : Int) ≤ 16777216) : Does Try.prog 42 [.agg (maC m), .one (int b)] [] (.tup [(true, prO (fsRes m b).1 0 1), (false, [int (fsRes m b).2])]) [roI (fsRes m b).1.nu, roW (fsRes m b).1.wo] := by
  by_cases hk : askC m blank b = 0
  · obtain ⟨hv, hb⟩ : vMach m = true ∧ 1 ≤ b ∧ b ≤ 20000 := by
      have := ask_ok hk; exact ⟨this.1, this.2.2⟩
    have hq := qkRun_inv hv hb.1 hb.2
    have hl1 := hq.len
    have hl2 := hq.rlen
    refine does_of (k := 0) Try.func42 rfl Try.ntmps42 rfl rfl fun w F0 S0 ρ0 => ?_
    dsimp only [argT, argH]
    repeat' first
      | refine g_seq ?_
      | refine g_skip ?_
      | refine g_exit ?_
      | refine g_block ?_
      | refine g_reg (id := 0) ?_
      | refine g_reg (id := 1) ?_
      | refine g_reg (id := 2) ?_
      | refine g_reg (id := 3) ?_
      | refine g_if_t rfl ?_
      | refine g_if_f rfl ?_
      | refine o_nil ?_
      | refine q_s ?_
      | refine q_se ?_
      | refine q_b ?_
      | refine q_be rfl ?_
      | refine q_bn rfl ?_
      | refine q_le ?_
      | refine q_ce ?_
      | (apply n3; exact a_new (gb := .bx _) rfl; exact rfl; (try dsimp only [List.map_cons, List.map_nil, scC, Nat.reduceAdd]))
      | (apply p3; (first | exact pu1 | exact puL | exact a_ne rfl rfl | exact a_neS rfl rfl rfl); exact rfl)
      | (apply w3; exact a_st_bx rfl rfl rfl rfl (fN rfl rfl) (Nat.le_of_ble_eq_true rfl) rfl; exact rfl; (try dsimp only [setRow, List.map_cons, List.map_nil, scC, List.set_cons_zero, List.set_cons_succ, List.take_succ_cons, List.take_zero, List.drop_succ_cons, List.drop_zero, Nat.reduceAdd]))
      | (apply c4 0; exact callK1 (θ := []) (hD := (budgeted_ok _ _ preB40)); exact rfl; exact rfl; exact rfl; (try dsimp only [SV.ren, C.ren, C.ren.all, tRen, GB.ren, calF, upOf, List.cons_append, List.nil_append, Nat.reduceAdd]))
      | (apply c4 0; exact callK1 (θ := []) (hD := (budgeted_ok _ _ preB40)); exact rfl; exact rfl; exact rfl; (try dsimp only [SV.ren, C.ren, C.ren.all, tRen, GB.ren, calF, upOf, List.cons_append, List.nil_append, Nat.reduceAdd]))
      | (refine o_gs rfl rfl (fun hc => ?_) (fun hc => ?_) <;> (try simp only [decide_eq_true_eq, decide_eq_false_iff_not, Bool.not_eq_true', Bool.not_eq_false', Bool.not_eq_true, Bool.not_eq_false, Bool.and_eq_true, Bool.or_eq_false_iff, Bool.not_not] at hc) <;> (try (first | contradiction | (exfalso; omega))))
      | (refine g_cond rfl (fun hc => ?_) (fun hc => ?_) <;> (try simp only [decide_eq_true_eq, decide_eq_false_iff_not, Bool.not_eq_true', Bool.not_eq_false', Bool.not_eq_true, Bool.not_eq_false, Bool.and_eq_true, Bool.or_eq_false_iff, Bool.not_not] at hc) <;> (try (first | contradiction | (exfalso; omega))))
    repeat' first
      | refine g_seq ?_
      | refine g_skip ?_
      | refine g_exit ?_
      | refine g_block ?_
      | refine g_reg (id := 0) ?_
      | refine g_reg (id := 1) ?_
      | refine g_reg (id := 2) ?_
      | refine g_reg (id := 3) ?_
      | refine g_reg (id := 4) ?_
      | refine g_reg (id := 5) ?_
      | refine g_if_t rfl ?_
      | refine g_if_f rfl ?_
      | refine o_nil ?_
      | refine q_s ?_
      | refine q_se ?_
      | refine q_b ?_
      | refine q_be rfl ?_
      | refine q_bn rfl ?_
      | refine q_le ?_
      | refine q_ce ?_
      | (apply n3; exact a_new (gb := .bx _) rfl; exact rfl; (try dsimp only [List.map_cons, List.map_nil, scC, Nat.reduceAdd]))
      | (apply p3; (first | exact pu1 | exact puL | exact a_ne rfl rfl | exact a_neS rfl rfl rfl); exact rfl)
      | (apply w3; exact a_st_bx rfl rfl rfl rfl (fN rfl rfl) (Nat.le_of_ble_eq_true rfl) rfl; exact rfl; (try dsimp only [setRow, List.map_cons, List.map_nil, scC, List.set_cons_zero, List.set_cons_succ, List.take_succ_cons, List.take_zero, List.drop_succ_cons, List.drop_zero, Nat.reduceAdd]))
      | (apply c4 0; exact callK1 (θ := []) (hD := (budgeted_ok _ _ preB40)); exact rfl; exact rfl; exact rfl; (try dsimp only [SV.ren, C.ren, C.ren.all, tRen, GB.ren, calF, upOf, List.cons_append, List.nil_append, Nat.reduceAdd]))
      | (apply c4 0; exact callK1 (θ := []) (hD := (budgeted_ok _ _ preB40)); exact rfl; exact rfl; exact rfl; (try dsimp only [SV.ren, C.ren, C.ren.all, tRen, GB.ren, calF, upOf, List.cons_append, List.nil_append, Nat.reduceAdd]))
      | (apply c4 3; exact callK0 (θ := []) (hD := (tracked_ok _ _ preB40 preB40 preB40)); exact rfl; exact rfl; exact rfl; (try dsimp only [SV.ren, C.ren, C.ren.all, tRen, GB.ren, calF, upOf, List.cons_append, List.nil_append, Nat.reduceAdd]))
      | (refine o_gs rfl rfl (fun hc => ?_) (fun hc => ?_) <;> (try simp only [decide_eq_true_eq, decide_eq_false_iff_not, Bool.not_eq_true', Bool.not_eq_false', Bool.not_eq_true, Bool.not_eq_false, Bool.and_eq_true, Bool.or_eq_false_iff, Bool.not_not] at hc) <;> (try (first | contradiction | (exfalso; omega))))
      | (refine g_cond rfl (fun hc => ?_) (fun hc => ?_) <;> (try simp only [decide_eq_true_eq, decide_eq_false_iff_not, Bool.not_eq_true', Bool.not_eq_false', Bool.not_eq_true, Bool.not_eq_false, Bool.and_eq_true, Bool.or_eq_false_iff, Bool.not_not] at hc) <;> (try (first | contradiction | (exfalso; omega))))
    · rw [fs_halts hk hc]
      repeat' first
        | refine g_seq ?_
        | refine g_skip ?_
        | refine g_exit ?_
        | refine g_block ?_
        | refine g_reg ?_
        | refine g_if_t rfl ?_
        | refine g_if_f rfl ?_
        | refine o_nil ?_
        | refine q_s ?_
        | refine q_se ?_
        | refine q_b ?_
        | refine q_be rfl ?_
        | refine q_bn rfl ?_
        | refine q_le ?_
        | refine q_ce ?_
        | (apply n3; exact a_new (gb := .bx _) rfl; exact rfl; (try dsimp only [List.map_cons, List.map_nil, scC, Nat.reduceAdd]))
        | (apply p3; (first | exact pu1 | exact puL | exact a_ne rfl rfl | exact a_neS rfl rfl rfl | exact puN | exact a_len_str rfl (fT rfl) | exact puC | exact a_add rfl rfl (by omega) (by omega)); exact rfl)
        | (apply w3; exact a_st_bx rfl rfl rfl rfl (fN rfl rfl) (Nat.le_of_ble_eq_true rfl) rfl; exact rfl; (try dsimp only [setRow, List.map_cons, List.map_nil, scC, List.set_cons_zero, List.set_cons_succ, List.take_succ_cons, List.take_zero, List.drop_succ_cons, List.drop_zero, Nat.reduceAdd]))
        | (apply c4 0; exact callK1 (θ := []) (hD := (budgeted_ok _ _ preB40)); exact rfl; exact rfl; exact rfl; (try dsimp only [SV.ren, C.ren, C.ren.all, tRen, GB.ren, calF, upOf, List.cons_append, List.nil_append, Nat.reduceAdd]))
        | (apply c4 0; exact callK1 (θ := []) (hD := (budgeted_ok _ _ preB40)); exact rfl; exact rfl; exact rfl; (try dsimp only [SV.ren, C.ren, C.ren.all, tRen, GB.ren, calF, upOf, List.cons_append, List.nil_append, Nat.reduceAdd]))
        | (apply c4 3; exact callK0 (θ := []) (hD := (tracked_ok _ _ preB40 preB40 preB40)); exact rfl; exact rfl; exact rfl; (try dsimp only [SV.ren, C.ren, C.ren.all, tRen, GB.ren, calF, upOf, List.cons_append, List.nil_append, Nat.reduceAdd]))
        | (apply c4 2; exact callK0 (θ := [_, _, _]) (hD := (shiftTo_ok _ _ preB40 preB40 _)); exact rfl; exact rfl; exact rfl; (try dsimp only [SV.ren, C.ren, C.ren.all, tRen, GB.ren, calF, upOf, List.cons_append, List.nil_append, Nat.reduceAdd]))
        | (refine o_gs rfl rfl (fun hc => ?_) (fun hc => ?_) <;> (try simp only [decide_eq_true_eq, decide_eq_false_iff_not, Bool.not_eq_true', Bool.not_eq_false', Bool.not_eq_true, Bool.not_eq_false, Bool.and_eq_true, Bool.or_eq_false_iff, Bool.not_not] at hc) <;> (try (first | contradiction | (exfalso; omega))))
        | (refine g_cond rfl (fun hc => ?_) (fun hc => ?_) <;> (try simp only [decide_eq_true_eq, decide_eq_false_iff_not, Bool.not_eq_true', Bool.not_eq_false', Bool.not_eq_true, Bool.not_eq_false, Bool.and_eq_true, Bool.or_eq_false_iff, Bool.not_not] at hc) <;> (try (first | contradiction | (exfalso; omega))))
      refine g_conv (t_nilB (i := 1) (k := 1) (z := 1) rfl rfl rfl (by decide)) ?_
      try dsimp only [setRow, List.map_cons, List.map_nil, scC, List.set_cons_zero, List.set_cons_succ]
      refine g_conv (t_nilB (i := 1) (k := 2) (z := 1) rfl rfl rfl (by decide)) ?_
      try dsimp only [setRow, List.map_cons, List.map_nil, scC, List.set_cons_zero, List.set_cons_succ]
      repeat (first | refine g_ret ?_ | refine q_sr ?_ | refine q_br ?_ | refine q_lr ?_ | refine q_cr ?_)
      refine ends_id ?_
      refine endK [?_, ?_] (h2 := ?_) (h3 := ?_) (nd := ?_)
      rotate_left 2
      all_goals (repeat' first | with_reducible exact SVLe.refl | exact SVLe.any | exact SVLe.one (.sh rfl) | exact SVLe.one (.nil (by decide)) | refine SVLe.agg ?_ | refine SVLe.tup ?_ | exact TLe.nil | refine TLe.cons ?_ ?_ | exact CsLe.nil | refine CsLe.cons ?_ ?_ | exact CLe.refl | exact CLe.sh rfl | exact CLe.nil (by decide) | refine cle_i ?_ | refine cle_b ?_ | exact trivial | refine And.intro ?_ ?_ | exact Or.inl rfl | exact Or.inr rfl | refine Or.inr (row_eq ?_) | (refine Or.inr (bx_eq rfl rfl ?_); (try dsimp only [C.ren, C.ren.all]); (try exact rfl)) | exact SVLe.refl | refine sle_i ?_ | refine sle_b ?_)
      all_goals first | exact (show nodupB _ = true from rfl) | exact Or.inr rfl | (rfl)
    · refine g_turn (t_freeze (i := 3) rfl nowR) ?_
      refine g_turn (t_freeze (i := 4) rfl nowR) ?_
      have hh := hc
      repeat' first
        | refine g_seq ?_
        | refine g_skip ?_
        | refine g_exit ?_
        | refine g_block ?_
        | refine g_reg ?_
        | refine g_if_t rfl ?_
        | refine g_if_f rfl ?_
        | refine o_nil ?_
        | refine q_s ?_
        | refine q_se ?_
        | refine q_b ?_
        | refine q_be rfl ?_
        | refine q_bn rfl ?_
        | refine q_le ?_
        | refine q_ce ?_
        | (apply n3; exact a_new (gb := .bx _) rfl; exact rfl; (try dsimp only [List.map_cons, List.map_nil, scC, Nat.reduceAdd]))
        | (apply p3; (first | exact pu1 | exact puL | exact a_ne rfl rfl | exact a_neS rfl rfl rfl | exact puN | exact a_len_str rfl (fT rfl) | exact puC | exact a_add rfl rfl (by omega) (by omega)); exact rfl)
        | (apply w3; exact a_st_bx rfl rfl rfl rfl (fN rfl rfl) (Nat.le_of_ble_eq_true rfl) rfl; exact rfl; (try dsimp only [setRow, List.map_cons, List.map_nil, scC, List.set_cons_zero, List.set_cons_succ, List.take_succ_cons, List.take_zero, List.drop_succ_cons, List.drop_zero, Nat.reduceAdd]))
        | (apply c4 0; exact callK1 (θ := []) (hD := (budgeted_ok _ _ preB40)); exact rfl; exact rfl; exact rfl; (try dsimp only [SV.ren, C.ren, C.ren.all, tRen, GB.ren, calF, upOf, List.cons_append, List.nil_append, Nat.reduceAdd]))
        | (apply c4 0; exact callK1 (θ := []) (hD := (budgeted_ok _ _ preB40)); exact rfl; exact rfl; exact rfl; (try dsimp only [SV.ren, C.ren, C.ren.all, tRen, GB.ren, calF, upOf, List.cons_append, List.nil_append, Nat.reduceAdd]))
        | (apply c4 3; exact callK0 (θ := []) (hD := (tracked_ok _ _ preB40 preB40 preB40)); exact rfl; exact rfl; exact rfl; (try dsimp only [SV.ren, C.ren, C.ren.all, tRen, GB.ren, calF, upOf, List.cons_append, List.nil_append, Nat.reduceAdd]))
        | (apply c4 2; exact callK0 (θ := [_, _, _]) (hD := (shiftTo_ok _ _ preB40 preB40 _)); exact rfl; exact rfl; exact rfl; (try dsimp only [SV.ren, C.ren, C.ren.all, tRen, GB.ren, calF, upOf, List.cons_append, List.nil_append, Nat.reduceAdd]))
        | (refine o_gs rfl rfl (fun hc => ?_) (fun hc => ?_) <;> (try simp only [decide_eq_true_eq, decide_eq_false_iff_not, Bool.not_eq_true', Bool.not_eq_false', Bool.not_eq_true, Bool.not_eq_false, Bool.and_eq_true, Bool.or_eq_false_iff, Bool.not_not] at hc) <;> (try (first | contradiction | (exfalso; omega))))
        | (refine g_cond rfl (fun hc => ?_) (fun hc => ?_) <;> (try simp only [decide_eq_true_eq, decide_eq_false_iff_not, Bool.not_eq_true', Bool.not_eq_false', Bool.not_eq_true, Bool.not_eq_false, Bool.and_eq_true, Bool.or_eq_false_iff, Bool.not_not] at hc) <;> (try (first | contradiction | (exfalso; omega))))
      refine g_loop_id ?_
      refine loopK [4, 5, 7, 9, 34] [] (fun k : Int => 0 ≤ k ∧ k ≤ (qkRun m b).x.rcs.length ∧ fndT (qkRun m b).x.pos (qkRun m b).x.rcs ((qkRun m b).x.rcs.length - k.toNat) k.toNat = fndT (qkRun m b).x.pos (qkRun m b).x.rcs (qkRun m b).x.rcs.length 0) (fun k => [(35, .one (int k))]) (fun _ => []) (fun k => ((qkRun m b).x.rcs.length - k).toNat) (0 : Int) [0, 1, 2, 3, 4] (hI := ?_) (hr := ?_)
      · exact ⟨by omega, by omega, by rfl⟩
      · rintro k ⟨i1, i2, i3⟩
        dsimp only [List.cons_append, List.nil_append] at *
        skip
        repeat' first
          | refine g_seq ?_
          | refine g_skip ?_
          | refine g_exit ?_
          | refine g_block ?_
          | refine g_reg (id := 8) ?_
          | refine g_reg (id := 9) ?_
          | refine g_reg (id := 14) ?_
          | refine g_reg (id := 15) ?_
          | refine g_reg (id := 16) ?_
          | refine g_if_t rfl ?_
          | refine g_if_f rfl ?_
          | refine o_nil ?_
          | refine q_s ?_
          | refine q_se ?_
          | refine q_b ?_
          | refine q_be rfl ?_
          | refine q_bn rfl ?_
          | refine q_le ?_
          | refine q_ce ?_
          | (apply p3; (first | exact pu1 | exact puC | exact a_ne rfl rfl | exact a_neS rfl rfl rfl); exact rfl)
          | (apply w3; exact a_st_bx rfl rfl rfl rfl (fN rfl rfl) (Nat.le_of_ble_eq_true rfl) rfl; exact rfl; (try dsimp only [setRow, List.map_cons, List.map_nil, scC, List.set_cons_zero, List.set_cons_succ, List.take_succ_cons, List.take_zero, List.drop_succ_cons, List.drop_zero, Nat.reduceAdd]))
          | (refine o_gs rfl rfl (fun hc => ?_) (fun hc => ?_) <;> (try simp only [decide_eq_true_eq, decide_eq_false_iff_not, Bool.not_eq_true', Bool.not_eq_false', Bool.not_eq_true, Bool.not_eq_false, Bool.and_eq_true, Bool.or_eq_false_iff, Bool.not_not] at hc) <;> (try (first | contradiction | (exfalso; omega))))
          | (refine g_cond rfl (fun hc => ?_) (fun hc => ?_) <;> (try simp only [decide_eq_true_eq, decide_eq_false_iff_not, Bool.not_eq_true', Bool.not_eq_false', Bool.not_eq_true, Bool.not_eq_false, Bool.and_eq_true, Bool.or_eq_false_iff, Bool.not_not] at hc) <;> (try (first | contradiction | (exfalso; omega))))
        · have hk' : k.toNat < (qkRun m b).x.rcs.length := by omega
          rw [fndT_s i1 hk'] at i3
          repeat' first
            | refine g_seq ?_
            | refine g_skip ?_
            | refine g_exit ?_
            | refine g_block ?_
            | refine g_reg (id := 8) ?_
            | refine g_reg (id := 9) ?_
            | refine g_reg (id := 10) ?_
            | refine g_reg (id := 11) ?_
            | refine g_reg (id := 14) ?_
            | refine g_reg (id := 15) ?_
            | refine g_reg (id := 16) ?_
            | refine g_if_t rfl ?_
            | refine g_if_f rfl ?_
            | refine o_nil ?_
            | refine q_s ?_
            | refine q_se ?_
            | refine q_b ?_
            | refine q_be rfl ?_
            | refine q_bn rfl ?_
            | refine q_le ?_
            | refine q_ce ?_
            | (apply n3; exact a_new (gb := .bx _) rfl; exact rfl; (try dsimp only [List.map_cons, List.map_nil, scC, Nat.reduceAdd]))
            | (apply p3; (first | exact pu1 | exact puC | exact a_ne rfl rfl | exact a_neS rfl rfl rfl); exact rfl)
            | (apply w3; exact a_st_bx rfl rfl rfl rfl (fN rfl rfl) (Nat.le_of_ble_eq_true rfl) rfl; exact rfl; (try dsimp only [setRow, List.map_cons, List.map_nil, scC, List.set_cons_zero, List.set_cons_succ, List.take_succ_cons, List.take_zero, List.drop_succ_cons, List.drop_zero, Nat.reduceAdd]))
            | (apply c4 2; exact callK0 (θ := [2, 3, 4]) (hD := (shiftTo_ok (qkRun m b).x k preB40 preB40 hq)); exact rfl; exact rfl; exact rfl; (try dsimp only [SV.ren, C.ren, C.ren.all, tRen, GB.ren, calF, upOf, List.cons_append, List.nil_append, Nat.reduceAdd]))
            | (refine o_gs rfl rfl (fun hc => ?_) (fun hc => ?_) <;> (try simp only [decide_eq_true_eq, decide_eq_false_iff_not, Bool.not_eq_true', Bool.not_eq_false', Bool.not_eq_true, Bool.not_eq_false, Bool.and_eq_true, Bool.or_eq_false_iff, Bool.not_not] at hc) <;> (try (first | contradiction | (exfalso; omega))))
            | (refine g_cond rfl (fun hc => ?_) (fun hc => ?_) <;> (try simp only [decide_eq_true_eq, decide_eq_false_iff_not, Bool.not_eq_true', Bool.not_eq_false', Bool.not_eq_true, Bool.not_eq_false, Bool.and_eq_true, Bool.or_eq_false_iff, Bool.not_not] at hc) <;> (try (first | contradiction | (exfalso; omega))))
          · rw [if_pos hc] at i3
            rw [fs_some hk hh i3.symm]
            repeat' first
              | refine g_seq ?_
              | refine g_skip ?_
              | refine g_exit ?_
              | refine g_block ?_
              | refine g_reg ?_
              | refine g_if_t rfl ?_
              | refine g_if_f rfl ?_
              | refine o_nil ?_
              | refine q_s ?_
              | refine q_se ?_
              | refine q_b ?_
              | refine q_be rfl ?_
              | refine q_bn rfl ?_
              | refine q_le ?_
              | refine q_ce ?_
              | (apply n3; exact a_new (gb := .bx _) rfl; exact rfl; (try dsimp only [List.map_cons, List.map_nil, scC, Nat.reduceAdd]))
              | (apply p3; (first | exact pu1 | exact puL | exact puC | exact a_add rfl rfl (by omega) (by omega) | exact a_ne rfl rfl | exact a_neS rfl rfl rfl); exact rfl)
              | (apply w3; exact a_st_bx rfl rfl rfl rfl (fN rfl rfl) (Nat.le_of_ble_eq_true rfl) rfl; exact rfl; (try dsimp only [setRow, List.map_cons, List.map_nil, scC, List.set_cons_zero, List.set_cons_succ, List.take_succ_cons, List.take_zero, List.drop_succ_cons, List.drop_zero, Nat.reduceAdd]))
              | (apply c4 2; exact callK0 (θ := [2, 3, 4]) (hD := (shiftTo_ok (qkRun m b).x k preB40 preB40 hq)); exact rfl; exact rfl; exact rfl; (try dsimp only [SV.ren, C.ren, C.ren.all, tRen, GB.ren, calF, upOf, List.cons_append, List.nil_append, Nat.reduceAdd]))
              | (refine o_gs rfl rfl (fun hc => ?_) (fun hc => ?_) <;> (try simp only [decide_eq_true_eq, decide_eq_false_iff_not, Bool.not_eq_true', Bool.not_eq_false', Bool.not_eq_true, Bool.not_eq_false, Bool.and_eq_true, Bool.or_eq_false_iff, Bool.not_not] at hc) <;> (try (first | contradiction | (exfalso; omega))))
              | (refine g_cond rfl (fun hc => ?_) (fun hc => ?_) <;> (try simp only [decide_eq_true_eq, decide_eq_false_iff_not, Bool.not_eq_true', Bool.not_eq_false', Bool.not_eq_true, Bool.not_eq_false, Bool.and_eq_true, Bool.or_eq_false_iff, Bool.not_not] at hc) <;> (try (first | contradiction | (exfalso; omega))))
            repeat (first | refine g_ret ?_ | refine q_sr ?_ | refine q_br ?_ | refine q_lr ?_ | refine q_cr ?_)
            refine ends_id ?_
            refine endK [?_, ?_] (h2 := ?_) (h3 := ?_) (nd := ?_)
            rotate_left 2
            all_goals (repeat' first | with_reducible exact SVLe.refl | exact SVLe.any | exact SVLe.one (.sh rfl) | exact SVLe.one (.nil (by decide)) | refine SVLe.agg ?_ | refine SVLe.tup ?_ | exact TLe.nil | refine TLe.cons ?_ ?_ | exact CsLe.nil | refine CsLe.cons ?_ ?_ | exact CLe.refl | exact CLe.sh rfl | exact CLe.nil (by decide) | refine cle_i ?_ | refine cle_b ?_ | exact trivial | refine And.intro ?_ ?_ | exact Or.inl rfl | exact Or.inr rfl | refine Or.inr (row_eq ?_) | (refine Or.inr (bx_eq rfl rfl ?_); (try dsimp only [C.ren, C.ren.all]); (try exact rfl)) | exact SVLe.refl | refine sle_i ?_ | refine sle_b ?_)
            all_goals first | exact (show nodupB _ = true from rfl) | exact Or.inr rfl | (rfl)
          · rw [if_neg (by simp [hc])] at i3
            repeat' first
              | refine g_seq ?_
              | refine g_skip ?_
              | refine g_exit ?_
              | refine g_block ?_
              | refine g_reg ?_
              | refine g_if_t rfl ?_
              | refine g_if_f rfl ?_
              | refine o_nil ?_
              | refine q_s ?_
              | refine q_se ?_
              | refine q_b ?_
              | refine q_be rfl ?_
              | refine q_bn rfl ?_
              | refine q_le ?_
              | refine q_ce ?_
              | (apply n3; exact a_new (gb := .bx _) rfl; exact rfl; (try dsimp only [List.map_cons, List.map_nil, scC, Nat.reduceAdd]))
              | (apply p3; (first | exact pu1 | exact puL | exact puC | exact a_add rfl rfl (by omega) (by omega) | exact a_ne rfl rfl | exact a_neS rfl rfl rfl); exact rfl)
              | (apply w3; exact a_st_bx rfl rfl rfl rfl (fN rfl rfl) (Nat.le_of_ble_eq_true rfl) rfl; exact rfl; (try dsimp only [setRow, List.map_cons, List.map_nil, scC, List.set_cons_zero, List.set_cons_succ, List.take_succ_cons, List.take_zero, List.drop_succ_cons, List.drop_zero, Nat.reduceAdd]))
              | (apply c4 2; exact callK0 (θ := [2, 3, 4]) (hD := (shiftTo_ok (qkRun m b).x k preB40 preB40 hq)); exact rfl; exact rfl; exact rfl; (try dsimp only [SV.ren, C.ren, C.ren.all, tRen, GB.ren, calF, upOf, List.cons_append, List.nil_append, Nat.reduceAdd]))
              | (refine o_gs rfl rfl (fun hc => ?_) (fun hc => ?_) <;> (try simp only [decide_eq_true_eq, decide_eq_false_iff_not, Bool.not_eq_true', Bool.not_eq_false', Bool.not_eq_true, Bool.not_eq_false, Bool.and_eq_true, Bool.or_eq_false_iff, Bool.not_not] at hc) <;> (try (first | contradiction | (exfalso; omega))))
              | (refine g_cond rfl (fun hc => ?_) (fun hc => ?_) <;> (try simp only [decide_eq_true_eq, decide_eq_false_iff_not, Bool.not_eq_true', Bool.not_eq_false', Bool.not_eq_true, Bool.not_eq_false, Bool.and_eq_true, Bool.or_eq_false_iff, Bool.not_not] at hc) <;> (try (first | contradiction | (exfalso; omega))))
            refine q_again (k + 1) [0, 1, 2, 3, 4] (by exact stk) ?_ ?_
            · exact ⟨by omega, by omega, i3⟩
            · omega
        · have hz : (qkRun m b).x.rcs.length - k.toNat = 0 := by omega
          have hf : (qkRun m b).full = true := by
            cases h : (qkRun m b).full with
            | true => rfl
            | false => rw [h] at hc; simp at hc
          have h0 : fndT (qkRun m b).x.pos (qkRun m b).x.rcs (qkRun m b).x.rcs.length 0 = none := by rw [← i3, hz]; unfold fndT; rfl
          rw [fs_none hk hh h0]
          refine g_conv (t_nilB (i := 1) (k := 1) (z := 1) rfl rfl rfl (by decide)) ?_
          try dsimp only [setRow, List.map_cons, List.map_nil, scC, List.set_cons_zero, List.set_cons_succ]
          refine g_conv (t_nilB (i := 1) (k := 2) (z := 1) rfl rfl rfl (by decide)) ?_
          try dsimp only [setRow, List.map_cons, List.map_nil, scC, List.set_cons_zero, List.set_cons_succ]
          repeat (first | refine g_ret ?_ | refine q_sr ?_ | refine q_br ?_ | refine q_lr ?_ | refine q_cr ?_)
          refine ends_id ?_
          refine endK [?_, ?_] (h2 := ?_) (h3 := ?_) (nd := ?_)
          rotate_left 2
          all_goals (repeat' first | with_reducible exact SVLe.refl | exact SVLe.any | exact SVLe.one (.sh rfl) | exact SVLe.one (.nil (by decide)) | refine SVLe.agg ?_ | refine SVLe.tup ?_ | exact TLe.nil | refine TLe.cons ?_ ?_ | exact CsLe.nil | refine CsLe.cons ?_ ?_ | exact CLe.refl | exact CLe.sh rfl | exact CLe.nil (by decide) | refine cle_i ?_ | refine cle_b ?_ | exact trivial | refine And.intro ?_ ?_ | exact Or.inl rfl | exact Or.inr rfl | refine Or.inr (row_eq ?_) | (refine Or.inr (bx_eq rfl rfl ?_); (try dsimp only [C.ren, C.ren.all]); (try exact rfl)) | exact SVLe.refl | refine sle_i ?_ | refine sle_b ?_)
          all_goals first | exact (show nodupB _ = true from rfl) | exact Or.inr rfl | ((simp only [if_pos hf]))
        · have hf : ¬ (qkRun m b).full = true := fun h => by rw [if_pos h] at hc; omega
          have hz : (qkRun m b).x.rcs.length - k.toNat = 0 := by omega
          have h0 : fndT (qkRun m b).x.pos (qkRun m b).x.rcs (qkRun m b).x.rcs.length 0 = none := by rw [← i3, hz]; unfold fndT; rfl
          rw [fs_none hk hh h0]
          refine g_conv (t_nilB (i := 1) (k := 1) (z := 1) rfl rfl rfl (by decide)) ?_
          try dsimp only [setRow, List.map_cons, List.map_nil, scC, List.set_cons_zero, List.set_cons_succ]
          refine g_conv (t_nilB (i := 1) (k := 2) (z := 1) rfl rfl rfl (by decide)) ?_
          try dsimp only [setRow, List.map_cons, List.map_nil, scC, List.set_cons_zero, List.set_cons_succ]
          repeat (first | refine g_ret ?_ | refine q_sr ?_ | refine q_br ?_ | refine q_lr ?_ | refine q_cr ?_)
          refine ends_id ?_
          refine endK [?_, ?_] (h2 := ?_) (h3 := ?_) (nd := ?_)
          rotate_left 2
          all_goals (repeat' first | with_reducible exact SVLe.refl | exact SVLe.any | exact SVLe.one (.sh rfl) | exact SVLe.one (.nil (by decide)) | refine SVLe.agg ?_ | refine SVLe.tup ?_ | exact TLe.nil | refine TLe.cons ?_ ?_ | exact CsLe.nil | refine CsLe.cons ?_ ?_ | exact CLe.refl | exact CLe.sh rfl | exact CLe.nil (by decide) | refine cle_i ?_ | refine cle_b ?_ | exact trivial | refine And.intro ?_ ?_ | exact Or.inl rfl | exact Or.inr rfl | refine Or.inr (row_eq ?_) | (refine Or.inr (bx_eq rfl rfl ?_); (try dsimp only [C.ren, C.ren.all]); (try exact rfl)) | exact SVLe.refl | refine sle_i ?_ | refine sle_b ?_)
          all_goals first | exact (show nodupB _ = true from rfl) | exact Or.inr rfl | ((simp only [if_neg hf]))
  · rw [fs_code hk]
    refine does_of (k := 0) Try.func42 rfl Try.ntmps42 rfl rfl fun w F0 S0 ρ0 => ?_
    dsimp only [argT, argH]
    repeat' first
      | refine g_seq ?_
      | refine g_skip ?_
      | refine g_exit ?_
      | refine g_block ?_
      | refine g_reg ?_
      | refine g_if_t rfl ?_
      | refine g_if_f rfl ?_
      | refine o_nil ?_
      | refine q_s ?_
      | refine q_se ?_
      | refine q_b ?_
      | refine q_be rfl ?_
      | refine q_bn rfl ?_
      | refine q_le ?_
      | refine q_ce ?_
      | (apply n3; exact a_new (gb := .bx _) rfl; exact rfl; (try dsimp only [List.map_cons, List.map_nil, scC, Nat.reduceAdd]))
      | (apply p3; (first | exact pu1 | exact puL | exact a_ne rfl rfl | exact a_neS rfl rfl rfl | exact puN | exact a_len_str rfl (fT rfl) | exact puC | exact a_add rfl rfl (by omega) (by omega)); exact rfl)
      | (apply w3; exact a_st_bx rfl rfl rfl rfl (fN rfl rfl) (Nat.le_of_ble_eq_true rfl) rfl; exact rfl; (try dsimp only [setRow, List.map_cons, List.map_nil, scC, List.set_cons_zero, List.set_cons_succ, List.take_succ_cons, List.take_zero, List.drop_succ_cons, List.drop_zero, Nat.reduceAdd]))
      | (apply c4 0; exact callK1 (θ := []) (hD := (budgeted_ok _ _ preB40)); exact rfl; exact rfl; exact rfl; (try dsimp only [SV.ren, C.ren, C.ren.all, tRen, GB.ren, calF, upOf, List.cons_append, List.nil_append, Nat.reduceAdd]))
      | (apply c4 0; exact callK1 (θ := []) (hD := (budgeted_ok _ _ preB40)); exact rfl; exact rfl; exact rfl; (try dsimp only [SV.ren, C.ren, C.ren.all, tRen, GB.ren, calF, upOf, List.cons_append, List.nil_append, Nat.reduceAdd]))
      | (apply c4 3; exact callK0 (θ := []) (hD := (tracked_ok _ _ preB40 preB40 preB40)); exact rfl; exact rfl; exact rfl; (try dsimp only [SV.ren, C.ren, C.ren.all, tRen, GB.ren, calF, upOf, List.cons_append, List.nil_append, Nat.reduceAdd]))
      | (apply c4 2; exact callK0 (θ := [2, 3, 4]) (hD := (shiftTo_ok (qkRun m b).x k preB40 preB40 hq)); exact rfl; exact rfl; exact rfl; (try dsimp only [SV.ren, C.ren, C.ren.all, tRen, GB.ren, calF, upOf, List.cons_append, List.nil_append, Nat.reduceAdd]))
      | (refine o_gs rfl rfl (fun hc => ?_) (fun hc => ?_) <;> (try simp only [decide_eq_true_eq, decide_eq_false_iff_not, Bool.not_eq_true', Bool.not_eq_false', Bool.not_eq_true, Bool.not_eq_false, Bool.and_eq_true, Bool.or_eq_false_iff, Bool.not_not] at hc) <;> (try (first | contradiction | (exfalso; omega))))
      | (refine g_cond rfl (fun hc => ?_) (fun hc => ?_) <;> (try simp only [decide_eq_true_eq, decide_eq_false_iff_not, Bool.not_eq_true', Bool.not_eq_false', Bool.not_eq_true, Bool.not_eq_false, Bool.and_eq_true, Bool.or_eq_false_iff, Bool.not_not] at hc) <;> (try (first | contradiction | (exfalso; omega))))
    refine g_conv (t_nilB (i := 1) (k := 1) (z := 1) rfl rfl rfl (by decide)) ?_
    try dsimp only [setRow, List.map_cons, List.map_nil, scC, List.set_cons_zero, List.set_cons_succ]
    refine g_conv (t_nilB (i := 1) (k := 2) (z := 1) rfl rfl rfl (by decide)) ?_
    try dsimp only [setRow, List.map_cons, List.map_nil, scC, List.set_cons_zero, List.set_cons_succ]
    repeat (first | refine g_ret ?_ | refine q_sr ?_ | refine q_br ?_ | refine q_lr ?_ | refine q_cr ?_)
    refine ends_id ?_
    refine endK [?_, ?_] (h2 := ?_) (h3 := ?_) (nd := ?_)
    rotate_left 2
    all_goals (repeat' first | with_reducible exact SVLe.refl | exact SVLe.any | exact SVLe.one (.sh rfl) | exact SVLe.one (.nil (by decide)) | refine SVLe.agg ?_ | refine SVLe.tup ?_ | exact TLe.nil | refine TLe.cons ?_ ?_ | exact CsLe.nil | refine CsLe.cons ?_ ?_ | exact CLe.refl | exact CLe.sh rfl | exact CLe.nil (by decide) | refine cle_i ?_ | refine cle_b ?_ | exact trivial | refine And.intro ?_ ?_ | exact Or.inl rfl | exact Or.inr rfl | refine Or.inr (row_eq ?_) | (refine Or.inr (bx_eq rfl rfl ?_); (try dsimp only [C.ren, C.ren.all]); (try exact rfl)) | exact SVLe.refl | refine sle_i ?_ | refine sle_b ?_)
    all_goals first | exact (show nodupB _ = true from rfl) | exact Or.inr rfl | (rfl)
end Go.Proofs.Ytncccjpbaeaafaa
end
section
set_option linter.unusedVariables false
set_option linter.unusedSimpArgs false
set_option maxRecDepth 100000
set_option maxHeartbeats 4000000
namespace Go.Proofs.Ytncccjpbaeaafaa
open Go Foot
theorem preB41 {p : Prop} (h : p := by first | with_reducible assumption | omega | (simp only [List.length_append, List.length_cons, List.length_nil, List.length_set, List.length_replicate, List.length_take, List.length_drop, List.length_tail, List.length_dropLast, List.length_reverse] at *; omega) | exact mem_len (by assumption) (by omega) | (with_reducible refine Int.le_trans (Int.ofNat_le.2 (trimR_len _)) ?_; simp only [List.length_cons, List.length_tail]; omega) | (exact (ruAt_ok (by assumption) (by assumption) (by assumption)).2.1) | (exact (ruAt_ok (by assumption) (by assumption) (by assumption)).2.1) | (have := vMach_bd (by assumption); omega) | (simp only [mC_ch, mC_tu]; omega) | (with_reducible refine Int.le_trans (Int.ofNat_le.2 (pushL_len _ _)) ?_; simp only [List.length_dropLast]; omega) | exact (ask_ok (by assumption)).1 | exact (ask_ok (by assumption)).2.1 | exact (ask_ok (by assumption)).2.2.1 | exact (ask_ok (by assumption)).2.2.2 | trivial) : p := h
theorem l25Ask_ok (m : Mach) (b : Int) (hm : (m.ru.length : Int) ≤ 16777216) : Does Try.prog 80 [.one (maB m), .one (int b)] [] (.one (int (askC m blank b))) [] := by
  have h1 : vMach m = false → askC m blank b = 1 := fun h => by unfold askC; rw [if_neg (by simp [h])]
  have h2 : vMach m = true → askC m blank b = if 1 ≤ b ∧ b ≤ 20000 then 0 else 2 := fun h => by unfold askC; rw [if_pos ⟨h, vBlank h⟩]
  by_cases hv : vMach m = true
  · rw [h2 hv]
    refine does_of (k := 0) Try.func80 rfl Try.ntmps80 rfl rfl fun w F0 S0 ρ0 => ?_
    dsimp only [argT, argH]
    repeat' first
      | refine g_seq ?_
      | refine g_skip ?_
      | refine g_exit ?_
      | refine g_block ?_
      | refine g_reg ?_
      | refine g_if_t rfl ?_
      | refine g_if_f rfl ?_
      | refine o_nil ?_
      | refine q_s ?_
      | refine q_se ?_
      | refine q_b ?_
      | refine q_be rfl ?_
      | refine q_bn rfl ?_
      | refine q_le ?_
      | refine q_ce ?_
      | (apply p3; exact pu1; exact rfl)
      | (apply c4 0; exact callK1 (θ := []) (hD := (l05Is_ok _ preB41)); exact rfl; exact rfl; exact rfl; (try dsimp only [SV.ren, C.ren, C.ren.all, tRen, GB.ren, calF, upOf, List.cons_append, List.nil_append, Nat.reduceAdd]))
      | (apply c4 0; exact callK1 (θ := []) (hD := (l05Budget_ok _)); exact rfl; exact rfl; exact rfl; (try dsimp only [SV.ren, C.ren, C.ren.all, tRen, GB.ren, calF, upOf, List.cons_append, List.nil_append, Nat.reduceAdd]))
      | (refine o_gs rfl rfl (fun hc => ?_) (fun hc => ?_) <;> (try simp only [decide_eq_true_eq, decide_eq_false_iff_not, Bool.not_eq_true', Bool.not_eq_false', Bool.not_eq_true, Bool.not_eq_false, Bool.and_eq_true, Bool.or_eq_false_iff, Bool.not_not] at hc) <;> (try (first | contradiction | (exfalso; omega))))
      | (refine g_cond rfl (fun hc => ?_) (fun hc => ?_) <;> (try simp only [decide_eq_true_eq, decide_eq_false_iff_not, Bool.not_eq_true', Bool.not_eq_false', Bool.not_eq_true, Bool.not_eq_false, Bool.and_eq_true, Bool.or_eq_false_iff, Bool.not_not] at hc) <;> (try (first | contradiction | (exfalso; omega))))
    · rw [hv] at hc; cases hc
    · repeat (first | refine g_ret ?_ | refine q_sr ?_ | refine q_br ?_ | refine q_lr ?_ | refine q_cr ?_)
      refine ends_id ?_
      refine endK [] (h2 := ?_) (h3 := ?_) (nd := ?_)
      all_goals (repeat' first | with_reducible exact SVLe.refl | exact SVLe.any | exact SVLe.one (.sh rfl) | exact SVLe.one (.nil (by decide)) | refine SVLe.agg ?_ | refine SVLe.tup ?_ | exact TLe.nil | refine TLe.cons ?_ ?_ | exact CsLe.nil | refine CsLe.cons ?_ ?_ | exact CLe.refl | exact CLe.sh rfl | exact CLe.nil (by decide) | refine cle_i ?_ | refine cle_b ?_ | exact trivial | refine And.intro ?_ ?_ | exact Or.inl rfl | exact Or.inr rfl | refine Or.inr (row_eq ?_) | (refine Or.inr (bx_eq rfl rfl ?_); (try dsimp only [C.ren, C.ren.all]); (try exact rfl)) | exact SVLe.refl | refine sle_i ?_ | refine sle_b ?_)
      all_goals first | exact (show nodupB _ = true from rfl) | exact Or.inr rfl | ((rw [if_neg hc]))
    · repeat (first | refine g_ret ?_ | refine q_sr ?_ | refine q_br ?_ | refine q_lr ?_ | refine q_cr ?_)
      refine ends_id ?_
      refine endK [] (h2 := ?_) (h3 := ?_) (nd := ?_)
      all_goals (repeat' first | with_reducible exact SVLe.refl | exact SVLe.any | exact SVLe.one (.sh rfl) | exact SVLe.one (.nil (by decide)) | refine SVLe.agg ?_ | refine SVLe.tup ?_ | exact TLe.nil | refine TLe.cons ?_ ?_ | exact CsLe.nil | refine CsLe.cons ?_ ?_ | exact CLe.refl | exact CLe.sh rfl | exact CLe.nil (by decide) | refine cle_i ?_ | refine cle_b ?_ | exact trivial | refine And.intro ?_ ?_ | exact Or.inl rfl | exact Or.inr rfl | refine Or.inr (row_eq ?_) | (refine Or.inr (bx_eq rfl rfl ?_); (try dsimp only [C.ren, C.ren.all]); (try exact rfl)) | exact SVLe.refl | refine sle_i ?_ | refine sle_b ?_)
      all_goals first | exact (show nodupB _ = true from rfl) | exact Or.inr rfl | ((rw [if_pos hc]))
  · rw [h1 (by simpa using hv)]
    refine does_of (k := 0) Try.func80 rfl Try.ntmps80 rfl rfl fun w F0 S0 ρ0 => ?_
    dsimp only [argT, argH]
    repeat' first
      | refine g_seq ?_
      | refine g_skip ?_
      | refine g_exit ?_
      | refine g_block ?_
      | refine g_reg ?_
      | refine g_if_t rfl ?_
      | refine g_if_f rfl ?_
      | refine o_nil ?_
      | refine q_s ?_
      | refine q_se ?_
      | refine q_b ?_
      | refine q_be rfl ?_
      | refine q_bn rfl ?_
      | refine q_le ?_
      | refine q_ce ?_
      | (apply p3; exact pu1; exact rfl)
      | (apply c4 0; exact callK1 (θ := []) (hD := (l05Is_ok _ preB41)); exact rfl; exact rfl; exact rfl; (try dsimp only [SV.ren, C.ren, C.ren.all, tRen, GB.ren, calF, upOf, List.cons_append, List.nil_append, Nat.reduceAdd]))
      | (apply c4 0; exact callK1 (θ := []) (hD := (l05Budget_ok _)); exact rfl; exact rfl; exact rfl; (try dsimp only [SV.ren, C.ren, C.ren.all, tRen, GB.ren, calF, upOf, List.cons_append, List.nil_append, Nat.reduceAdd]))
      | (refine o_gs rfl rfl (fun hc => ?_) (fun hc => ?_) <;> (try simp only [decide_eq_true_eq, decide_eq_false_iff_not, Bool.not_eq_true', Bool.not_eq_false', Bool.not_eq_true, Bool.not_eq_false, Bool.and_eq_true, Bool.or_eq_false_iff, Bool.not_not] at hc) <;> (try (first | contradiction | (exfalso; omega))))
      | (refine g_cond rfl (fun hc => ?_) (fun hc => ?_) <;> (try simp only [decide_eq_true_eq, decide_eq_false_iff_not, Bool.not_eq_true', Bool.not_eq_false', Bool.not_eq_true, Bool.not_eq_false, Bool.and_eq_true, Bool.or_eq_false_iff, Bool.not_not] at hc) <;> (try (first | contradiction | (exfalso; omega))))
    repeat (first | refine g_ret ?_ | refine q_sr ?_ | refine q_br ?_ | refine q_lr ?_ | refine q_cr ?_)
    refine ends_id ?_
    refine endK [] (h2 := ?_) (h3 := ?_) (nd := ?_)
    all_goals (repeat' first | with_reducible exact SVLe.refl | exact SVLe.any | exact SVLe.one (.sh rfl) | exact SVLe.one (.nil (by decide)) | refine SVLe.agg ?_ | refine SVLe.tup ?_ | exact TLe.nil | refine TLe.cons ?_ ?_ | exact CsLe.nil | refine CsLe.cons ?_ ?_ | exact CLe.refl | exact CLe.sh rfl | exact CLe.nil (by decide) | refine cle_i ?_ | refine cle_b ?_ | exact trivial | refine And.intro ?_ ?_ | exact Or.inl rfl | exact Or.inr rfl | refine Or.inr (row_eq ?_) | (refine Or.inr (bx_eq rfl rfl ?_); (try dsimp only [C.ren, C.ren.all]); (try exact rfl)) | exact SVLe.refl | refine sle_i ?_ | refine sle_b ?_)
    all_goals first | exact (show nodupB _ = true from rfl) | exact Or.inr rfl | (rfl)
theorem l25Made_ok (k : Int) (nu : List Int) : Does Try.prog 123 [.one (int k), .one (.gv 0)] [roI nu] (.agg [int k, .gv 0, .gv 1]) [roI nu, .row 1 []] := by
  refine does_of (k := 1) Try.func123 rfl Try.ntmps123 rfl rfl fun w F0 S0 ρ0 => ?_
  dsimp only [argT, argH]
  repeat' first
    | refine g_seq ?_
    | refine g_skip ?_
    | refine g_exit ?_
    | refine g_block ?_
    | refine g_reg ?_
    | refine g_if_t rfl ?_
    | refine g_if_f rfl ?_
    | refine o_nil ?_
    | refine q_s ?_
    | refine q_se ?_
    | refine q_b ?_
    | refine q_be rfl ?_
    | refine q_bn rfl ?_
    | refine q_le ?_
    | refine q_ce ?_
    | (apply n3; (first | exact a_new (gb := .bx _) rfl | exact a_litE eW [] rfl rfl rfl rfl rfl rfl rfl rfl); exact rfl; (try dsimp only [List.map_cons, List.map_nil, scC, Nat.reduceAdd]))
    | (apply p3; exact pu1; exact rfl)
    | (apply w3; exact a_st_bx rfl rfl rfl rfl (fN rfl rfl) (Nat.le_of_ble_eq_true rfl) rfl; exact rfl; (try dsimp only [setRow, List.map_cons, List.map_nil, scC, List.set_cons_zero, List.set_cons_succ, List.take_succ_cons, List.take_zero, List.drop_succ_cons, List.drop_zero, Nat.reduceAdd]))
    | (refine o_gs rfl rfl (fun hc => ?_) (fun hc => ?_) <;> (try simp only [decide_eq_true_eq, decide_eq_false_iff_not, Bool.not_eq_true', Bool.not_eq_false', Bool.not_eq_true, Bool.not_eq_false, Bool.and_eq_true, Bool.or_eq_false_iff, Bool.not_not] at hc) <;> (try (first | contradiction | (exfalso; omega))))
    | (refine g_cond rfl (fun hc => ?_) (fun hc => ?_) <;> (try simp only [decide_eq_true_eq, decide_eq_false_iff_not, Bool.not_eq_true', Bool.not_eq_false', Bool.not_eq_true, Bool.not_eq_false, Bool.and_eq_true, Bool.or_eq_false_iff, Bool.not_not] at hc) <;> (try (first | contradiction | (exfalso; omega))))
  repeat (first | refine g_ret ?_ | refine q_sr ?_ | refine q_br ?_ | refine q_lr ?_ | refine q_cr ?_)
  refine ends_id ?_
  refine endK [?_] (h2 := ?_) (h3 := ?_) (nd := ?_)
  rotate_left 1
  all_goals (repeat' first | with_reducible exact SVLe.refl | exact SVLe.any | exact SVLe.one (.sh rfl) | exact SVLe.one (.nil (by decide)) | refine SVLe.agg ?_ | refine SVLe.tup ?_ | exact TLe.nil | refine TLe.cons ?_ ?_ | exact CsLe.nil | refine CsLe.cons ?_ ?_ | exact CLe.refl | exact CLe.sh rfl | exact CLe.nil (by decide) | refine cle_i ?_ | refine cle_b ?_ | exact trivial | refine And.intro ?_ ?_ | exact Or.inl rfl | exact Or.inr rfl | refine Or.inr (row_eq ?_) | (refine Or.inr (bx_eq rfl rfl ?_); (try dsimp only [C.ren, C.ren.all]); (try exact rfl)) | exact SVLe.refl | refine sle_i ?_ | refine sle_b ?_)
  all_goals first | exact (show nodupB _ = true from rfl) | exact Or.inr rfl | (rfl)
@[irreducible] def backF (l : List Int) (a e sd : Int) : Int := ((l.drop a.toNat).take ((e + 1).toNat - a.toNat)).foldl (fun z p => max z (sd * (posAt l a - p))) 0
theorem l25Back_ok (l : List Int) (a e sd : Int) (hs : sd = 1 ∨ sd = -1) (h0 : 0 ≤ a) (h1 : a ≤ e) (h2 : e < l.length) (h3 : (l.length : Int) ≤ 20001) (hb : ∀ p ∈ l, -20001 ≤ p ∧ p ≤ 20001) : Does Try.prog 122 [.one (shI l), .one (int a), .one (int e), .one (int sd)] [] (.one (int (backF l a e sd))) [] := by
  have ga : ∀ h, l[a.toNat]'h = posAt l a := fun h => posAt_get h
  have b1 := hb _ (posAt_mem h0 (by omega : a < l.length))
  rw [← ga (by omega)] at b1
  refine does_of (k := 0) Try.func122 rfl Try.ntmps122 rfl rfl fun w F0 S0 ρ0 => ?_
  dsimp only [argT, argH]
  repeat' first
    | refine g_seq ?_
    | refine g_skip ?_
    | refine g_exit ?_
    | refine g_block ?_
    | refine g_reg ?_
    | refine g_if_t rfl ?_
    | refine g_if_f rfl ?_
    | refine o_nil ?_
    | refine q_s ?_
    | refine q_se ?_
    | refine q_b ?_
    | refine q_be rfl ?_
    | refine q_bn rfl ?_
    | refine q_le ?_
    | refine q_ce ?_
    | (apply p3; (first | exact pu1 | exact puC | exact a_add rfl rfl (by omega) (by omega)); exact rfl)
    | (apply g_drN (id := 5) okM [[], [], [], [], [2, 3], [2, 3, 4], [], [], [6, 7], [6, 7, 8], [2, 3, 4, 5, 6, 7, 8, 9], [1, 2, 3, 4, 5, 6, 7, 8, 9, 10], [0, 1, 2, 3, 4, 5, 6, 7, 8, 9, 10, 11], [0, 1, 2, 3, 4, 5, 6, 7, 8, 9, 10, 11, 12]] [([], []), ([], []), ([], []), ([], []), ([], []), ([], []), ([], []), ([], []), ([], []), ([], []), ([], []), ([], []), ([], []), ([], [])] 0; (focus (all_goals refine dp 0 0 [18, 19, 20, 21, 22, 23, 24, 25, 26, 27, 28] [] pu1 ?_; all_goals refine dp 1 0 [17, 19, 20, 21, 22, 23, 24, 25, 26, 27] [] pu1 ?_; all_goals refine dp 2 0 [17, 18, 20, 23, 24, 25, 26] [] pu1 ?_; all_goals refine dp 3 0 [17, 18, 19, 23, 24, 25, 26] [] pu1 ?_; all_goals refine dp 4 3 [17, 18, 23, 24, 25, 26] [] puI ?_; all_goals refine dp 5 7 [17, 18, 23, 24, 25, 26] [] puL ?_; all_goals refine dp 6 0 [17, 18, 19, 20, 21, 22, 24] [] pu1 ?_; all_goals refine dp 7 0 [17, 18, 19, 20, 21, 22, 23] [] pu1 ?_; all_goals refine dp 8 3 [17, 18, 19, 20, 21, 22] [] puI ?_; all_goals refine dp 9 7 [17, 18, 19, 20, 21, 22] [] puL ?_; all_goals refine dp 10 255 [17, 18] [] (a_sub rfl rfl (by omega) (by omega)) ?_; all_goals refine dp 11 1023 [17] [] (by first | exact a_mulB rfl rfl (by omega) (by omega) (by omega) (by omega) | exact a_mul rfl rfl (by first | omega | assumption) (by first | omega | assumption)) ?_; all_goals refine dp 12 4095 [] [] (callD1 (n := _) 0 (θ := []) (hD := (l00Max_ok _ _))) ?_; all_goals refine dp 13 8191 [] [] pu1 ?_; all_goals (refine d_nil ?_; dsimp only [selT, selH, trues, SV.ren, C.ren, C.ren.all, tRen, GB.ren, calF, upOf, List.cons_append, List.nil_append, Nat.reduceAdd, setRow, List.map_cons, List.map_nil, scC, List.set_cons_zero, List.set_cons_succ, List.take_succ_cons, List.take_zero, List.drop_succ_cons, List.drop_zero]))); any_goals kernel_rfl)
    | (refine o_gs rfl rfl (fun hc => ?_) (fun hc => ?_) <;> (try simp only [decide_eq_true_eq, decide_eq_false_iff_not, Bool.not_eq_true', Bool.not_eq_false', Bool.not_eq_true, Bool.not_eq_false, Bool.and_eq_true, Bool.or_eq_false_iff, Bool.not_not] at hc) <;> (try (first | contradiction | (exfalso; omega))))
    | (refine g_cond rfl (fun hc => ?_) (fun hc => ?_) <;> (try simp only [decide_eq_true_eq, decide_eq_false_iff_not, Bool.not_eq_true', Bool.not_eq_false', Bool.not_eq_true, Bool.not_eq_false, Bool.and_eq_true, Bool.or_eq_false_iff, Bool.not_not] at hc) <;> (try (first | contradiction | (exfalso; omega))))
  refine g_loop_id ?_
  refine loopK [0, 1, 2, 3, 8] [] (fun y : Int × Int => a ≤ y.1 ∧ y.1 ≤ e + 1 ∧ 0 ≤ y.2 ∧ y.2 ≤ 40002 ∧ y.2 = ((l.drop a.toNat).take (y.1 - a).toNat).foldl (fun z p => max z (sd * (posAt l a - p))) 0) (fun y => [(10, .one (int y.1)), (9, .one (int y.2))]) (fun _ => []) (fun y => (e + 1 - y.1).toNat) (a, (0 : Int)) [] (hI := ?_) (hr := ?_)
  · exact ⟨by simp, by dsimp only; omega, by simp, by simp, by simp⟩
  · rintro ⟨n, z⟩ ⟨i1, i2, i3, i4, i5⟩
    dsimp only [List.cons_append, List.nil_append] at *
    skip
    repeat' first
      | refine g_seq ?_
      | refine g_skip ?_
      | refine g_exit ?_
      | refine g_block ?_
      | refine g_reg (id := 3) ?_
      | refine g_reg (id := 6) ?_
      | refine g_if_t rfl ?_
      | refine g_if_f rfl ?_
      | refine o_nil ?_
      | refine q_s ?_
      | refine q_se ?_
      | refine q_b ?_
      | refine q_be rfl ?_
      | refine q_bn rfl ?_
      | refine q_le ?_
      | refine q_ce ?_
      | (apply p3; (first | exact pu1 | exact puC); exact rfl)
      | (refine o_gs rfl rfl (fun hc => ?_) (fun hc => ?_) <;> (try simp only [decide_eq_true_eq, decide_eq_false_iff_not, Bool.not_eq_true', Bool.not_eq_false', Bool.not_eq_true, Bool.not_eq_false, Bool.and_eq_true, Bool.or_eq_false_iff, Bool.not_not] at hc) <;> (try (first | contradiction | (exfalso; omega))))
      | (refine g_cond rfl (fun hc => ?_) (fun hc => ?_) <;> (try simp only [decide_eq_true_eq, decide_eq_false_iff_not, Bool.not_eq_true', Bool.not_eq_false', Bool.not_eq_true, Bool.not_eq_false, Bool.and_eq_true, Bool.or_eq_false_iff, Bool.not_not] at hc) <;> (try (first | contradiction | (exfalso; omega))))
    · have gn : ∀ h, l[n.toNat]'h = posAt l n := fun h => posAt_get h
      have b2 := hb _ (posAt_mem (by omega) (by omega : n < l.length))
      rw [← gn (by omega)] at b2
      have hk : sd * (l[a.toNat]'(by omega) - l[n.toNat]'(by omega)) ≤ 40002 ∧ -40002 ≤ sd * (l[a.toNat]'(by omega) - l[n.toNat]'(by omega)) := by rcases hs with rfl | rfl <;> omega
      repeat' first
        | refine g_seq ?_
        | refine g_skip ?_
        | refine g_exit ?_
        | refine g_block ?_
        | refine g_reg ?_
        | refine g_if_t rfl ?_
        | refine g_if_f rfl ?_
        | refine o_nil ?_
        | refine q_s ?_
        | refine q_se ?_
        | refine q_b ?_
        | refine q_be rfl ?_
        | refine q_bn rfl ?_
        | refine q_le ?_
        | refine q_ce ?_
        | (apply p3; (first | exact pu1 | exact puC | exact a_add rfl rfl (by omega) (by omega)); exact rfl)
        | (apply g_drN (id := 5) okM [[], [], [], [], [2, 3], [2, 3, 4], [], [], [6, 7], [6, 7, 8], [2, 3, 4, 5, 6, 7, 8, 9], [1, 2, 3, 4, 5, 6, 7, 8, 9, 10], [0, 1, 2, 3, 4, 5, 6, 7, 8, 9, 10, 11], [0, 1, 2, 3, 4, 5, 6, 7, 8, 9, 10, 11, 12]] [([], []), ([], []), ([], []), ([], []), ([], []), ([], []), ([], []), ([], []), ([], []), ([], []), ([], []), ([], []), ([], []), ([], [])] 0; (focus (all_goals refine dp 0 0 [18, 19, 20, 21, 22, 23, 24, 25, 26, 27, 28] [] pu1 ?_; all_goals refine dp 1 0 [17, 19, 20, 21, 22, 23, 24, 25, 26, 27] [] pu1 ?_; all_goals refine dp 2 0 [17, 18, 20, 23, 24, 25, 26] [] pu1 ?_; all_goals refine dp 3 0 [17, 18, 19, 23, 24, 25, 26] [] pu1 ?_; all_goals refine dp 4 3 [17, 18, 23, 24, 25, 26] [] puI ?_; all_goals refine dp 5 7 [17, 18, 23, 24, 25, 26] [] puL ?_; all_goals refine dp 6 0 [17, 18, 19, 20, 21, 22, 24] [] pu1 ?_; all_goals refine dp 7 0 [17, 18, 19, 20, 21, 22, 23] [] pu1 ?_; all_goals refine dp 8 3 [17, 18, 19, 20, 21, 22] [] puI ?_; all_goals refine dp 9 7 [17, 18, 19, 20, 21, 22] [] puL ?_; all_goals refine dp 10 255 [17, 18] [] (a_sub rfl rfl (by omega) (by omega)) ?_; all_goals refine dp 11 1023 [17] [] (by first | exact a_mulB rfl rfl (by omega) (by omega) (by omega) (by omega) | exact a_mul rfl rfl (by first | omega | assumption) (by first | omega | assumption)) ?_; all_goals refine dp 12 4095 [] [] (callD1 (n := _) 0 (θ := []) (hD := (l00Max_ok _ _))) ?_; all_goals refine dp 13 8191 [] [] pu1 ?_; all_goals (refine d_nil ?_; dsimp only [selT, selH, trues, SV.ren, C.ren, C.ren.all, tRen, GB.ren, calF, upOf, List.cons_append, List.nil_append, Nat.reduceAdd, setRow, List.map_cons, List.map_nil, scC, List.set_cons_zero, List.set_cons_succ, List.take_succ_cons, List.take_zero, List.drop_succ_cons, List.drop_zero]))); any_goals kernel_rfl)
        | (refine o_gs rfl rfl (fun hc => ?_) (fun hc => ?_) <;> (try simp only [decide_eq_true_eq, decide_eq_false_iff_not, Bool.not_eq_true', Bool.not_eq_false', Bool.not_eq_true, Bool.not_eq_false, Bool.and_eq_true, Bool.or_eq_false_iff, Bool.not_not] at hc) <;> (try (first | contradiction | (exfalso; omega))))
        | (refine g_cond rfl (fun hc => ?_) (fun hc => ?_) <;> (try simp only [decide_eq_true_eq, decide_eq_false_iff_not, Bool.not_eq_true', Bool.not_eq_false', Bool.not_eq_true, Bool.not_eq_false, Bool.and_eq_true, Bool.or_eq_false_iff, Bool.not_not] at hc) <;> (try (first | contradiction | (exfalso; omega))))
      refine q_again (n + 1, max z (sd * (l[a.toNat]'(by omega) - l[n.toNat]'(by omega)))) [] (by exact stk) ?_ ?_
      · refine ⟨by dsimp only; omega, by dsimp only; omega, by dsimp only; omega, by dsimp only; omega, ?_⟩
        dsimp only
        rw [show n + 1 - a = (n - a) + 1 by omega, foldl_next _ _ (by omega) (by simp only [List.length_drop]; omega), ← i5]
        congr 2
        rw [ga, List.getElem_drop]
        congr 2
        omega
      · dsimp only; omega
    · have hn : n = e + 1 := by omega
      subst hn
      repeat' first
        | refine g_seq ?_
        | refine g_skip ?_
        | refine g_exit ?_
        | refine g_block ?_
        | refine g_reg ?_
        | refine g_if_t rfl ?_
        | refine g_if_f rfl ?_
        | refine o_nil ?_
        | refine q_s ?_
        | refine q_se ?_
        | refine q_b ?_
        | refine q_be rfl ?_
        | refine q_bn rfl ?_
        | refine q_le ?_
        | refine q_ce ?_
        | (apply p3; (first | exact pu1 | exact puC | exact a_add rfl rfl (by omega) (by omega)); exact rfl)
        | (apply g_drN (id := 5) okM [[], [], [], [], [2, 3], [2, 3, 4], [], [], [6, 7], [6, 7, 8], [2, 3, 4, 5, 6, 7, 8, 9], [1, 2, 3, 4, 5, 6, 7, 8, 9, 10], [0, 1, 2, 3, 4, 5, 6, 7, 8, 9, 10, 11], [0, 1, 2, 3, 4, 5, 6, 7, 8, 9, 10, 11, 12]] [([], []), ([], []), ([], []), ([], []), ([], []), ([], []), ([], []), ([], []), ([], []), ([], []), ([], []), ([], []), ([], []), ([], [])] 0; (focus (all_goals refine dp 0 0 [18, 19, 20, 21, 22, 23, 24, 25, 26, 27, 28] [] pu1 ?_; all_goals refine dp 1 0 [17, 19, 20, 21, 22, 23, 24, 25, 26, 27] [] pu1 ?_; all_goals refine dp 2 0 [17, 18, 20, 23, 24, 25, 26] [] pu1 ?_; all_goals refine dp 3 0 [17, 18, 19, 23, 24, 25, 26] [] pu1 ?_; all_goals refine dp 4 3 [17, 18, 23, 24, 25, 26] [] puI ?_; all_goals refine dp 5 7 [17, 18, 23, 24, 25, 26] [] puL ?_; all_goals refine dp 6 0 [17, 18, 19, 20, 21, 22, 24] [] pu1 ?_; all_goals refine dp 7 0 [17, 18, 19, 20, 21, 22, 23] [] pu1 ?_; all_goals refine dp 8 3 [17, 18, 19, 20, 21, 22] [] puI ?_; all_goals refine dp 9 7 [17, 18, 19, 20, 21, 22] [] puL ?_; all_goals refine dp 10 255 [17, 18] [] (a_sub rfl rfl (by omega) (by omega)) ?_; all_goals refine dp 11 1023 [17] [] (by first | exact a_mulB rfl rfl (by omega) (by omega) (by omega) (by omega) | exact a_mul rfl rfl (by first | omega | assumption) (by first | omega | assumption)) ?_; all_goals refine dp 12 4095 [] [] (callD1 (n := _) 0 (θ := []) (hD := (l00Max_ok _ _))) ?_; all_goals refine dp 13 8191 [] [] pu1 ?_; all_goals (refine d_nil ?_; dsimp only [selT, selH, trues, SV.ren, C.ren, C.ren.all, tRen, GB.ren, calF, upOf, List.cons_append, List.nil_append, Nat.reduceAdd, setRow, List.map_cons, List.map_nil, scC, List.set_cons_zero, List.set_cons_succ, List.take_succ_cons, List.take_zero, List.drop_succ_cons, List.drop_zero]))); any_goals kernel_rfl)
        | (refine o_gs rfl rfl (fun hc => ?_) (fun hc => ?_) <;> (try simp only [decide_eq_true_eq, decide_eq_false_iff_not, Bool.not_eq_true', Bool.not_eq_false', Bool.not_eq_true, Bool.not_eq_false, Bool.and_eq_true, Bool.or_eq_false_iff, Bool.not_not] at hc) <;> (try (first | contradiction | (exfalso; omega))))
        | (refine g_cond rfl (fun hc => ?_) (fun hc => ?_) <;> (try simp only [decide_eq_true_eq, decide_eq_false_iff_not, Bool.not_eq_true', Bool.not_eq_false', Bool.not_eq_true, Bool.not_eq_false, Bool.and_eq_true, Bool.or_eq_false_iff, Bool.not_not] at hc) <;> (try (first | contradiction | (exfalso; omega))))
      repeat (first | refine g_ret ?_ | refine q_sr ?_ | refine q_br ?_ | refine q_lr ?_ | refine q_cr ?_)
      refine ends_id ?_
      refine endK [] (h2 := ?_) (h3 := ?_) (nd := ?_)
      all_goals (repeat' first | with_reducible exact SVLe.refl | exact SVLe.any | exact SVLe.one (.sh rfl) | exact SVLe.one (.nil (by decide)) | refine SVLe.agg ?_ | refine SVLe.tup ?_ | exact TLe.nil | refine TLe.cons ?_ ?_ | exact CsLe.nil | refine CsLe.cons ?_ ?_ | exact CLe.refl | exact CLe.sh rfl | exact CLe.nil (by decide) | refine cle_i ?_ | refine cle_b ?_ | exact trivial | refine And.intro ?_ ?_ | exact Or.inl rfl | exact Or.inr rfl | refine Or.inr (row_eq ?_) | (refine Or.inr (bx_eq rfl rfl ?_); (try dsimp only [C.ren, C.ren.all]); (try exact rfl)) | exact SVLe.refl | refine sle_i ?_ | refine sle_b ?_)
      all_goals first | exact (show nodupB _ = true from rfl) | exact Or.inr rfl | ((rw [i5]; unfold backF; rw [show (e + 1 - a).toNat = (e + 1).toNat - a.toNat by omega]))
end Go.Proofs.Ytncccjpbaeaafaa
end
section
set_option linter.unusedVariables false
set_option linter.unusedSimpArgs false
set_option maxRecDepth 100000
set_option maxHeartbeats 4000000
namespace Go.Proofs.Ytncccjpbaeaafaa
open Go Foot
abbrev eCf : Enc Conf := ⟨3, fun c => [.sc (.int .i64 c.st), .sl false 1 (rows eI c.le), .sl false 1 (rows eI c.ri)], fun _ => rfl, by decide⟩
abbrev roCf (l : List Conf) : GB := .row 3 (rows eCf l)
@[irreducible] def recL (l : List Rec) : List (List Int) := l.map fun r => [r.n, r.sd, r.c.st]
@[irreducible] def recC (l : List Rec) : List Conf := l.map Rec.c
theorem recL_app (l : List Rec) (r : Rec) : recL (l ++ [r]) = recL l ++ [[r.n, r.sd, r.c.st]] := by unfold recL; simp
theorem recC_app (l : List Rec) (r : Rec) : recC (l ++ [r]) = recC l ++ [r.c] := by unfold recC; simp
theorem recL_len (l : List Rec) : (recL l).length = l.length := by unfold recL; simp
theorem recC_len (l : List Rec) : (recC l).length = l.length := by unfold recC; simp
theorem preB42 {p : Prop} (h : p := by first | with_reducible assumption | omega | (simp only [List.length_append, List.length_cons, List.length_nil, List.length_set, List.length_replicate, List.length_take, List.length_drop, List.length_tail, List.length_dropLast, List.length_reverse] at *; omega) | exact mem_len (by assumption) (by omega) | (with_reducible refine Int.le_trans (Int.ofNat_le.2 (trimR_len _)) ?_; simp only [List.length_cons, List.length_tail]; omega) | (exact (ruAt_ok (by assumption) (by assumption) (by assumption)).2.1) | (exact (ruAt_ok (by assumption) (by assumption) (by assumption)).2.1) | (have := vMach_bd (by assumption); omega) | (simp only [mC_ch, mC_tu]; omega) | (with_reducible refine Int.le_trans (Int.ofNat_le.2 (pushL_len _ _)) ?_; simp only [List.length_dropLast]; omega) | exact (ask_ok (by assumption)).1 | exact (ask_ok (by assumption)).2.1 | exact (ask_ok (by assumption)).2.2.1 | exact (ask_ok (by assumption)).2.2.2 | trivial) : p := h
theorem l25Play_ok (m : Mach) (b : Int) (hm : vMach m = true) (hb : 1 ≤ b) (hb2 : b ≤ 20000) (O : Out Qk) (hO : qkRun m b = O) : Does Try.prog 121 [.one (maB m), .one (int b)] [] (.one (.gv 0)) [.bx [.gv 1, .gv 2, .gv 3, boo O.halts, boo O.full], roI O.x.pos, roW (recL O.x.rcs), roCf (recC O.x.rcs)] := by
  have hvb := vBlank hm
  have hO' : runG m qkC qkS b.toNat 0 blank 0 ⟨[], [], 0, 0⟩ = O := by rw [← hO]; unfold qkRun; rfl
  refine does_of (k := 0) Try.func121 rfl Try.ntmps121 rfl rfl fun w F0 S0 ρ0 => ?_
  dsimp only [argT, argH]
  repeat' first
    | refine g_seq ?_
    | refine g_skip ?_
    | refine g_exit ?_
    | refine g_block ?_
    | refine g_reg ?_
    | refine g_if_t rfl ?_
    | refine g_if_f rfl ?_
    | refine o_nil ?_
    | refine q_s ?_
    | refine q_se ?_
    | refine q_b ?_
    | refine q_be rfl ?_
    | refine q_bn rfl ?_
    | refine q_le ?_
    | refine q_ce ?_
    | (apply n3; (first | exact a_litE eI [_] rfl rfl rfl rfl rfl rfl rfl rfl | exact a_new (gb := .bx _) rfl | exact a_appN (fP rfl) rfl rfl rfl nowR (by first | omega | (simp; omega)) (by decide) (by exact rfl)); exact rfl; (try dsimp only [List.map_cons, List.map_nil, scC, Nat.reduceAdd]))
    | (apply p3; (first | exact pu1 | exact puL | exact puC | exact a_add rfl rfl (by omega) (by omega)); exact rfl)
    | (apply s3; exact a_appE (fP rfl) rfl rfl rfl rfl nowR (by first | omega | (simp; omega)) (by decide) (by decide) (by exact rfl); exact rfl; exact rfl)
    | (apply w3; (first | exact a_st_bx rfl rfl rfl rfl (fN rfl rfl) (Nat.le_of_ble_eq_true rfl) rfl | exact a_stE (E := eCf) ⟨_, _, _⟩ rfl rfl rfl rfl (fN rfl rfl) bnd (by exact rfl) | exact a_stE (E := eW) _ rfl rfl rfl rfl (fN rfl rfl) bnd (by exact rfl)); exact rfl; (try dsimp only [setRow, List.map_cons, List.map_nil, scC, List.set_cons_zero, List.set_cons_succ, List.take_succ_cons, List.take_zero, List.drop_succ_cons, List.drop_zero, Nat.reduceAdd]))
    | (apply c4 2; exact callK1 (θ := []) (hD := l25Blank_ok); exact rfl; exact rfl; exact rfl; (try dsimp only [SV.ren, C.ren, C.ren.all, tRen, GB.ren, calF, upOf, List.cons_append, List.nil_append, Nat.reduceAdd]))
    | (apply c4 0; exact callK1 (θ := []) (hD := (l05HaltsC_ok _ _ preB42 preB42)); exact rfl; exact rfl; exact rfl; (try dsimp only [SV.ren, C.ren, C.ren.all, tRen, GB.ren, calF, upOf, List.cons_append, List.nil_append, Nat.reduceAdd]))
    | (apply c4 2; exact callK1 (θ := []) (hD := (l05StepC_ok _ _ preB42 preB42)); exact rfl; exact rfl; exact rfl; (try dsimp only [SV.ren, C.ren, C.ren.all, tRen, GB.ren, calF, upOf, List.cons_append, List.nil_append, Nat.reduceAdd]))
    | (apply g_drN (id := 11) okM [[], [0], [0, 1], [0, 1, 2], [], [4], [0, 1, 2, 3, 4, 5], [0, 1, 2, 3, 4, 5, 6], [], [8], [0, 1, 2, 3, 4, 5, 6, 7, 8, 9], [0, 1, 2, 3, 4, 5, 6, 7, 8, 9, 10]] [([], []), ([], []), ([], []), ([], []), ([], []), ([], []), ([], []), ([], []), ([], []), ([], []), ([], []), ([], [])] 0; (focus (all_goals refine dp 0 0 [32, 33, 36, 37] [] pu1 ?_; all_goals refine dp 1 1 [32, 33, 36, 37] [] (a_pure (sv := .one _) rfl) ?_; all_goals refine dp 2 3 [32, 33, 36, 37] [] (a_pure (sv := .one _) rfl) ?_; all_goals refine dp 3 7 [32, 33, 36, 37] [] puL ?_; all_goals refine dp 4 0 [28, 29, 30, 31, 36, 37] [] pu1 ?_; all_goals refine dp 5 1 [28, 29, 30, 31, 36, 37] [] (a_sub rfl rfl (by omega) (by omega)) ?_; all_goals refine dp 6 63 [36, 37] [] puI ?_; all_goals refine dp 7 127 [36, 37] [] puL ?_; all_goals refine dp 8 0 [28, 29, 30, 31, 32, 33, 34, 35] [] pu1 ?_; all_goals refine dp 9 1 [28, 29, 30, 31, 32, 33, 34, 35] [] (callD1 (n := _) 0 (θ := []) (hD := (l25Side_ok _ _ preB42 preB42))) ?_; all_goals refine dp 10 1023 [] [] (a_add rfl rfl (by omega) (by omega)) ?_; all_goals refine dp 11 2047 [] [] pu1 ?_; all_goals (refine d_nil ?_; dsimp only [selT, selH, trues, SV.ren, C.ren, C.ren.all, tRen, GB.ren, calF, upOf, List.cons_append, List.nil_append, Nat.reduceAdd, setRow, List.map_cons, List.map_nil, scC, List.set_cons_zero, List.set_cons_succ, List.take_succ_cons, List.take_zero, List.drop_succ_cons, List.drop_zero]))); any_goals kernel_rfl)
    | (apply g_drN (id := 20) okM [[], [], [1], [1, 2], [1, 2, 3], [], [], [6], [5, 6, 7], [5, 6, 7, 8], [1, 2, 3, 4, 5, 6, 7, 8, 9], [0, 1, 2, 3, 4, 5, 6, 7, 8, 9, 10], [0, 1, 2, 3, 4, 5, 6, 7, 8, 9, 10, 11], [0, 1, 2, 3, 4, 5, 6, 7, 8, 9, 10, 11, 12]] [([], []), ([], []), ([], []), ([], []), ([], []), ([], []), ([], []), ([], []), ([], []), ([0], []), ([1], [5]), ([], []), ([], []), ([], [1])] 2; (focus (all_goals refine dp 0 0 [66, 67, 68, 69, 70, 71, 72, 73, 74, 75] [(true, 0), (true, 1), (false, 5)] pu1 ?_; all_goals refine dp 1 0 [65, 70, 71, 72, 73, 74] [(true, 0)] pu1 ?_; all_goals refine dp 2 1 [65, 70, 71, 72, 73, 74] [(true, 0)] (a_pure (sv := .one _) rfl) ?_; all_goals refine dp 3 3 [65, 70, 71, 72, 73, 74] [(true, 0)] (a_pure (sv := .one _) rfl) ?_; all_goals refine dp 4 7 [65, 70, 71, 72, 73, 74] [(true, 0)] puL ?_; all_goals refine dp 5 0 [65, 66, 67, 68, 69, 71, 72] [] pu1 ?_; all_goals refine dp 6 0 [65, 66, 67, 68, 69, 70] [] (a_pure (sv := .one _) rfl) ?_; all_goals refine dp 7 1 [65, 66, 67, 68, 69, 70] [] puL ?_; all_goals refine dp 8 7 [65, 66, 67, 68, 69] [] (a_litF (dst := some 73) eI [_, _, _] rfl rfl rfl rfl rfl rfl rfl rfl nowR) ?_; all_goals refine duE 9 15 [65, 66, 67, 68, 69] [] (atN 0 (fun _ => a_litE eW [_] rfl rfl rfl rfl rfl rfl rfl rfl)) (by exact rfl) (by exact rfl) ?_; all_goals refine duE 10 511 [65] [] (atS 1 (fun _ hj => a_appE (fP rfl) rfl rfl rfl rfl nowR (by first | omega | (simp; omega)) (by decide) hj (by exact rfl)) (by decide)) (by exact rfl) (by exact rfl) ?_; all_goals refine dp 11 2047 [] [] (a_pure (sv := .one _) rfl) ?_; all_goals refine dp 12 4095 [] [] (a_pure (sv := .one _) rfl) ?_; all_goals refine duE 13 8191 [] [] (a_st_bx rfl rfl rfl rfl (fN rfl rfl) (Nat.le_of_ble_eq_true rfl) rfl) (by exact rfl) (by exact rfl) ?_; all_goals (refine d_nil ?_; dsimp only [selT, selH, trues, SV.ren, C.ren, C.ren.all, tRen, GB.ren, calF, upOf, List.cons_append, List.nil_append, Nat.reduceAdd, setRow, List.map_cons, List.map_nil, scC, List.set_cons_zero, List.set_cons_succ, List.take_succ_cons, List.take_zero, List.drop_succ_cons, List.drop_zero]))); any_goals kernel_rfl)
    | (apply g_drN (id := 21) okM [[], [], [1], [1, 2], [1, 2, 3], [], [5], [1, 2, 3, 4, 5, 6], [0, 1, 2, 3, 4, 5, 6, 7], [0, 1, 2, 3, 4, 5, 6, 7, 8], [0, 1, 2, 3, 4, 5, 6, 7, 8, 9]] [([], []), ([], []), ([], []), ([], []), ([], []), ([], []), ([0], []), ([1], [6]), ([], []), ([], []), ([], [1])] 2; (focus (all_goals refine dp 0 0 [79, 80, 81, 82, 83, 84, 85] [(true, 0), (true, 1), (false, 6)] pu1 ?_; all_goals refine dp 1 0 [78, 83, 84] [(true, 0)] pu1 ?_; all_goals refine dp 2 1 [78, 83, 84] [(true, 0)] (a_pure (sv := .one _) rfl) ?_; all_goals refine dp 3 3 [78, 83, 84] [(true, 0)] (a_pure (sv := .one _) rfl) ?_; all_goals refine dp 4 7 [78, 83, 84] [(true, 0)] puL ?_; all_goals refine dp 5 0 [78, 79, 80, 81, 82] [] (callFD 0 (hD := (l05OwnConfig_ok _ preB42 preB42))) ?_; all_goals refine duE 6 1 [78, 79, 80, 81, 82] [] (atN 0 (fun _ => a_litE eCf [⟨_, _, _⟩] rfl rfl rfl rfl rfl rfl rfl rfl)) (by exact rfl) (by exact rfl) ?_; all_goals refine duE 7 63 [78] [] (atS 1 (fun _ hj => a_appE (fP rfl) rfl rfl rfl rfl nowR (by first | omega | (simp; omega)) (by decide) hj (by exact rfl)) (by decide)) (by exact rfl) (by exact rfl) ?_; all_goals refine dp 8 255 [] [] (a_pure (sv := .one _) rfl) ?_; all_goals refine dp 9 511 [] [] (a_pure (sv := .one _) rfl) ?_; all_goals refine duE 10 1023 [] [] (a_st_bx rfl rfl rfl rfl (fN rfl rfl) (Nat.le_of_ble_eq_true rfl) rfl) (by exact rfl) (by exact rfl) ?_; all_goals (refine d_nil ?_; dsimp only [selT, selH, trues, SV.ren, C.ren, C.ren.all, tRen, GB.ren, calF, upOf, List.cons_append, List.nil_append, Nat.reduceAdd, setRow, List.map_cons, List.map_nil, scC, List.set_cons_zero, List.set_cons_succ, List.take_succ_cons, List.take_zero, List.drop_succ_cons, List.drop_zero]))); any_goals kernel_rfl)
    | (apply g_drN (id := 24) okM [[], [], [1], [1, 2], [1, 2, 3], [], [], [6], [5, 6, 7], [5, 6, 7, 8], [1, 2, 3, 4, 5, 6, 7, 8, 9], [0, 1, 2, 3, 4, 5, 6, 7, 8, 9, 10], [0, 1, 2, 3, 4, 5, 6, 7, 8, 9, 10, 11], [0, 1, 2, 3, 4, 5, 6, 7, 8, 9, 10, 11, 12]] [([], []), ([], []), ([], []), ([], []), ([], []), ([], []), ([], []), ([], []), ([], []), ([0], []), ([1], [5]), ([], []), ([], []), ([], [1])] 2; (focus (all_goals refine dp 0 0 [93, 94, 95, 96, 97, 98, 99, 100, 101, 102] [(true, 0), (true, 1), (false, 5)] pu1 ?_; all_goals refine dp 1 0 [92, 97, 98, 99, 100, 101] [(true, 0)] pu1 ?_; all_goals refine dp 2 1 [92, 97, 98, 99, 100, 101] [(true, 0)] (a_pure (sv := .one _) rfl) ?_; all_goals refine dp 3 3 [92, 97, 98, 99, 100, 101] [(true, 0)] (a_pure (sv := .one _) rfl) ?_; all_goals refine dp 4 7 [92, 97, 98, 99, 100, 101] [(true, 0)] puL ?_; all_goals refine dp 5 0 [92, 93, 94, 95, 96, 98, 99] [] pu1 ?_; all_goals refine dp 6 0 [92, 93, 94, 95, 96, 97] [] (a_pure (sv := .one _) rfl) ?_; all_goals refine dp 7 1 [92, 93, 94, 95, 96, 97] [] puL ?_; all_goals refine dp 8 7 [92, 93, 94, 95, 96] [] (a_litF (dst := some 100) eI [_, _, _] rfl rfl rfl rfl rfl rfl rfl rfl nowR) ?_; all_goals refine duE 9 15 [92, 93, 94, 95, 96] [] (atN 0 (fun _ => a_litE eW [_] rfl rfl rfl rfl rfl rfl rfl rfl)) (by exact rfl) (by exact rfl) ?_; all_goals refine duE 10 511 [92] [] (atS 1 (fun _ hj => a_appE (fP rfl) rfl rfl rfl rfl nowR (by first | omega | (simp; omega)) (by decide) hj (by exact rfl)) (by decide)) (by exact rfl) (by exact rfl) ?_; all_goals refine dp 11 2047 [] [] (a_pure (sv := .one _) rfl) ?_; all_goals refine dp 12 4095 [] [] (a_pure (sv := .one _) rfl) ?_; all_goals refine duE 13 8191 [] [] (a_st_bx rfl rfl rfl rfl (fN rfl rfl) (Nat.le_of_ble_eq_true rfl) rfl) (by exact rfl) (by exact rfl) ?_; all_goals (refine d_nil ?_; dsimp only [selT, selH, trues, SV.ren, C.ren, C.ren.all, tRen, GB.ren, calF, upOf, List.cons_append, List.nil_append, Nat.reduceAdd, setRow, List.map_cons, List.map_nil, scC, List.set_cons_zero, List.set_cons_succ, List.take_succ_cons, List.take_zero, List.drop_succ_cons, List.drop_zero]))); any_goals kernel_rfl)
    | (apply g_drN (id := 25) okM [[], [], [1], [1, 2], [1, 2, 3], [], [5], [1, 2, 3, 4, 5, 6], [0, 1, 2, 3, 4, 5, 6, 7], [0, 1, 2, 3, 4, 5, 6, 7, 8], [0, 1, 2, 3, 4, 5, 6, 7, 8, 9]] [([], []), ([], []), ([], []), ([], []), ([], []), ([], []), ([0], []), ([1], [6]), ([], []), ([], []), ([], [1])] 2; (focus (all_goals refine dp 0 0 [106, 107, 108, 109, 110, 111, 112] [(true, 0), (true, 1), (false, 6)] pu1 ?_; all_goals refine dp 1 0 [105, 110, 111] [(true, 0)] pu1 ?_; all_goals refine dp 2 1 [105, 110, 111] [(true, 0)] (a_pure (sv := .one _) rfl) ?_; all_goals refine dp 3 3 [105, 110, 111] [(true, 0)] (a_pure (sv := .one _) rfl) ?_; all_goals refine dp 4 7 [105, 110, 111] [(true, 0)] puL ?_; all_goals refine dp 5 0 [105, 106, 107, 108, 109] [] (callFD 0 (hD := (l05OwnConfig_ok _ preB42 preB42))) ?_; all_goals refine duE 6 1 [105, 106, 107, 108, 109] [] (atN 0 (fun _ => a_litE eCf [⟨_, _, _⟩] rfl rfl rfl rfl rfl rfl rfl rfl)) (by exact rfl) (by exact rfl) ?_; all_goals refine duE 7 63 [105] [] (atS 1 (fun _ hj => a_appE (fP rfl) rfl rfl rfl rfl nowR (by first | omega | (simp; omega)) (by decide) hj (by exact rfl)) (by decide)) (by exact rfl) (by exact rfl) ?_; all_goals refine dp 8 255 [] [] (a_pure (sv := .one _) rfl) ?_; all_goals refine dp 9 511 [] [] (a_pure (sv := .one _) rfl) ?_; all_goals refine duE 10 1023 [] [] (a_st_bx rfl rfl rfl rfl (fN rfl rfl) (Nat.le_of_ble_eq_true rfl) rfl) (by exact rfl) (by exact rfl) ?_; all_goals (refine d_nil ?_; dsimp only [selT, selH, trues, SV.ren, C.ren, C.ren.all, tRen, GB.ren, calF, upOf, List.cons_append, List.nil_append, Nat.reduceAdd, setRow, List.map_cons, List.map_nil, scC, List.set_cons_zero, List.set_cons_succ, List.take_succ_cons, List.take_zero, List.drop_succ_cons, List.drop_zero]))); any_goals kernel_rfl)
    | (refine o_gs rfl rfl (fun hc => ?_) (fun hc => ?_) <;> (try simp only [decide_eq_true_eq, decide_eq_false_iff_not, Bool.not_eq_true', Bool.not_eq_false', Bool.not_eq_true, Bool.not_eq_false, Bool.and_eq_true, Bool.or_eq_false_iff, Bool.not_not] at hc) <;> (try (first | contradiction | (exfalso; omega))))
    | (refine g_cond rfl (fun hc => ?_) (fun hc => ?_) <;> (try simp only [decide_eq_true_eq, decide_eq_false_iff_not, Bool.not_eq_true', Bool.not_eq_false', Bool.not_eq_true, Bool.not_eq_false, Bool.and_eq_true, Bool.or_eq_false_iff, Bool.not_not] at hc) <;> (try (first | contradiction | (exfalso; omega))))
  refine g_conv (t_nilB (i := 1) (k := 1) (z := 1) rfl rfl rfl (by decide)) ?_
  try dsimp only [setRow, List.map_cons, List.map_nil, scC, List.set_cons_zero, List.set_cons_succ]
  refine g_conv (t_nilB (i := 1) (k := 2) (z := 3) rfl rfl rfl (by decide)) ?_
  try dsimp only [setRow, List.map_cons, List.map_nil, scC, List.set_cons_zero, List.set_cons_succ]
  refine g_loop_id ?_
  refine loopK [0, 1, 4, 5, 6] [0, 1, 2, 3, 4, 5, 6] (fun y : Int × Conf × Int × Qk × Qk × List (List Int) × List Conf => 1 ≤ y.1 ∧ y.1 ≤ b + 1 ∧ vConf m y.2.1 = true ∧ (-(y.1 - 1) ≤ y.2.2.1 ∧ y.2.2.1 ≤ y.1 - 1) ∧ QI y.2.2.2.1 (y.1 - 1) ∧ y.2.2.2.2.1 = qkC y.2.1 y.2.2.1 y.2.2.2.1 ∧ y.2.2.2.2.2.1 = recL y.2.2.2.2.1.rcs ∧ y.2.2.2.2.2.2 = recC y.2.2.2.2.1.rcs ∧ runG m qkC qkS (b - (y.1 - 1)).toNat (y.1 - 1) y.2.1 y.2.2.1 y.2.2.2.1 = O) (fun y => [(9, .one (int y.1)), (7, .one (int y.2.2.2.2.1.le)), (8, .one (int y.2.2.2.2.1.gr))]) (fun y => [(1, .bx [.gv 0, .gv 5, .gv 6, boo false, boo false]), (0, roI y.2.2.2.2.1.pos), (4, .bx [int y.2.1.st, .gv 2, .gv 3]), (2, roI y.2.1.le), (3, roI y.2.1.ri), (5, roW y.2.2.2.2.2.1), (6, roCf y.2.2.2.2.2.2)]) (fun y => (b + 1 - y.1).toNat) ((1 : Int), blank, (0 : Int), ⟨[], [], 0, 0⟩, ⟨[0], [], 0, 0⟩, [], []) [0, 1, 2, 3, 4, 5, 6] (hI := ?_) (hr := ?_)
  · refine ⟨by simp, by dsimp only; omega, hvb, by simp, qi_0, ?_, ?_, ?_, ?_⟩
    · unfold qkC; simp
    · unfold recL; rfl
    · unfold recC; rfl
    · rw [← hO']; congr 1; dsimp only; omega
  · rintro ⟨n, c, hd, x, X, rl, cl⟩ ⟨i1, i2, i3, i4, i5, i6, i7, i8, i9⟩
    dsimp only [List.cons_append, List.nil_append] at *
    skip
    repeat' first
      | refine g_seq ?_
      | refine g_skip ?_
      | refine g_exit ?_
      | refine g_block ?_
      | refine g_reg (id := 6) ?_
      | refine g_reg (id := 26) ?_
      | refine g_reg (id := 27) ?_
      | refine g_if_t rfl ?_
      | refine g_if_f rfl ?_
      | refine o_nil ?_
      | refine q_s ?_
      | refine q_se ?_
      | refine q_b ?_
      | refine q_be rfl ?_
      | refine q_bn rfl ?_
      | refine q_le ?_
      | refine q_ce ?_
      | (apply p3; (first | exact pu1 | exact puC); exact rfl)
      | (apply w3; exact a_st_bx rfl rfl rfl rfl (fN rfl rfl) (Nat.le_of_ble_eq_true rfl) rfl; exact rfl; (try dsimp only [setRow, List.map_cons, List.map_nil, scC, List.set_cons_zero, List.set_cons_succ, List.take_succ_cons, List.take_zero, List.drop_succ_cons, List.drop_zero, Nat.reduceAdd]))
      | (apply c4 0; exact callK1 (θ := []) (hD := (l05HaltsC_ok _ _ preB42 preB42)); exact rfl; exact rfl; exact rfl; (try dsimp only [SV.ren, C.ren, C.ren.all, tRen, GB.ren, calF, upOf, List.cons_append, List.nil_append, Nat.reduceAdd]))
      | (refine o_gs rfl rfl (fun hc => ?_) (fun hc => ?_) <;> (try simp only [decide_eq_true_eq, decide_eq_false_iff_not, Bool.not_eq_true', Bool.not_eq_false', Bool.not_eq_true, Bool.not_eq_false, Bool.and_eq_true, Bool.or_eq_false_iff, Bool.not_not] at hc) <;> (try (first | contradiction | (exfalso; omega))))
      | (refine g_cond rfl (fun hc => ?_) (fun hc => ?_) <;> (try simp only [decide_eq_true_eq, decide_eq_false_iff_not, Bool.not_eq_true', Bool.not_eq_false', Bool.not_eq_true, Bool.not_eq_false, Bool.and_eq_true, Bool.or_eq_false_iff, Bool.not_not] at hc) <;> (try (first | contradiction | (exfalso; omega))))
    · have hbd := at_bd hm i3
      have hq : QI X n := by have := qi_next (m := m) i5 (vConf_len hm i3) (by omega) i4.2; rw [← i6, show n - 1 + 1 = n by omega] at this; exact this
      have hl1 := hq.len
      have hl2 := hq.rlen
      have hl3 := hq.lo
      have hl4 := hq.hi
      have hl5 : rl.length = X.rcs.length := by rw [i7, recL_len]
      have hl6 : cl.length = X.rcs.length := by rw [i8, recC_len]
      have hp : ∀ h, X.pos[(n - 1).toNat]'h = hd := fun h => by
        have e1 : X.pos = x.pos ++ [hd] := by rw [i6]; exact (qkC_len c hd x).1
        have e2 := i5.len
        rw [posAt_get, e1, show n - 1 = x.pos.length by omega, posAt_new]
      have hpb : X.pos[(n - 1).toNat]'(by omega) ≤ 20001 ∧ -20001 ≤ X.pos[(n - 1).toNat]'(by omega) := by rw [hp]; omega
      repeat' first
        | refine g_seq ?_
        | refine g_skip ?_
        | refine g_exit ?_
        | refine g_block ?_
        | refine g_reg (id := 6) ?_
        | refine g_reg (id := 8) ?_
        | refine g_reg (id := 9) ?_
        | refine g_reg (id := 10) ?_
        | refine g_reg (id := 26) ?_
        | refine g_reg (id := 27) ?_
        | refine g_if_t rfl ?_
        | refine g_if_f rfl ?_
        | refine o_nil ?_
        | refine q_s ?_
        | refine q_se ?_
        | refine q_b ?_
        | refine q_be rfl ?_
        | refine q_bn rfl ?_
        | refine q_le ?_
        | refine q_ce ?_
        | (apply p3; (first | exact pu1 | exact puC); exact rfl)
        | (apply w3; exact a_st_bx rfl rfl rfl rfl (fN rfl rfl) (Nat.le_of_ble_eq_true rfl) rfl; exact rfl; (try dsimp only [setRow, List.map_cons, List.map_nil, scC, List.set_cons_zero, List.set_cons_succ, List.take_succ_cons, List.take_zero, List.drop_succ_cons, List.drop_zero, Nat.reduceAdd]))
        | (apply c4 0; exact callK1 (θ := []) (hD := (l05HaltsC_ok _ _ preB42 preB42)); exact rfl; exact rfl; exact rfl; (try dsimp only [SV.ren, C.ren, C.ren.all, tRen, GB.ren, calF, upOf, List.cons_append, List.nil_append, Nat.reduceAdd]))
        | (refine o_gs rfl rfl (fun hc => ?_) (fun hc => ?_) <;> (try simp only [decide_eq_true_eq, decide_eq_false_iff_not, Bool.not_eq_true', Bool.not_eq_false', Bool.not_eq_true, Bool.not_eq_false, Bool.and_eq_true, Bool.or_eq_false_iff, Bool.not_not] at hc) <;> (try (first | contradiction | (exfalso; omega))))
        | (refine g_cond rfl (fun hc => ?_) (fun hc => ?_) <;> (try simp only [decide_eq_true_eq, decide_eq_false_iff_not, Bool.not_eq_true', Bool.not_eq_false', Bool.not_eq_true, Bool.not_eq_false, Bool.and_eq_true, Bool.or_eq_false_iff, Bool.not_not] at hc) <;> (try (first | contradiction | (exfalso; omega))))
      · subst i6 i7 i8
        obtain rfl := run_halt hc i9
        repeat (first | refine g_ret ?_ | refine q_sr ?_ | refine q_br ?_ | refine q_lr ?_ | refine q_cr ?_)
        refine ends_id ?_
        refine endK [?_, ?_, ?_, ?_] (h2 := ?_) (h3 := ?_) (nd := ?_)
        rotate_left 4
        all_goals (repeat' first | with_reducible exact SVLe.refl | exact SVLe.any | exact SVLe.one (.sh rfl) | exact SVLe.one (.nil (by decide)) | refine SVLe.agg ?_ | refine SVLe.tup ?_ | exact TLe.nil | refine TLe.cons ?_ ?_ | exact CsLe.nil | refine CsLe.cons ?_ ?_ | exact CLe.refl | exact CLe.sh rfl | exact CLe.nil (by decide) | refine cle_i ?_ | refine cle_b ?_ | exact trivial | refine And.intro ?_ ?_ | exact Or.inl rfl | exact Or.inr rfl | refine Or.inr (row_eq ?_) | (refine Or.inr (bx_eq rfl rfl ?_); (try dsimp only [C.ren, C.ren.all]); (try exact rfl)) | exact SVLe.refl | refine sle_i ?_ | refine sle_b ?_)
        all_goals first | exact (show nodupB _ = true from rfl) | exact Or.inr rfl | (rfl)
      · have hnr : ¬ ruAt m c = noR := hc
        have hok := ruAt_ok hm i3 hnr
        repeat' first
          | refine g_seq ?_
          | refine g_skip ?_
          | refine g_exit ?_
          | refine g_block ?_
          | refine g_reg (id := 6) ?_
          | refine g_reg (id := 8) ?_
          | refine g_reg (id := 9) ?_
          | refine g_reg (id := 10) ?_
          | refine g_reg (id := 12) ?_
          | refine g_reg (id := 13) ?_
          | refine g_reg (id := 26) ?_
          | refine g_reg (id := 27) ?_
          | refine g_if_t rfl ?_
          | refine g_if_f rfl ?_
          | refine o_nil ?_
          | refine q_s ?_
          | refine q_se ?_
          | refine q_b ?_
          | refine q_be rfl ?_
          | refine q_bn rfl ?_
          | refine q_le ?_
          | refine q_ce ?_
          | (apply n3; exact a_new (gb := .bx _) rfl; exact rfl; (try dsimp only [List.map_cons, List.map_nil, scC, Nat.reduceAdd]))
          | (apply p3; (first | exact pu1 | exact puC); exact rfl)
          | (apply w3; (first | exact a_st_bx rfl rfl rfl rfl (fN rfl rfl) (Nat.le_of_ble_eq_true rfl) rfl | exact a_stE (E := eCf) ⟨_, _, _⟩ rfl rfl rfl rfl (fN rfl rfl) bnd (by exact rfl)); exact rfl; (try dsimp only [setRow, List.map_cons, List.map_nil, scC, List.set_cons_zero, List.set_cons_succ, List.take_succ_cons, List.take_zero, List.drop_succ_cons, List.drop_zero, Nat.reduceAdd]))
          | (apply c4 0; exact callK1 (θ := []) (hD := (l05HaltsC_ok _ _ preB42 preB42)); exact rfl; exact rfl; exact rfl; (try dsimp only [SV.ren, C.ren, C.ren.all, tRen, GB.ren, calF, upOf, List.cons_append, List.nil_append, Nat.reduceAdd]))
          | (apply c4 2; exact callK1 (θ := []) (hD := (l05StepC_ok _ _ preB42 preB42)); exact rfl; exact rfl; exact rfl; (try dsimp only [SV.ren, C.ren, C.ren.all, tRen, GB.ren, calF, upOf, List.cons_append, List.nil_append, Nat.reduceAdd]))
          | (apply g_drN (id := 11) okM [[], [0], [0, 1], [0, 1, 2], [], [4], [0, 1, 2, 3, 4, 5], [0, 1, 2, 3, 4, 5, 6], [], [8], [0, 1, 2, 3, 4, 5, 6, 7, 8, 9], [0, 1, 2, 3, 4, 5, 6, 7, 8, 9, 10]] [([], []), ([], []), ([], []), ([], []), ([], []), ([], []), ([], []), ([], []), ([], []), ([], []), ([], []), ([], [])] 0; (focus (all_goals refine dp 0 0 [32, 33, 36, 37] [] pu1 ?_; all_goals refine dp 1 1 [32, 33, 36, 37] [] (a_pure (sv := .one _) rfl) ?_; all_goals refine dp 2 3 [32, 33, 36, 37] [] (a_pure (sv := .one _) rfl) ?_; all_goals refine dp 3 7 [32, 33, 36, 37] [] puL ?_; all_goals refine dp 4 0 [28, 29, 30, 31, 36, 37] [] pu1 ?_; all_goals refine dp 5 1 [28, 29, 30, 31, 36, 37] [] (a_sub rfl rfl (by omega) (by omega)) ?_; all_goals refine dp 6 63 [36, 37] [] puI ?_; all_goals refine dp 7 127 [36, 37] [] puL ?_; all_goals refine dp 8 0 [28, 29, 30, 31, 32, 33, 34, 35] [] pu1 ?_; all_goals refine dp 9 1 [28, 29, 30, 31, 32, 33, 34, 35] [] (callD1 (n := _) 0 (θ := []) (hD := (l25Side_ok _ _ preB42 preB42))) ?_; all_goals refine dp 10 1023 [] [] (a_add rfl rfl (by omega) (by omega)) ?_; all_goals refine dp 11 2047 [] [] pu1 ?_; all_goals (refine d_nil ?_; dsimp only [selT, selH, trues, SV.ren, C.ren, C.ren.all, tRen, GB.ren, calF, upOf, List.cons_append, List.nil_append, Nat.reduceAdd, setRow, List.map_cons, List.map_nil, scC, List.set_cons_zero, List.set_cons_succ, List.take_succ_cons, List.take_zero, List.drop_succ_cons, List.drop_zero]))); any_goals kernel_rfl)
          | (refine o_gs rfl rfl (fun hc => ?_) (fun hc => ?_) <;> (try simp only [decide_eq_true_eq, decide_eq_false_iff_not, Bool.not_eq_true', Bool.not_eq_false', Bool.not_eq_true, Bool.not_eq_false, Bool.and_eq_true, Bool.or_eq_false_iff, Bool.not_not] at hc) <;> (try (first | contradiction | (exfalso; omega))))
          | (refine g_cond rfl (fun hc => ?_) (fun hc => ?_) <;> (try simp only [decide_eq_true_eq, decide_eq_false_iff_not, Bool.not_eq_true', Bool.not_eq_false', Bool.not_eq_true, Bool.not_eq_false, Bool.and_eq_true, Bool.or_eq_false_iff, Bool.not_not] at hc) <;> (try (first | contradiction | (exfalso; omega))))
        · subst i6 i7 i8
          obtain rfl := run_full hnr (by omega) hc i9
          repeat' first
            | refine g_seq ?_
            | refine g_skip ?_
            | refine g_exit ?_
            | refine g_block ?_
            | refine g_reg ?_
            | refine g_if_t rfl ?_
            | refine g_if_f rfl ?_
            | refine o_nil ?_
            | refine q_s ?_
            | refine q_se ?_
            | refine q_b ?_
            | refine q_be rfl ?_
            | refine q_bn rfl ?_
            | refine q_le ?_
            | refine q_ce ?_
            | (apply n3; (first | exact a_new (gb := .bx _) rfl | exact a_litE eI [_] rfl rfl rfl rfl rfl rfl rfl rfl | exact a_appN (fP rfl) rfl rfl rfl nowR (by first | omega | (simp; omega)) (by decide) (by exact rfl)); exact rfl; (try dsimp only [List.map_cons, List.map_nil, scC, Nat.reduceAdd]))
            | (apply p3; (first | exact pu1 | exact puL | exact puC | exact a_add rfl rfl (by omega) (by omega)); exact rfl)
            | (apply s3; exact a_appE (fP rfl) rfl rfl rfl rfl nowR (by first | omega | (simp; omega)) (by decide) (by decide) (by exact rfl); exact rfl; exact rfl)
            | (apply w3; (first | exact a_st_bx rfl rfl rfl rfl (fN rfl rfl) (Nat.le_of_ble_eq_true rfl) rfl | exact a_stE (E := eCf) ⟨_, _, _⟩ rfl rfl rfl rfl (fN rfl rfl) bnd (by exact rfl) | exact a_stE (E := eW) _ rfl rfl rfl rfl (fN rfl rfl) bnd (by exact rfl)); exact rfl; (try dsimp only [setRow, List.map_cons, List.map_nil, scC, List.set_cons_zero, List.set_cons_succ, List.take_succ_cons, List.take_zero, List.drop_succ_cons, List.drop_zero, Nat.reduceAdd]))
            | (apply c4 0; exact callK1 (θ := []) (hD := (l05HaltsC_ok _ _ preB42 preB42)); exact rfl; exact rfl; exact rfl; (try dsimp only [SV.ren, C.ren, C.ren.all, tRen, GB.ren, calF, upOf, List.cons_append, List.nil_append, Nat.reduceAdd]))
            | (apply c4 2; exact callK1 (θ := []) (hD := (l05StepC_ok _ _ preB42 preB42)); exact rfl; exact rfl; exact rfl; (try dsimp only [SV.ren, C.ren, C.ren.all, tRen, GB.ren, calF, upOf, List.cons_append, List.nil_append, Nat.reduceAdd]))
            | (apply g_drN (id := 11) okM [[], [0], [0, 1], [0, 1, 2], [], [4], [0, 1, 2, 3, 4, 5], [0, 1, 2, 3, 4, 5, 6], [], [8], [0, 1, 2, 3, 4, 5, 6, 7, 8, 9], [0, 1, 2, 3, 4, 5, 6, 7, 8, 9, 10]] [([], []), ([], []), ([], []), ([], []), ([], []), ([], []), ([], []), ([], []), ([], []), ([], []), ([], []), ([], [])] 0; (focus (all_goals refine dp 0 0 [32, 33, 36, 37] [] pu1 ?_; all_goals refine dp 1 1 [32, 33, 36, 37] [] (a_pure (sv := .one _) rfl) ?_; all_goals refine dp 2 3 [32, 33, 36, 37] [] (a_pure (sv := .one _) rfl) ?_; all_goals refine dp 3 7 [32, 33, 36, 37] [] puL ?_; all_goals refine dp 4 0 [28, 29, 30, 31, 36, 37] [] pu1 ?_; all_goals refine dp 5 1 [28, 29, 30, 31, 36, 37] [] (a_sub rfl rfl (by omega) (by omega)) ?_; all_goals refine dp 6 63 [36, 37] [] puI ?_; all_goals refine dp 7 127 [36, 37] [] puL ?_; all_goals refine dp 8 0 [28, 29, 30, 31, 32, 33, 34, 35] [] pu1 ?_; all_goals refine dp 9 1 [28, 29, 30, 31, 32, 33, 34, 35] [] (callD1 (n := _) 0 (θ := []) (hD := (l25Side_ok _ _ preB42 preB42))) ?_; all_goals refine dp 10 1023 [] [] (a_add rfl rfl (by omega) (by omega)) ?_; all_goals refine dp 11 2047 [] [] pu1 ?_; all_goals (refine d_nil ?_; dsimp only [selT, selH, trues, SV.ren, C.ren, C.ren.all, tRen, GB.ren, calF, upOf, List.cons_append, List.nil_append, Nat.reduceAdd, setRow, List.map_cons, List.map_nil, scC, List.set_cons_zero, List.set_cons_succ, List.take_succ_cons, List.take_zero, List.drop_succ_cons, List.drop_zero]))); any_goals kernel_rfl)
            | (apply g_drN (id := 20) okM [[], [], [1], [1, 2], [1, 2, 3], [], [], [6], [5, 6, 7], [5, 6, 7, 8], [1, 2, 3, 4, 5, 6, 7, 8, 9], [0, 1, 2, 3, 4, 5, 6, 7, 8, 9, 10], [0, 1, 2, 3, 4, 5, 6, 7, 8, 9, 10, 11], [0, 1, 2, 3, 4, 5, 6, 7, 8, 9, 10, 11, 12]] [([], []), ([], []), ([], []), ([], []), ([], []), ([], []), ([], []), ([], []), ([], []), ([0], []), ([1], [5]), ([], []), ([], []), ([], [1])] 2; (focus (all_goals refine dp 0 0 [66, 67, 68, 69, 70, 71, 72, 73, 74, 75] [(true, 0), (true, 1), (false, 5)] pu1 ?_; all_goals refine dp 1 0 [65, 70, 71, 72, 73, 74] [(true, 0)] pu1 ?_; all_goals refine dp 2 1 [65, 70, 71, 72, 73, 74] [(true, 0)] (a_pure (sv := .one _) rfl) ?_; all_goals refine dp 3 3 [65, 70, 71, 72, 73, 74] [(true, 0)] (a_pure (sv := .one _) rfl) ?_; all_goals refine dp 4 7 [65, 70, 71, 72, 73, 74] [(true, 0)] puL ?_; all_goals refine dp 5 0 [65, 66, 67, 68, 69, 71, 72] [] pu1 ?_; all_goals refine dp 6 0 [65, 66, 67, 68, 69, 70] [] (a_pure (sv := .one _) rfl) ?_; all_goals refine dp 7 1 [65, 66, 67, 68, 69, 70] [] puL ?_; all_goals refine dp 8 7 [65, 66, 67, 68, 69] [] (a_litF (dst := some 73) eI [_, _, _] rfl rfl rfl rfl rfl rfl rfl rfl nowR) ?_; all_goals refine duE 9 15 [65, 66, 67, 68, 69] [] (atN 0 (fun _ => a_litE eW [_] rfl rfl rfl rfl rfl rfl rfl rfl)) (by exact rfl) (by exact rfl) ?_; all_goals refine duE 10 511 [65] [] (atS 1 (fun _ hj => a_appE (fP rfl) rfl rfl rfl rfl nowR (by first | omega | (simp; omega)) (by decide) hj (by exact rfl)) (by decide)) (by exact rfl) (by exact rfl) ?_; all_goals refine dp 11 2047 [] [] (a_pure (sv := .one _) rfl) ?_; all_goals refine dp 12 4095 [] [] (a_pure (sv := .one _) rfl) ?_; all_goals refine duE 13 8191 [] [] (a_st_bx rfl rfl rfl rfl (fN rfl rfl) (Nat.le_of_ble_eq_true rfl) rfl) (by exact rfl) (by exact rfl) ?_; all_goals (refine d_nil ?_; dsimp only [selT, selH, trues, SV.ren, C.ren, C.ren.all, tRen, GB.ren, calF, upOf, List.cons_append, List.nil_append, Nat.reduceAdd, setRow, List.map_cons, List.map_nil, scC, List.set_cons_zero, List.set_cons_succ, List.take_succ_cons, List.take_zero, List.drop_succ_cons, List.drop_zero]))); any_goals kernel_rfl)
            | (apply g_drN (id := 21) okM [[], [], [1], [1, 2], [1, 2, 3], [], [5], [1, 2, 3, 4, 5, 6], [0, 1, 2, 3, 4, 5, 6, 7], [0, 1, 2, 3, 4, 5, 6, 7, 8], [0, 1, 2, 3, 4, 5, 6, 7, 8, 9]] [([], []), ([], []), ([], []), ([], []), ([], []), ([], []), ([0], []), ([1], [6]), ([], []), ([], []), ([], [1])] 2; (focus (all_goals refine dp 0 0 [79, 80, 81, 82, 83, 84, 85] [(true, 0), (true, 1), (false, 6)] pu1 ?_; all_goals refine dp 1 0 [78, 83, 84] [(true, 0)] pu1 ?_; all_goals refine dp 2 1 [78, 83, 84] [(true, 0)] (a_pure (sv := .one _) rfl) ?_; all_goals refine dp 3 3 [78, 83, 84] [(true, 0)] (a_pure (sv := .one _) rfl) ?_; all_goals refine dp 4 7 [78, 83, 84] [(true, 0)] puL ?_; all_goals refine dp 5 0 [78, 79, 80, 81, 82] [] (callFD 0 (hD := (l05OwnConfig_ok _ preB42 preB42))) ?_; all_goals refine duE 6 1 [78, 79, 80, 81, 82] [] (atN 0 (fun _ => a_litE eCf [⟨_, _, _⟩] rfl rfl rfl rfl rfl rfl rfl rfl)) (by exact rfl) (by exact rfl) ?_; all_goals refine duE 7 63 [78] [] (atS 1 (fun _ hj => a_appE (fP rfl) rfl rfl rfl rfl nowR (by first | omega | (simp; omega)) (by decide) hj (by exact rfl)) (by decide)) (by exact rfl) (by exact rfl) ?_; all_goals refine dp 8 255 [] [] (a_pure (sv := .one _) rfl) ?_; all_goals refine dp 9 511 [] [] (a_pure (sv := .one _) rfl) ?_; all_goals refine duE 10 1023 [] [] (a_st_bx rfl rfl rfl rfl (fN rfl rfl) (Nat.le_of_ble_eq_true rfl) rfl) (by exact rfl) (by exact rfl) ?_; all_goals (refine d_nil ?_; dsimp only [selT, selH, trues, SV.ren, C.ren, C.ren.all, tRen, GB.ren, calF, upOf, List.cons_append, List.nil_append, Nat.reduceAdd, setRow, List.map_cons, List.map_nil, scC, List.set_cons_zero, List.set_cons_succ, List.take_succ_cons, List.take_zero, List.drop_succ_cons, List.drop_zero]))); any_goals kernel_rfl)
            | (apply g_drN (id := 24) okM [[], [], [1], [1, 2], [1, 2, 3], [], [], [6], [5, 6, 7], [5, 6, 7, 8], [1, 2, 3, 4, 5, 6, 7, 8, 9], [0, 1, 2, 3, 4, 5, 6, 7, 8, 9, 10], [0, 1, 2, 3, 4, 5, 6, 7, 8, 9, 10, 11], [0, 1, 2, 3, 4, 5, 6, 7, 8, 9, 10, 11, 12]] [([], []), ([], []), ([], []), ([], []), ([], []), ([], []), ([], []), ([], []), ([], []), ([0], []), ([1], [5]), ([], []), ([], []), ([], [1])] 2; (focus (all_goals refine dp 0 0 [93, 94, 95, 96, 97, 98, 99, 100, 101, 102] [(true, 0), (true, 1), (false, 5)] pu1 ?_; all_goals refine dp 1 0 [92, 97, 98, 99, 100, 101] [(true, 0)] pu1 ?_; all_goals refine dp 2 1 [92, 97, 98, 99, 100, 101] [(true, 0)] (a_pure (sv := .one _) rfl) ?_; all_goals refine dp 3 3 [92, 97, 98, 99, 100, 101] [(true, 0)] (a_pure (sv := .one _) rfl) ?_; all_goals refine dp 4 7 [92, 97, 98, 99, 100, 101] [(true, 0)] puL ?_; all_goals refine dp 5 0 [92, 93, 94, 95, 96, 98, 99] [] pu1 ?_; all_goals refine dp 6 0 [92, 93, 94, 95, 96, 97] [] (a_pure (sv := .one _) rfl) ?_; all_goals refine dp 7 1 [92, 93, 94, 95, 96, 97] [] puL ?_; all_goals refine dp 8 7 [92, 93, 94, 95, 96] [] (a_litF (dst := some 100) eI [_, _, _] rfl rfl rfl rfl rfl rfl rfl rfl nowR) ?_; all_goals refine duE 9 15 [92, 93, 94, 95, 96] [] (atN 0 (fun _ => a_litE eW [_] rfl rfl rfl rfl rfl rfl rfl rfl)) (by exact rfl) (by exact rfl) ?_; all_goals refine duE 10 511 [92] [] (atS 1 (fun _ hj => a_appE (fP rfl) rfl rfl rfl rfl nowR (by first | omega | (simp; omega)) (by decide) hj (by exact rfl)) (by decide)) (by exact rfl) (by exact rfl) ?_; all_goals refine dp 11 2047 [] [] (a_pure (sv := .one _) rfl) ?_; all_goals refine dp 12 4095 [] [] (a_pure (sv := .one _) rfl) ?_; all_goals refine duE 13 8191 [] [] (a_st_bx rfl rfl rfl rfl (fN rfl rfl) (Nat.le_of_ble_eq_true rfl) rfl) (by exact rfl) (by exact rfl) ?_; all_goals (refine d_nil ?_; dsimp only [selT, selH, trues, SV.ren, C.ren, C.ren.all, tRen, GB.ren, calF, upOf, List.cons_append, List.nil_append, Nat.reduceAdd, setRow, List.map_cons, List.map_nil, scC, List.set_cons_zero, List.set_cons_succ, List.take_succ_cons, List.take_zero, List.drop_succ_cons, List.drop_zero]))); any_goals kernel_rfl)
            | (apply g_drN (id := 25) okM [[], [], [1], [1, 2], [1, 2, 3], [], [5], [1, 2, 3, 4, 5, 6], [0, 1, 2, 3, 4, 5, 6, 7], [0, 1, 2, 3, 4, 5, 6, 7, 8], [0, 1, 2, 3, 4, 5, 6, 7, 8, 9]] [([], []), ([], []), ([], []), ([], []), ([], []), ([], []), ([0], []), ([1], [6]), ([], []), ([], []), ([], [1])] 2; (focus (all_goals refine dp 0 0 [106, 107, 108, 109, 110, 111, 112] [(true, 0), (true, 1), (false, 6)] pu1 ?_; all_goals refine dp 1 0 [105, 110, 111] [(true, 0)] pu1 ?_; all_goals refine dp 2 1 [105, 110, 111] [(true, 0)] (a_pure (sv := .one _) rfl) ?_; all_goals refine dp 3 3 [105, 110, 111] [(true, 0)] (a_pure (sv := .one _) rfl) ?_; all_goals refine dp 4 7 [105, 110, 111] [(true, 0)] puL ?_; all_goals refine dp 5 0 [105, 106, 107, 108, 109] [] (callFD 0 (hD := (l05OwnConfig_ok _ preB42 preB42))) ?_; all_goals refine duE 6 1 [105, 106, 107, 108, 109] [] (atN 0 (fun _ => a_litE eCf [⟨_, _, _⟩] rfl rfl rfl rfl rfl rfl rfl rfl)) (by exact rfl) (by exact rfl) ?_; all_goals refine duE 7 63 [105] [] (atS 1 (fun _ hj => a_appE (fP rfl) rfl rfl rfl rfl nowR (by first | omega | (simp; omega)) (by decide) hj (by exact rfl)) (by decide)) (by exact rfl) (by exact rfl) ?_; all_goals refine dp 8 255 [] [] (a_pure (sv := .one _) rfl) ?_; all_goals refine dp 9 511 [] [] (a_pure (sv := .one _) rfl) ?_; all_goals refine duE 10 1023 [] [] (a_st_bx rfl rfl rfl rfl (fN rfl rfl) (Nat.le_of_ble_eq_true rfl) rfl) (by exact rfl) (by exact rfl) ?_; all_goals (refine d_nil ?_; dsimp only [selT, selH, trues, SV.ren, C.ren, C.ren.all, tRen, GB.ren, calF, upOf, List.cons_append, List.nil_append, Nat.reduceAdd, setRow, List.map_cons, List.map_nil, scC, List.set_cons_zero, List.set_cons_succ, List.take_succ_cons, List.take_zero, List.drop_succ_cons, List.drop_zero]))); any_goals kernel_rfl)
            | (refine o_gs rfl rfl (fun hc => ?_) (fun hc => ?_) <;> (try simp only [decide_eq_true_eq, decide_eq_false_iff_not, Bool.not_eq_true', Bool.not_eq_false', Bool.not_eq_true, Bool.not_eq_false, Bool.and_eq_true, Bool.or_eq_false_iff, Bool.not_not] at hc) <;> (try (first | contradiction | (exfalso; omega))))
            | (refine g_cond rfl (fun hc => ?_) (fun hc => ?_) <;> (try simp only [decide_eq_true_eq, decide_eq_false_iff_not, Bool.not_eq_true', Bool.not_eq_false', Bool.not_eq_true, Bool.not_eq_false, Bool.and_eq_true, Bool.or_eq_false_iff, Bool.not_not] at hc) <;> (try (first | contradiction | (exfalso; omega))))
          repeat (first | refine g_ret ?_ | refine q_sr ?_ | refine q_br ?_ | refine q_lr ?_ | refine q_cr ?_)
          refine ends_id ?_
          refine endK [?_, ?_, ?_, ?_] (h2 := ?_) (h3 := ?_) (nd := ?_)
          rotate_left 4
          all_goals (repeat' first | with_reducible exact SVLe.refl | exact SVLe.any | exact SVLe.one (.sh rfl) | exact SVLe.one (.nil (by decide)) | refine SVLe.agg ?_ | refine SVLe.tup ?_ | exact TLe.nil | refine TLe.cons ?_ ?_ | exact CsLe.nil | refine CsLe.cons ?_ ?_ | exact CLe.refl | exact CLe.sh rfl | exact CLe.nil (by decide) | refine cle_i ?_ | refine cle_b ?_ | exact trivial | refine And.intro ?_ ?_ | exact Or.inl rfl | exact Or.inr rfl | refine Or.inr (row_eq ?_) | (refine Or.inr (bx_eq rfl rfl ?_); (try dsimp only [C.ren, C.ren.all]); (try exact rfl)) | exact SVLe.refl | refine sle_i ?_ | refine sle_b ?_)
          all_goals first | exact (show nodupB _ = true from rfl) | exact Or.inr rfl | (rfl)
        · have hrm := hc
          have hc2 := stepS_ok hm i3 hnr hrm
          have hbd2 := at_bd hm hc2
          have hnx := run_next hnr (by omega) hrm i9
          rw [show n - 1 + 1 = n by omega] at hnx
          simp only [hp] at *
          repeat' first
            | refine g_seq ?_
            | refine g_skip ?_
            | refine g_exit ?_
            | refine g_block ?_
            | refine g_reg ?_
            | refine g_if_t rfl ?_
            | refine g_if_f rfl ?_
            | refine o_nil ?_
            | refine q_s ?_
            | refine q_se ?_
            | refine q_b ?_
            | refine q_be rfl ?_
            | refine q_bn rfl ?_
            | refine q_le ?_
            | refine q_ce ?_
            | (apply n3; (first | exact a_new (gb := .bx _) rfl | exact a_litE eI [_] rfl rfl rfl rfl rfl rfl rfl rfl | exact a_appN (fP rfl) rfl rfl rfl nowR (by first | omega | (simp; omega)) (by decide) (by exact rfl)); exact rfl; (try dsimp only [List.map_cons, List.map_nil, scC, Nat.reduceAdd]))
            | (apply p3; (first | exact pu1 | exact puL | exact puC | exact a_add rfl rfl (by omega) (by omega)); exact rfl)
            | (apply s3; exact a_appE (fP rfl) rfl rfl rfl rfl nowR (by first | omega | (simp; omega)) (by decide) (by decide) (by exact rfl); exact rfl; exact rfl)
            | (apply w3; (first | exact a_st_bx rfl rfl rfl rfl (fN rfl rfl) (Nat.le_of_ble_eq_true rfl) rfl | exact a_stE (E := eCf) ⟨_, _, _⟩ rfl rfl rfl rfl (fN rfl rfl) bnd (by exact rfl) | exact a_stE (E := eW) _ rfl rfl rfl rfl (fN rfl rfl) bnd (by exact rfl)); exact rfl; (try dsimp only [setRow, List.map_cons, List.map_nil, scC, List.set_cons_zero, List.set_cons_succ, List.take_succ_cons, List.take_zero, List.drop_succ_cons, List.drop_zero, Nat.reduceAdd]))
            | (apply c4 0; exact callK1 (θ := []) (hD := (l05HaltsC_ok _ _ preB42 preB42)); exact rfl; exact rfl; exact rfl; (try dsimp only [SV.ren, C.ren, C.ren.all, tRen, GB.ren, calF, upOf, List.cons_append, List.nil_append, Nat.reduceAdd]))
            | (apply c4 2; exact callK1 (θ := []) (hD := (l05StepC_ok _ _ preB42 preB42)); exact rfl; exact rfl; exact rfl; (try dsimp only [SV.ren, C.ren, C.ren.all, tRen, GB.ren, calF, upOf, List.cons_append, List.nil_append, Nat.reduceAdd]))
            | (apply g_drN (id := 11) okM [[], [0], [0, 1], [0, 1, 2], [], [4], [0, 1, 2, 3, 4, 5], [0, 1, 2, 3, 4, 5, 6], [], [8], [0, 1, 2, 3, 4, 5, 6, 7, 8, 9], [0, 1, 2, 3, 4, 5, 6, 7, 8, 9, 10]] [([], []), ([], []), ([], []), ([], []), ([], []), ([], []), ([], []), ([], []), ([], []), ([], []), ([], []), ([], [])] 0; (focus (all_goals refine dp 0 0 [32, 33, 36, 37] [] pu1 ?_; all_goals refine dp 1 1 [32, 33, 36, 37] [] (a_pure (sv := .one _) rfl) ?_; all_goals refine dp 2 3 [32, 33, 36, 37] [] (a_pure (sv := .one _) rfl) ?_; all_goals refine dp 3 7 [32, 33, 36, 37] [] puL ?_; all_goals refine dp 4 0 [28, 29, 30, 31, 36, 37] [] pu1 ?_; all_goals refine dp 5 1 [28, 29, 30, 31, 36, 37] [] (a_sub rfl rfl (by omega) (by omega)) ?_; all_goals refine dp 6 63 [36, 37] [] puI ?_; all_goals refine dp 7 127 [36, 37] [] puL ?_; all_goals refine dp 8 0 [28, 29, 30, 31, 32, 33, 34, 35] [] pu1 ?_; all_goals refine dp 9 1 [28, 29, 30, 31, 32, 33, 34, 35] [] (callD1 (n := _) 0 (θ := []) (hD := (l25Side_ok _ _ preB42 preB42))) ?_; all_goals refine dp 10 1023 [] [] (a_add rfl rfl (by omega) (by omega)) ?_; all_goals refine dp 11 2047 [] [] pu1 ?_; all_goals (refine d_nil ?_; dsimp only [selT, selH, trues, SV.ren, C.ren, C.ren.all, tRen, GB.ren, calF, upOf, List.cons_append, List.nil_append, Nat.reduceAdd, setRow, List.map_cons, List.map_nil, scC, List.set_cons_zero, List.set_cons_succ, List.take_succ_cons, List.take_zero, List.drop_succ_cons, List.drop_zero]))); any_goals kernel_rfl)
            | (apply g_drN (id := 20) okM [[], [], [1], [1, 2], [1, 2, 3], [], [], [6], [5, 6, 7], [5, 6, 7, 8], [1, 2, 3, 4, 5, 6, 7, 8, 9], [0, 1, 2, 3, 4, 5, 6, 7, 8, 9, 10], [0, 1, 2, 3, 4, 5, 6, 7, 8, 9, 10, 11], [0, 1, 2, 3, 4, 5, 6, 7, 8, 9, 10, 11, 12]] [([], []), ([], []), ([], []), ([], []), ([], []), ([], []), ([], []), ([], []), ([], []), ([0], []), ([1], [5]), ([], []), ([], []), ([], [1])] 2; (focus (all_goals refine dp 0 0 [66, 67, 68, 69, 70, 71, 72, 73, 74, 75] [(true, 0), (true, 1), (false, 5)] pu1 ?_; all_goals refine dp 1 0 [65, 70, 71, 72, 73, 74] [(true, 0)] pu1 ?_; all_goals refine dp 2 1 [65, 70, 71, 72, 73, 74] [(true, 0)] (a_pure (sv := .one _) rfl) ?_; all_goals refine dp 3 3 [65, 70, 71, 72, 73, 74] [(true, 0)] (a_pure (sv := .one _) rfl) ?_; all_goals refine dp 4 7 [65, 70, 71, 72, 73, 74] [(true, 0)] puL ?_; all_goals refine dp 5 0 [65, 66, 67, 68, 69, 71, 72] [] pu1 ?_; all_goals refine dp 6 0 [65, 66, 67, 68, 69, 70] [] (a_pure (sv := .one _) rfl) ?_; all_goals refine dp 7 1 [65, 66, 67, 68, 69, 70] [] puL ?_; all_goals refine dp 8 7 [65, 66, 67, 68, 69] [] (a_litF (dst := some 73) eI [_, _, _] rfl rfl rfl rfl rfl rfl rfl rfl nowR) ?_; all_goals refine duE 9 15 [65, 66, 67, 68, 69] [] (atN 0 (fun _ => a_litE eW [_] rfl rfl rfl rfl rfl rfl rfl rfl)) (by exact rfl) (by exact rfl) ?_; all_goals refine duE 10 511 [65] [] (atS 1 (fun _ hj => a_appE (fP rfl) rfl rfl rfl rfl nowR (by first | omega | (simp; omega)) (by decide) hj (by exact rfl)) (by decide)) (by exact rfl) (by exact rfl) ?_; all_goals refine dp 11 2047 [] [] (a_pure (sv := .one _) rfl) ?_; all_goals refine dp 12 4095 [] [] (a_pure (sv := .one _) rfl) ?_; all_goals refine duE 13 8191 [] [] (a_st_bx rfl rfl rfl rfl (fN rfl rfl) (Nat.le_of_ble_eq_true rfl) rfl) (by exact rfl) (by exact rfl) ?_; all_goals (refine d_nil ?_; dsimp only [selT, selH, trues, SV.ren, C.ren, C.ren.all, tRen, GB.ren, calF, upOf, List.cons_append, List.nil_append, Nat.reduceAdd, setRow, List.map_cons, List.map_nil, scC, List.set_cons_zero, List.set_cons_succ, List.take_succ_cons, List.take_zero, List.drop_succ_cons, List.drop_zero]))); any_goals kernel_rfl)
            | (apply g_drN (id := 21) okM [[], [], [1], [1, 2], [1, 2, 3], [], [5], [1, 2, 3, 4, 5, 6], [0, 1, 2, 3, 4, 5, 6, 7], [0, 1, 2, 3, 4, 5, 6, 7, 8], [0, 1, 2, 3, 4, 5, 6, 7, 8, 9]] [([], []), ([], []), ([], []), ([], []), ([], []), ([], []), ([0], []), ([1], [6]), ([], []), ([], []), ([], [1])] 2; (focus (all_goals refine dp 0 0 [79, 80, 81, 82, 83, 84, 85] [(true, 0), (true, 1), (false, 6)] pu1 ?_; all_goals refine dp 1 0 [78, 83, 84] [(true, 0)] pu1 ?_; all_goals refine dp 2 1 [78, 83, 84] [(true, 0)] (a_pure (sv := .one _) rfl) ?_; all_goals refine dp 3 3 [78, 83, 84] [(true, 0)] (a_pure (sv := .one _) rfl) ?_; all_goals refine dp 4 7 [78, 83, 84] [(true, 0)] puL ?_; all_goals refine dp 5 0 [78, 79, 80, 81, 82] [] (callFD 0 (hD := (l05OwnConfig_ok _ preB42 preB42))) ?_; all_goals refine duE 6 1 [78, 79, 80, 81, 82] [] (atN 0 (fun _ => a_litE eCf [⟨_, _, _⟩] rfl rfl rfl rfl rfl rfl rfl rfl)) (by exact rfl) (by exact rfl) ?_; all_goals refine duE 7 63 [78] [] (atS 1 (fun _ hj => a_appE (fP rfl) rfl rfl rfl rfl nowR (by first | omega | (simp; omega)) (by decide) hj (by exact rfl)) (by decide)) (by exact rfl) (by exact rfl) ?_; all_goals refine dp 8 255 [] [] (a_pure (sv := .one _) rfl) ?_; all_goals refine dp 9 511 [] [] (a_pure (sv := .one _) rfl) ?_; all_goals refine duE 10 1023 [] [] (a_st_bx rfl rfl rfl rfl (fN rfl rfl) (Nat.le_of_ble_eq_true rfl) rfl) (by exact rfl) (by exact rfl) ?_; all_goals (refine d_nil ?_; dsimp only [selT, selH, trues, SV.ren, C.ren, C.ren.all, tRen, GB.ren, calF, upOf, List.cons_append, List.nil_append, Nat.reduceAdd, setRow, List.map_cons, List.map_nil, scC, List.set_cons_zero, List.set_cons_succ, List.take_succ_cons, List.take_zero, List.drop_succ_cons, List.drop_zero]))); any_goals kernel_rfl)
            | (apply g_drN (id := 24) okM [[], [], [1], [1, 2], [1, 2, 3], [], [], [6], [5, 6, 7], [5, 6, 7, 8], [1, 2, 3, 4, 5, 6, 7, 8, 9], [0, 1, 2, 3, 4, 5, 6, 7, 8, 9, 10], [0, 1, 2, 3, 4, 5, 6, 7, 8, 9, 10, 11], [0, 1, 2, 3, 4, 5, 6, 7, 8, 9, 10, 11, 12]] [([], []), ([], []), ([], []), ([], []), ([], []), ([], []), ([], []), ([], []), ([], []), ([0], []), ([1], [5]), ([], []), ([], []), ([], [1])] 2; (focus (all_goals refine dp 0 0 [93, 94, 95, 96, 97, 98, 99, 100, 101, 102] [(true, 0), (true, 1), (false, 5)] pu1 ?_; all_goals refine dp 1 0 [92, 97, 98, 99, 100, 101] [(true, 0)] pu1 ?_; all_goals refine dp 2 1 [92, 97, 98, 99, 100, 101] [(true, 0)] (a_pure (sv := .one _) rfl) ?_; all_goals refine dp 3 3 [92, 97, 98, 99, 100, 101] [(true, 0)] (a_pure (sv := .one _) rfl) ?_; all_goals refine dp 4 7 [92, 97, 98, 99, 100, 101] [(true, 0)] puL ?_; all_goals refine dp 5 0 [92, 93, 94, 95, 96, 98, 99] [] pu1 ?_; all_goals refine dp 6 0 [92, 93, 94, 95, 96, 97] [] (a_pure (sv := .one _) rfl) ?_; all_goals refine dp 7 1 [92, 93, 94, 95, 96, 97] [] puL ?_; all_goals refine dp 8 7 [92, 93, 94, 95, 96] [] (a_litF (dst := some 100) eI [_, _, _] rfl rfl rfl rfl rfl rfl rfl rfl nowR) ?_; all_goals refine duE 9 15 [92, 93, 94, 95, 96] [] (atN 0 (fun _ => a_litE eW [_] rfl rfl rfl rfl rfl rfl rfl rfl)) (by exact rfl) (by exact rfl) ?_; all_goals refine duE 10 511 [92] [] (atS 1 (fun _ hj => a_appE (fP rfl) rfl rfl rfl rfl nowR (by first | omega | (simp; omega)) (by decide) hj (by exact rfl)) (by decide)) (by exact rfl) (by exact rfl) ?_; all_goals refine dp 11 2047 [] [] (a_pure (sv := .one _) rfl) ?_; all_goals refine dp 12 4095 [] [] (a_pure (sv := .one _) rfl) ?_; all_goals refine duE 13 8191 [] [] (a_st_bx rfl rfl rfl rfl (fN rfl rfl) (Nat.le_of_ble_eq_true rfl) rfl) (by exact rfl) (by exact rfl) ?_; all_goals (refine d_nil ?_; dsimp only [selT, selH, trues, SV.ren, C.ren, C.ren.all, tRen, GB.ren, calF, upOf, List.cons_append, List.nil_append, Nat.reduceAdd, setRow, List.map_cons, List.map_nil, scC, List.set_cons_zero, List.set_cons_succ, List.take_succ_cons, List.take_zero, List.drop_succ_cons, List.drop_zero]))); any_goals kernel_rfl)
            | (apply g_drN (id := 25) okM [[], [], [1], [1, 2], [1, 2, 3], [], [5], [1, 2, 3, 4, 5, 6], [0, 1, 2, 3, 4, 5, 6, 7], [0, 1, 2, 3, 4, 5, 6, 7, 8], [0, 1, 2, 3, 4, 5, 6, 7, 8, 9]] [([], []), ([], []), ([], []), ([], []), ([], []), ([], []), ([0], []), ([1], [6]), ([], []), ([], []), ([], [1])] 2; (focus (all_goals refine dp 0 0 [106, 107, 108, 109, 110, 111, 112] [(true, 0), (true, 1), (false, 6)] pu1 ?_; all_goals refine dp 1 0 [105, 110, 111] [(true, 0)] pu1 ?_; all_goals refine dp 2 1 [105, 110, 111] [(true, 0)] (a_pure (sv := .one _) rfl) ?_; all_goals refine dp 3 3 [105, 110, 111] [(true, 0)] (a_pure (sv := .one _) rfl) ?_; all_goals refine dp 4 7 [105, 110, 111] [(true, 0)] puL ?_; all_goals refine dp 5 0 [105, 106, 107, 108, 109] [] (callFD 0 (hD := (l05OwnConfig_ok _ preB42 preB42))) ?_; all_goals refine duE 6 1 [105, 106, 107, 108, 109] [] (atN 0 (fun _ => a_litE eCf [⟨_, _, _⟩] rfl rfl rfl rfl rfl rfl rfl rfl)) (by exact rfl) (by exact rfl) ?_; all_goals refine duE 7 63 [105] [] (atS 1 (fun _ hj => a_appE (fP rfl) rfl rfl rfl rfl nowR (by first | omega | (simp; omega)) (by decide) hj (by exact rfl)) (by decide)) (by exact rfl) (by exact rfl) ?_; all_goals refine dp 8 255 [] [] (a_pure (sv := .one _) rfl) ?_; all_goals refine dp 9 511 [] [] (a_pure (sv := .one _) rfl) ?_; all_goals refine duE 10 1023 [] [] (a_st_bx rfl rfl rfl rfl (fN rfl rfl) (Nat.le_of_ble_eq_true rfl) rfl) (by exact rfl) (by exact rfl) ?_; all_goals (refine d_nil ?_; dsimp only [selT, selH, trues, SV.ren, C.ren, C.ren.all, tRen, GB.ren, calF, upOf, List.cons_append, List.nil_append, Nat.reduceAdd, setRow, List.map_cons, List.map_nil, scC, List.set_cons_zero, List.set_cons_succ, List.take_succ_cons, List.take_zero, List.drop_succ_cons, List.drop_zero]))); any_goals kernel_rfl)
            | (refine o_gs rfl rfl (fun hc => ?_) (fun hc => ?_) <;> (try simp only [decide_eq_true_eq, decide_eq_false_iff_not, Bool.not_eq_true', Bool.not_eq_false', Bool.not_eq_true, Bool.not_eq_false, Bool.and_eq_true, Bool.or_eq_false_iff, Bool.not_not] at hc) <;> (try (first | contradiction | (exfalso; omega))))
            | (refine g_cond rfl (fun hc => ?_) (fun hc => ?_) <;> (try simp only [decide_eq_true_eq, decide_eq_false_iff_not, Bool.not_eq_true', Bool.not_eq_false', Bool.not_eq_true, Bool.not_eq_false, Bool.and_eq_true, Bool.or_eq_false_iff, Bool.not_not] at hc) <;> (try (first | contradiction | (exfalso; omega))))
          · refine q_again (n + 1, stepS (ruAt m c) c, hd + (ruAt m c).m, X, ⟨X.pos ++ [hd + (ruAt m c).m], X.rcs ++ [⟨n, 1, stepS (ruAt m c) c⟩], X.le, hd + (ruAt m c).m⟩, rl ++ [[n, 1, (stepS (ruAt m c) c).st]], cl ++ [stepS (ruAt m c) c]) [11, 1, 7, 8, 4, 13, 15] (by exact stk) ?_ ?_
            · refine ⟨by dsimp only; omega, by dsimp only; omega, hc2, by dsimp only; omega, by dsimp only; rw [show n + 1 - 1 = n by omega]; exact hq, ?_, ?_, ?_, by dsimp only; rw [show n + 1 - 1 = n by omega]; subst i6; exact hnx⟩
              · dsimp only
                unfold qkC
                rw [if_pos (by assumption)]
                rw [hl1]
              · dsimp only; rw [recL_app, i7]
              · dsimp only; rw [recC_app, i8]
            · dsimp only; omega
          · refine q_again (n + 1, stepS (ruAt m c) c, hd + (ruAt m c).m, X, ⟨X.pos ++ [hd + (ruAt m c).m], X.rcs ++ [⟨n, -1, stepS (ruAt m c) c⟩], hd + (ruAt m c).m, X.gr⟩, rl ++ [[n, -1, (stepS (ruAt m c) c).st]], cl ++ [stepS (ruAt m c) c]) [11, 1, 7, 8, 4, 13, 15] (by exact stk) ?_ ?_
            · refine ⟨by dsimp only; omega, by dsimp only; omega, hc2, by dsimp only; omega, by dsimp only; rw [show n + 1 - 1 = n by omega]; exact hq, ?_, ?_, ?_, by dsimp only; rw [show n + 1 - 1 = n by omega]; subst i6; exact hnx⟩
              · dsimp only
                unfold qkC
                rw [if_neg (by assumption), if_pos (by assumption)]
                rw [hl1]
              · dsimp only; rw [recL_app, i7]
              · dsimp only; rw [recC_app, i8]
            · dsimp only; omega
          · refine q_again (n + 1, stepS (ruAt m c) c, hd + (ruAt m c).m, X, ⟨X.pos ++ [hd + (ruAt m c).m], X.rcs, X.le, X.gr⟩, rl, cl) [11, 1, 7, 8, 4, 5, 6] (by exact stk) ?_ ?_
            · refine ⟨by dsimp only; omega, by dsimp only; omega, hc2, by dsimp only; omega, by dsimp only; rw [show n + 1 - 1 = n by omega]; exact hq, ?_, ?_, ?_, by dsimp only; rw [show n + 1 - 1 = n by omega]; subst i6; exact hnx⟩
              · dsimp only
                unfold qkC
                rw [if_neg (by assumption), if_neg (by assumption)]
              · exact i7
              · exact i8
            · dsimp only; omega
    · subst i6 i7 i8
      have hn : n - 1 = b := by omega
      by_cases hr : ruAt m c = noR
      · obtain rfl := run_halt hr i9
        rw [decide_eq_true hr]
        repeat (first | refine g_ret ?_ | refine q_sr ?_ | refine q_br ?_ | refine q_lr ?_ | refine q_cr ?_)
        refine ends_id ?_
        refine endK [?_, ?_, ?_, ?_] (h2 := ?_) (h3 := ?_) (nd := ?_)
        rotate_left 4
        all_goals (repeat' first | with_reducible exact SVLe.refl | exact SVLe.any | exact SVLe.one (.sh rfl) | exact SVLe.one (.nil (by decide)) | refine SVLe.agg ?_ | refine SVLe.tup ?_ | exact TLe.nil | refine TLe.cons ?_ ?_ | exact CsLe.nil | refine CsLe.cons ?_ ?_ | exact CLe.refl | exact CLe.sh rfl | exact CLe.nil (by decide) | refine cle_i ?_ | refine cle_b ?_ | exact trivial | refine And.intro ?_ ?_ | exact Or.inl rfl | exact Or.inr rfl | refine Or.inr (row_eq ?_) | (refine Or.inr (bx_eq rfl rfl ?_); (try dsimp only [C.ren, C.ren.all]); (try exact rfl)) | exact SVLe.refl | refine sle_i ?_ | refine sle_b ?_)
        all_goals first | exact (show nodupB _ = true from rfl) | exact Or.inr rfl | (rfl)
      · obtain rfl := run_end hr hn i9
        rw [decide_eq_false hr]
        repeat (first | refine g_ret ?_ | refine q_sr ?_ | refine q_br ?_ | refine q_lr ?_ | refine q_cr ?_)
        refine ends_id ?_
        refine endK [?_, ?_, ?_, ?_] (h2 := ?_) (h3 := ?_) (nd := ?_)
        rotate_left 4
        all_goals (repeat' first | with_reducible exact SVLe.refl | exact SVLe.any | exact SVLe.one (.sh rfl) | exact SVLe.one (.nil (by decide)) | refine SVLe.agg ?_ | refine SVLe.tup ?_ | exact TLe.nil | refine TLe.cons ?_ ?_ | exact CsLe.nil | refine CsLe.cons ?_ ?_ | exact CLe.refl | exact CLe.sh rfl | exact CLe.nil (by decide) | refine cle_i ?_ | refine cle_b ?_ | exact trivial | refine And.intro ?_ ?_ | exact Or.inl rfl | exact Or.inr rfl | refine Or.inr (row_eq ?_) | (refine Or.inr (bx_eq rfl rfl ?_); (try dsimp only [C.ren, C.ren.all]); (try exact rfl)) | exact SVLe.refl | refine sle_i ?_ | refine sle_b ?_)
        all_goals first | exact (show nodupB _ = true from rfl) | exact Or.inr rfl | (rfl)
end Go.Proofs.Ytncccjpbaeaafaa
end
