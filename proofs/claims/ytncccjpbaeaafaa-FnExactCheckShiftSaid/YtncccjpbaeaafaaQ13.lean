/- Parts of the proof (13 of 14). -/
import Derived.Test.YtncccjpbaeaafaaQ12
section
set_option linter.unusedVariables false
set_option linter.unusedSimpArgs false
set_option maxRecDepth 100000
set_option maxHeartbeats 4000000
namespace Go.Proofs.Ytncccjpbaeaafaa
open Go Foot
@[irreducible] def minL (l : List Int) : Int := l.foldl min (l.headD 0)
@[irreducible] def maxL (l : List Int) : Int := l.foldl max (l.headD 0)
theorem foldl_next {l : List Int} {i : Int} (f : Int → Int → Int) (z : Int) (h0 : 0 ≤ i) (h : i.toNat < l.length) : (l.take (i + 1).toNat).foldl f z = f ((l.take i.toNat).foldl f z) l[i.toNat] := by
  rw [show (i + 1).toNat = i.toNat + 1 by omega, List.take_succ_eq_append_getElem h, List.foldl_append]; rfl
theorem foldl_one {l : List Int} (f : Int → Int → Int) (hf : ∀ x, f x x = x) (h : 0 < l.length) : (l.take (1 : Int).toNat).foldl f (l.headD 0) = l[(0 : Int).toNat] := by
  cases l with
  | nil => simp at h
  | cons a l => exact hf a
theorem preB36 {p : Prop} (h : p := by first | with_reducible assumption | omega | (simp only [List.length_append, List.length_cons, List.length_nil, List.length_set, List.length_replicate, List.length_take, List.length_drop, List.length_tail, List.length_dropLast, List.length_reverse] at *; omega) | exact mem_len (by assumption) (by omega) | (with_reducible refine Int.le_trans (Int.ofNat_le.2 (trimR_len _)) ?_; simp only [List.length_cons, List.length_tail]; omega) | (exact (ruAt_ok (by assumption) (by assumption) (by assumption)).2.1) | (exact (ruAt_ok (by assumption) (by assumption) (by assumption)).2.1) | (have := vMach_bd (by assumption); omega) | (simp only [mC_ch, mC_tu]; omega) | (with_reducible refine Int.le_trans (Int.ofNat_le.2 (pushL_len _ _)) ?_; simp only [List.length_dropLast]; omega) | exact (ask_ok (by assumption)).1 | exact (ask_ok (by assumption)).2.1 | exact (ask_ok (by assumption)).2.2.1 | exact (ask_ok (by assumption)).2.2.2 | trivial) : p := h
theorem sMin_ok (l : List Int) (h : 0 < (l.length : Int)) (hx : (l.length : Int) ≤ 16777216) : Does Try.prog 119 [.one (shI l)] [] (.one (int (minL l))) [] := by
  refine does_of (k := 0) Try.func119 rfl Try.ntmps119 rfl rfl fun w F0 S0 ρ0 => ?_
  dsimp only [argT, argH]
  repeat' first
    | refine g_seq ?_
    | refine g_skip ?_
    | refine g_exit ?_
    | refine g_block ?_
    | refine g_reg ?_
    | refine g_if_t rfl ?_
    | refine g_if_f rfl ?_
    | refine o_nil ?_
    | refine q_s ?_
    | refine q_se ?_
    | refine q_b ?_
    | refine q_be rfl ?_
    | refine q_bn rfl ?_
    | refine q_le ?_
    | refine q_ce ?_
    | (apply p3; (first | exact pu1 | exact puL | exact puN | exact a_len_str rfl (fT rfl) | exact puC | exact a_min rfl rfl | exact a_add rfl rfl (by omega) (by omega) | exact puI); exact rfl)
    | (refine o_gs rfl rfl (fun hc => ?_) (fun hc => ?_) <;> (try simp only [decide_eq_true_eq, decide_eq_false_iff_not, Bool.not_eq_true', Bool.not_eq_false', Bool.not_eq_true, Bool.not_eq_false, Bool.and_eq_true, Bool.or_eq_false_iff, Bool.not_not] at hc) <;> (try (first | contradiction | (exfalso; omega))))
    | (refine g_cond rfl (fun hc => ?_) (fun hc => ?_) <;> (try simp only [decide_eq_true_eq, decide_eq_false_iff_not, Bool.not_eq_true', Bool.not_eq_false', Bool.not_eq_true, Bool.not_eq_false, Bool.and_eq_true, Bool.or_eq_false_iff, Bool.not_not] at hc) <;> (try (first | contradiction | (exfalso; omega))))
  refine g_loop_id ?_
  refine loopK [0, 2] [] (fun y : Int × Int => 1 ≤ y.1 ∧ y.1 ≤ l.length ∧ y.2 = (l.take y.1.toNat).foldl min (l.headD 0)) (fun y => [(4, .one (int y.1)), (3, .one (int y.2))]) (fun _ => []) (fun y => (l.length - y.1).toNat) ((1 : Int), l[(0 : Int).toNat]'(by simp; omega)) [] (hI := ?_) (hr := ?_)
  · exact ⟨by simp, by dsimp only; omega, (foldl_one min (fun x => by omega) (by omega)).symm⟩
  · rintro ⟨i, k⟩ ⟨h0, h1, h2⟩
    dsimp only [List.cons_append, List.nil_append] at *
    skip
    repeat' first
      | refine g_seq ?_
      | refine g_skip ?_
      | refine g_exit ?_
      | refine g_block ?_
      | refine g_reg ?_
      | refine g_if_t rfl ?_
      | refine g_if_f rfl ?_
      | refine o_nil ?_
      | refine q_s ?_
      | refine q_se ?_
      | refine q_b ?_
      | refine q_be rfl ?_
      | refine q_bn rfl ?_
      | refine q_le ?_
      | refine q_ce ?_
      | (apply p3; (first | exact pu1 | exact puL | exact puN | exact a_len_str rfl (fT rfl) | exact puC | exact a_min rfl rfl | exact a_add rfl rfl (by omega) (by omega) | exact puI); exact rfl)
      | (refine o_gs rfl rfl (fun hc => ?_) (fun hc => ?_) <;> (try simp only [decide_eq_true_eq, decide_eq_false_iff_not, Bool.not_eq_true', Bool.not_eq_false', Bool.not_eq_true, Bool.not_eq_false, Bool.and_eq_true, Bool.or_eq_false_iff, Bool.not_not] at hc) <;> (try (first | contradiction | (exfalso; omega))))
      | (refine g_cond rfl (fun hc => ?_) (fun hc => ?_) <;> (try simp only [decide_eq_true_eq, decide_eq_false_iff_not, Bool.not_eq_true', Bool.not_eq_false', Bool.not_eq_true, Bool.not_eq_false, Bool.and_eq_true, Bool.or_eq_false_iff, Bool.not_not] at hc) <;> (try (first | contradiction | (exfalso; omega))))
    · refine q_again (i + 1, if l[i.toNat]'(by omega) < k then l[i.toNat]'(by omega) else k) [] (by exact stk) ?_ ?_
      · exact ⟨by dsimp only; omega, by dsimp only; omega, by dsimp only; rw [foldl_next min _ (by omega) (by omega), ← h2]; split <;> omega⟩
      · dsimp only; omega
    · repeat (first | refine g_ret ?_ | refine q_sr ?_ | refine q_br ?_ | refine q_lr ?_ | refine q_cr ?_)
      refine ends_id ?_
      refine endK [] (h2 := ?_) (h3 := ?_) (nd := ?_)
      all_goals (repeat' first | with_reducible exact SVLe.refl | exact SVLe.any | exact SVLe.one (.sh rfl) | exact SVLe.one (.nil (by decide)) | refine SVLe.agg ?_ | refine SVLe.tup ?_ | exact TLe.nil | refine TLe.cons ?_ ?_ | exact CsLe.nil | refine CsLe.cons ?_ ?_ | exact CLe.refl | exact CLe.sh rfl | exact CLe.nil (by decide) | refine cle_i ?_ | refine cle_b ?_ | exact trivial | refine And.intro ?_ ?_ | exact Or.inl rfl | exact Or.inr rfl | refine Or.inr (row_eq ?_) | (refine Or.inr (bx_eq rfl rfl ?_); (try dsimp only [C.ren, C.ren.all]); (try exact rfl)) | exact SVLe.refl | refine sle_i ?_ | refine sle_b ?_)
      all_goals first | exact (show nodupB _ = true from rfl) | exact Or.inr rfl | ((unfold minL; rw [h2, List.take_of_length_le (by omega)]))
theorem sMax_ok (l : List Int) (h : 0 < (l.length : Int)) (hx : (l.length : Int) ≤ 16777216) : Does Try.prog 120 [.one (shI l)] [] (.one (int (maxL l))) [] := by
  refine does_of (k := 0) Try.func120 rfl Try.ntmps120 rfl rfl fun w F0 S0 ρ0 => ?_
  dsimp only [argT, argH]
  repeat' first
    | refine g_seq ?_
    | refine g_skip ?_
    | refine g_exit ?_
    | refine g_block ?_
    | refine g_reg ?_
    | refine g_if_t rfl ?_
    | refine g_if_f rfl ?_
    | refine o_nil ?_
    | refine q_s ?_
    | refine q_se ?_
    | refine q_b ?_
    | refine q_be rfl ?_
    | refine q_bn rfl ?_
    | refine q_le ?_
    | refine q_ce ?_
    | (apply p3; (first | exact pu1 | exact puL | exact puN | exact a_len_str rfl (fT rfl) | exact puC | exact a_max rfl rfl | exact a_add rfl rfl (by omega) (by omega) | exact puI); exact rfl)
    | (refine o_gs rfl rfl (fun hc => ?_) (fun hc => ?_) <;> (try simp only [decide_eq_true_eq, decide_eq_false_iff_not, Bool.not_eq_true', Bool.not_eq_false', Bool.not_eq_true, Bool.not_eq_false, Bool.and_eq_true, Bool.or_eq_false_iff, Bool.not_not] at hc) <;> (try (first | contradiction | (exfalso; omega))))
    | (refine g_cond rfl (fun hc => ?_) (fun hc => ?_) <;> (try simp only [decide_eq_true_eq, decide_eq_false_iff_not, Bool.not_eq_true', Bool.not_eq_false', Bool.not_eq_true, Bool.not_eq_false, Bool.and_eq_true, Bool.or_eq_false_iff, Bool.not_not] at hc) <;> (try (first | contradiction | (exfalso; omega))))
  refine g_loop_id ?_
  refine loopK [0, 2] [] (fun y : Int × Int => 1 ≤ y.1 ∧ y.1 ≤ l.length ∧ y.2 = (l.take y.1.toNat).foldl max (l.headD 0)) (fun y => [(4, .one (int y.1)), (3, .one (int y.2))]) (fun _ => []) (fun y => (l.length - y.1).toNat) ((1 : Int), l[(0 : Int).toNat]'(by simp; omega)) [] (hI := ?_) (hr := ?_)
  · exact ⟨by simp, by dsimp only; omega, (foldl_one max (fun x => by omega) (by omega)).symm⟩
  · rintro ⟨i, k⟩ ⟨h0, h1, h2⟩
    dsimp only [List.cons_append, List.nil_append] at *
    skip
    repeat' first
      | refine g_seq ?_
      | refine g_skip ?_
      | refine g_exit ?_
      | refine g_block ?_
      | refine g_reg ?_
      | refine g_if_t rfl ?_
      | refine g_if_f rfl ?_
      | refine o_nil ?_
      | refine q_s ?_
      | refine q_se ?_
      | refine q_b ?_
      | refine q_be rfl ?_
      | refine q_bn rfl ?_
      | refine q_le ?_
      | refine q_ce ?_
      | (apply p3; (first | exact pu1 | exact puL | exact puN | exact a_len_str rfl (fT rfl) | exact puC | exact a_max rfl rfl | exact a_add rfl rfl (by omega) (by omega) | exact puI); exact rfl)
      | (refine o_gs rfl rfl (fun hc => ?_) (fun hc => ?_) <;> (try simp only [decide_eq_true_eq, decide_eq_false_iff_not, Bool.not_eq_true', Bool.not_eq_false', Bool.not_eq_true, Bool.not_eq_false, Bool.and_eq_true, Bool.or_eq_false_iff, Bool.not_not] at hc) <;> (try (first | contradiction | (exfalso; omega))))
      | (refine g_cond rfl (fun hc => ?_) (fun hc => ?_) <;> (try simp only [decide_eq_true_eq, decide_eq_false_iff_not, Bool.not_eq_true', Bool.not_eq_false', Bool.not_eq_true, Bool.not_eq_false, Bool.and_eq_true, Bool.or_eq_false_iff, Bool.not_not] at hc) <;> (try (first | contradiction | (exfalso; omega))))
    · refine q_again (i + 1, if k < l[i.toNat]'(by omega) then l[i.toNat]'(by omega) else k) [] (by exact stk) ?_ ?_
      · exact ⟨by dsimp only; omega, by dsimp only; omega, by dsimp only; rw [foldl_next max _ (by omega) (by omega), ← h2]; split <;> omega⟩
      · dsimp only; omega
    · repeat (first | refine g_ret ?_ | refine q_sr ?_ | refine q_br ?_ | refine q_lr ?_ | refine q_cr ?_)
      refine ends_id ?_
      refine endK [] (h2 := ?_) (h3 := ?_) (nd := ?_)
      all_goals (repeat' first | with_reducible exact SVLe.refl | exact SVLe.any | exact SVLe.one (.sh rfl) | exact SVLe.one (.nil (by decide)) | refine SVLe.agg ?_ | refine SVLe.tup ?_ | exact TLe.nil | refine TLe.cons ?_ ?_ | exact CsLe.nil | refine CsLe.cons ?_ ?_ | exact CLe.refl | exact CLe.sh rfl | exact CLe.nil (by decide) | refine cle_i ?_ | refine cle_b ?_ | exact trivial | refine And.intro ?_ ?_ | exact Or.inl rfl | exact Or.inr rfl | refine Or.inr (row_eq ?_) | (refine Or.inr (bx_eq rfl rfl ?_); (try dsimp only [C.ren, C.ren.all]); (try exact rfl)) | exact SVLe.refl | refine sle_i ?_ | refine sle_b ?_)
      all_goals first | exact (show nodupB _ = true from rfl) | exact Or.inr rfl | ((unfold maxL; rw [h2, List.take_of_length_le (by omega)]))
@[irreducible] def behind (l : List Int) (d : Int) : Int := if 0 < d then l.headD 0 - minL l else maxL l - l.headD 0
theorem behindHead_ok (l : List Int) (d : Int) (h : 0 < (l.length : Int)) (hx : (l.length : Int) ≤ 16777216) (h1 : -1000000 ≤ l.headD 0) (h2 : l.headD 0 ≤ 1000000) (h3 : -1000000 ≤ minL l) (h4 : minL l ≤ 1000000) (h5 : -1000000 ≤ maxL l) (h6 : maxL l ≤ 1000000) : Does Try.prog 78 [.one (shI l), .one (int d)] [] (.one (int (behind l d))) [] := by
  have hp : (0 : Int).toNat < l.length := by simp; omega
  have e : l[(0 : Int).toNat]'hp = l.headD 0 := by cases l with | nil => simp at h | cons a l => rfl
  have g1 : -1000000 ≤ l[(0 : Int).toNat]'hp := by rw [e]; exact h1
  have g2 : l[(0 : Int).toNat]'hp ≤ 1000000 := by rw [e]; exact h2
  refine does_of (k := 0) Try.func78 rfl Try.ntmps78 rfl rfl fun w F0 S0 ρ0 => ?_
  dsimp only [argT, argH]
  repeat' first
    | refine g_seq ?_
    | refine g_skip ?_
    | refine g_exit ?_
    | refine g_block ?_
    | refine g_reg ?_
    | refine g_if_t rfl ?_
    | refine g_if_f rfl ?_
    | refine o_nil ?_
    | refine q_s ?_
    | refine q_se ?_
    | refine q_b ?_
    | refine q_be rfl ?_
    | refine q_bn rfl ?_
    | refine q_le ?_
    | refine q_ce ?_
    | (apply p3; (first | exact pu1 | exact puC); exact rfl)
    | (apply g_drN (id := 2) okM [[], [0], [0, 1], [], [3], [0, 1, 2, 3, 4], [0, 1, 2, 3, 4, 5]] [([], []), ([], []), ([], []), ([], []), ([], []), ([], []), ([], [])] 0; (focus (all_goals refine dp 0 0 [10, 11] [] pu1 ?_; all_goals refine dp 1 1 [10, 11] [] puI ?_; all_goals refine dp 2 3 [10, 11] [] puL ?_; all_goals refine dp 3 0 [7, 8, 9] [] pu1 ?_; all_goals refine dp 4 1 [7, 8, 9] [] (callD1 (n := _) 0 (θ := []) (hD := (sMin_ok _ preB36 preB36))) ?_; all_goals refine dp 5 31 [] [] (a_sub rfl rfl (by omega) (by omega)) ?_; all_goals refine dp 6 63 [] [] pu1 ?_; all_goals (refine d_nil ?_; dsimp only [selT, selH, trues, SV.ren, C.ren, C.ren.all, tRen, GB.ren, calF, upOf, List.cons_append, List.nil_append, Nat.reduceAdd, setRow, List.map_cons, List.map_nil, scC, List.set_cons_zero, List.set_cons_succ, List.take_succ_cons, List.take_zero, List.drop_succ_cons, List.drop_zero]))); any_goals kernel_rfl)
    | (apply g_drN (id := 3) okM [[], [0], [], [2], [2, 3], [0, 1, 2, 3, 4], [0, 1, 2, 3, 4, 5]] [([], []), ([], []), ([], []), ([], []), ([], []), ([], []), ([], [])] 0; (focus (all_goals refine dp 0 0 [15, 16, 17] [] pu1 ?_; all_goals refine dp 1 1 [15, 16, 17] [] (callD1 (n := _) 0 (θ := []) (hD := (sMax_ok _ preB36 preB36))) ?_; all_goals refine dp 2 0 [13, 14] [] pu1 ?_; all_goals refine dp 3 1 [13, 14] [] puI ?_; all_goals refine dp 4 3 [13, 14] [] puL ?_; all_goals refine dp 5 31 [] [] (a_sub rfl rfl (by omega) (by omega)) ?_; all_goals refine dp 6 63 [] [] pu1 ?_; all_goals (refine d_nil ?_; dsimp only [selT, selH, trues, SV.ren, C.ren, C.ren.all, tRen, GB.ren, calF, upOf, List.cons_append, List.nil_append, Nat.reduceAdd, setRow, List.map_cons, List.map_nil, scC, List.set_cons_zero, List.set_cons_succ, List.take_succ_cons, List.take_zero, List.drop_succ_cons, List.drop_zero]))); any_goals kernel_rfl)
    | (refine o_gs rfl rfl (fun hc => ?_) (fun hc => ?_) <;> (try simp only [decide_eq_true_eq, decide_eq_false_iff_not, Bool.not_eq_true', Bool.not_eq_false', Bool.not_eq_true, Bool.not_eq_false, Bool.and_eq_true, Bool.or_eq_false_iff, Bool.not_not] at hc) <;> (try (first | contradiction | (exfalso; omega))))
    | (refine g_cond rfl (fun hc => ?_) (fun hc => ?_) <;> (try simp only [decide_eq_true_eq, decide_eq_false_iff_not, Bool.not_eq_true', Bool.not_eq_false', Bool.not_eq_true, Bool.not_eq_false, Bool.and_eq_true, Bool.or_eq_false_iff, Bool.not_not] at hc) <;> (try (first | contradiction | (exfalso; omega))))
  · repeat (first | refine g_ret ?_ | refine q_sr ?_ | refine q_br ?_ | refine q_lr ?_ | refine q_cr ?_)
    refine ends_id ?_
    refine endK [] (h2 := ?_) (h3 := ?_) (nd := ?_)
    all_goals (repeat' first | with_reducible exact SVLe.refl | exact SVLe.any | exact SVLe.one (.sh rfl) | exact SVLe.one (.nil (by decide)) | refine SVLe.agg ?_ | refine SVLe.tup ?_ | exact TLe.nil | refine TLe.cons ?_ ?_ | exact CsLe.nil | refine CsLe.cons ?_ ?_ | exact CLe.refl | exact CLe.sh rfl | exact CLe.nil (by decide) | refine cle_i ?_ | refine cle_b ?_ | exact trivial | refine And.intro ?_ ?_ | exact Or.inl rfl | exact Or.inr rfl | refine Or.inr (row_eq ?_) | (refine Or.inr (bx_eq rfl rfl ?_); (try dsimp only [C.ren, C.ren.all]); (try exact rfl)) | exact SVLe.refl | refine sle_i ?_ | refine sle_b ?_)
    all_goals first | exact (show nodupB _ = true from rfl) | exact Or.inr rfl | ((unfold behind; rw [if_pos hc, e]))
  · repeat (first | refine g_ret ?_ | refine q_sr ?_ | refine q_br ?_ | refine q_lr ?_ | refine q_cr ?_)
    refine ends_id ?_
    refine endK [] (h2 := ?_) (h3 := ?_) (nd := ?_)
    all_goals (repeat' first | with_reducible exact SVLe.refl | exact SVLe.any | exact SVLe.one (.sh rfl) | exact SVLe.one (.nil (by decide)) | refine SVLe.agg ?_ | refine SVLe.tup ?_ | exact TLe.nil | refine TLe.cons ?_ ?_ | exact CsLe.nil | refine CsLe.cons ?_ ?_ | exact CLe.refl | exact CLe.sh rfl | exact CLe.nil (by decide) | refine cle_i ?_ | refine cle_b ?_ | exact trivial | refine And.intro ?_ ?_ | exact Or.inl rfl | exact Or.inr rfl | refine Or.inr (row_eq ?_) | (refine Or.inr (bx_eq rfl rfl ?_); (try dsimp only [C.ren, C.ren.all]); (try exact rfl)) | exact SVLe.refl | refine sle_i ?_ | refine sle_b ?_)
    all_goals first | exact (show nodupB _ = true from rfl) | exact Or.inr rfl | ((unfold behind; rw [if_neg hc, e]))
theorem blankRun_ok (m : Mach) : Does Try.prog 112 [.agg (maC m)] [] (.one (.gv 0)) [ruBx m 0 1 2, roI [], roI []] := by
  refine does_of (k := 0) Try.func112 rfl Try.ntmps112 rfl rfl fun w F0 S0 ρ0 => ?_
  dsimp only [argT, argH]
  repeat' first
    | refine g_seq ?_
    | refine g_skip ?_
    | refine g_exit ?_
    | refine g_block ?_
    | refine g_reg ?_
    | refine g_if_t rfl ?_
    | refine g_if_f rfl ?_
    | refine o_nil ?_
    | refine q_s ?_
    | refine q_se ?_
    | refine q_b ?_
    | refine q_be rfl ?_
    | refine q_bn rfl ?_
    | refine q_le ?_
    | refine q_ce ?_
    | (apply n3; exact a_new (gb := .bx _) rfl; exact rfl; (try dsimp only [List.map_cons, List.map_nil, scC, Nat.reduceAdd]))
    | (apply p3; (first | exact pu1 | exact puL); exact rfl)
    | (apply c4 3; exact callK0 (θ := []) (hD := (runnerOf_ok m ⟨0, [], []⟩ (by simp) (by simp))); exact rfl; exact rfl; exact rfl; (try dsimp only [SV.ren, C.ren, C.ren.all, tRen, GB.ren, calF, upOf, List.cons_append, List.nil_append, Nat.reduceAdd]))
    | (refine o_gs rfl rfl (fun hc => ?_) (fun hc => ?_) <;> (try simp only [decide_eq_true_eq, decide_eq_false_iff_not, Bool.not_eq_true', Bool.not_eq_false', Bool.not_eq_true, Bool.not_eq_false, Bool.and_eq_true, Bool.or_eq_false_iff, Bool.not_not] at hc) <;> (try (first | contradiction | (exfalso; omega))))
    | (refine g_cond rfl (fun hc => ?_) (fun hc => ?_) <;> (try simp only [decide_eq_true_eq, decide_eq_false_iff_not, Bool.not_eq_true', Bool.not_eq_false', Bool.not_eq_true, Bool.not_eq_false, Bool.and_eq_true, Bool.or_eq_false_iff, Bool.not_not] at hc) <;> (try (first | contradiction | (exfalso; omega))))
  repeat (first | refine g_ret ?_ | refine q_sr ?_ | refine q_br ?_ | refine q_lr ?_ | refine q_cr ?_)
  refine ends_id ?_
  refine endK [?_, ?_, ?_] (h2 := ?_) (h3 := ?_) (nd := ?_)
  rotate_left 3
  all_goals (repeat' first | with_reducible exact SVLe.refl | exact SVLe.any | exact SVLe.one (.sh rfl) | exact SVLe.one (.nil (by decide)) | refine SVLe.agg ?_ | refine SVLe.tup ?_ | exact TLe.nil | refine TLe.cons ?_ ?_ | exact CsLe.nil | refine CsLe.cons ?_ ?_ | exact CLe.refl | exact CLe.sh rfl | exact CLe.nil (by decide) | refine cle_i ?_ | refine cle_b ?_ | exact trivial | refine And.intro ?_ ?_ | exact Or.inl rfl | exact Or.inr rfl | refine Or.inr (row_eq ?_) | (refine Or.inr (bx_eq rfl rfl ?_); (try dsimp only [C.ren, C.ren.all]); (try exact rfl)) | exact SVLe.refl | refine sle_i ?_ | refine sle_b ?_)
  all_goals first | exact (show nodupB _ = true from rfl) | exact Or.inr rfl | (rfl)
theorem afterSteps_ok (m : Mach) (n : Int) (hm : vMach m = true) (hn : n ≤ 9223372036854775807) : Does Try.prog 74 [.agg (maC m), .one (int n)] [] (.tup [(false, [.gv 0]), (false, [boo (decide (runCode (runIt m n ⟨0, [], []⟩) = 0 ∧ runMade (runIt m n ⟨0, [], []⟩) = n))])]) [ruBx m (runIt m n ⟨0, [], []⟩).c.st 1 2, roI (runIt m n ⟨0, [], []⟩).c.le.reverse, roI (runIt m n ⟨0, [], []⟩).c.ri.reverse] := by
  have hv := vBlank hm
  refine does_of (k := 0) Try.func74 rfl Try.ntmps74 rfl rfl fun w F0 S0 ρ0 => ?_
  dsimp only [argT, argH]
  repeat' first
    | refine g_seq ?_
    | refine g_skip ?_
    | refine g_exit ?_
    | refine g_block ?_
    | refine g_reg ?_
    | refine g_if_t rfl ?_
    | refine g_if_f rfl ?_
    | refine o_nil ?_
    | refine q_s ?_
    | refine q_se ?_
    | refine q_b ?_
    | refine q_be rfl ?_
    | refine q_bn rfl ?_
    | refine q_le ?_
    | refine q_ce ?_
    | (apply n3; exact a_new (gb := .bx _) rfl; exact rfl; (try dsimp only [List.map_cons, List.map_nil, scC, Nat.reduceAdd]))
    | (apply p3; (first | exact pu1 | exact puL | exact puC | exact a_eqS rfl rfl rfl); exact rfl)
    | (apply c4 3; exact callK0 (θ := []) (hD := (blankRun_ok _)); exact rfl; exact rfl; exact rfl; (try dsimp only [SV.ren, C.ren, C.ren.all, tRen, GB.ren, calF, upOf, List.cons_append, List.nil_append, Nat.reduceAdd]))
    | (apply c4 2; exact callK0 (θ := [1, 2, 3]) (hD := (run_ok m ⟨0, [], []⟩ n hm hv hn)); exact rfl; exact rfl; exact rfl; (try dsimp only [SV.ren, C.ren, C.ren.all, tRen, GB.ren, calF, upOf, List.cons_append, List.nil_append, Nat.reduceAdd]))
    | refine o_no rfl rfl rfl rfl ?_
    | refine o_noN rfl rfl rfl ?_
    | (apply py3; exact rfl; exact rfl; (first | exact pu1 | exact puL | exact puC | exact a_eqS rfl rfl rfl); exact rfl; exact rfl)
    | (apply ny3; exact rfl; exact rfl; exact a_new (gb := .bx _) rfl; exact rfl; exact rfl)
    | (apply cy4 3; exact rfl; exact rfl; exact callK0 (θ := []) (hD := (blankRun_ok _)); exact rfl; exact rfl; exact rfl; exact rfl; (try dsimp only [SV.ren, C.ren, C.ren.all, tRen, GB.ren, calF, upOf, List.cons_append, List.nil_append, Nat.reduceAdd]))
    | (apply cy4 2; exact rfl; exact rfl; exact callK0 (θ := [1, 2, 3]) (hD := (run_ok m ⟨0, [], []⟩ n hm hv hn)); exact rfl; exact rfl; exact rfl; exact rfl; (try dsimp only [SV.ren, C.ren, C.ren.all, tRen, GB.ren, calF, upOf, List.cons_append, List.nil_append, Nat.reduceAdd]))
    | (refine o_gs rfl rfl (fun hc => ?_) (fun hc => ?_) <;> (try simp only [decide_eq_true_eq, decide_eq_false_iff_not, Bool.not_eq_true', Bool.not_eq_false', Bool.not_eq_true, Bool.not_eq_false, Bool.and_eq_true, Bool.or_eq_false_iff, Bool.not_not] at hc) <;> (try (first | contradiction | (exfalso; omega))))
    | (refine g_cond rfl (fun hc => ?_) (fun hc => ?_) <;> (try simp only [decide_eq_true_eq, decide_eq_false_iff_not, Bool.not_eq_true', Bool.not_eq_false', Bool.not_eq_true, Bool.not_eq_false, Bool.and_eq_true, Bool.or_eq_false_iff, Bool.not_not] at hc) <;> (try (first | contradiction | (exfalso; omega))))
  all_goals
    repeat (first | refine g_ret ?_ | refine q_sr ?_ | refine q_br ?_ | refine q_lr ?_ | refine q_cr ?_)
    refine ends_id ?_
    refine endK [?_, ?_, ?_] (h2 := ?_) (h3 := ?_) (nd := ?_)
    rotate_left 3
    all_goals (repeat' first | with_reducible exact SVLe.refl | exact SVLe.any | exact SVLe.one (.sh rfl) | exact SVLe.one (.nil (by decide)) | refine SVLe.agg ?_ | refine SVLe.tup ?_ | exact TLe.nil | refine TLe.cons ?_ ?_ | exact CsLe.nil | refine CsLe.cons ?_ ?_ | exact CLe.refl | exact CLe.sh rfl | exact CLe.nil (by decide) | refine cle_i ?_ | refine cle_b ?_ | exact trivial | refine And.intro ?_ ?_ | exact Or.inl rfl | exact Or.inr rfl | refine Or.inr (row_eq ?_) | (refine Or.inr (bx_eq rfl rfl ?_); (try dsimp only [C.ren, C.ren.all]); (try exact rfl)) | exact SVLe.refl | refine sle_i ?_ | refine sle_b ?_)
    all_goals first | exact (show nodupB _ = true from rfl) | exact Or.inr rfl | ((symm; simp [*]))
end Go.Proofs.Ytncccjpbaeaafaa
end
section
set_option linter.unusedVariables false
set_option linter.unusedSimpArgs false
set_option maxRecDepth 100000
set_option maxHeartbeats 4000000
namespace Go.Proofs.Ytncccjpbaeaafaa
open Go Foot
theorem goO_s (m : Mach) (k : Nat) (c : Conf) (a : Int) : goO m (k + 1) c a = if ruAt m c = noR then (c, 0, false) else if roomS (stepS (ruAt m c) c) then goO m k (stepS (ruAt m c) c) (a + (ruAt m c).m) else (c, 0, false) := rfl
theorem shO_s (m : Mach) (d : Int) (k : Nat) (c : Conf) (a b : Int) : shO m d (k + 1) c a b = if ruAt m c = noR then none else if roomS (stepS (ruAt m c) c) then shO m d k (stepS (ruAt m c) c) (a + (ruAt m c).m) (max b (if 0 < d then -(a + (ruAt m c).m) else a + (ruAt m c).m)) else none := rfl
/-- The positions of the head. -/
def posL (m : Mach) : Nat → Conf → Int → List Int
  | 0, c, a => [a]
  | k + 1, c, a => a :: posL m k (stepS (ruAt m c) c) (a + (ruAt m c).m)
theorem posL_s (m : Mach) (k : Nat) (c : Conf) (a : Int) : posL m (k + 1) c a = a :: posL m k (stepS (ruAt m c) c) (a + (ruAt m c).m) := rfl
section
variable {m : Mach}
theorem go_ok (hm : vMach m = true) : ∀ (k : Nat) (c : Conf) (a : Int), vConf m c = true → (goO m k c a).2.2 = true → vConf m (goO m k c a).1 = true ∧ (goO m k c a).2.1 ≤ a + k ∧ a - k ≤ (goO m k c a).2.1
  | 0, c, a, hc, _ => ⟨hc, by simp [goO], by simp [goO]⟩
  | k + 1, c, a, hc, h => by
    rw [goO_s] at h ⊢
    by_cases hr : ruAt m c = noR
    · rw [if_pos hr] at h; cases h
    · rw [if_neg hr] at h ⊢
      by_cases hf : roomS (stepS (ruAt m c) c) = true
      · rw [if_pos hf] at h ⊢
        have h1 := go_ok hm k _ _ (stepS_ok hm hc hr hf) h
        have h2 := (ruAt_ok hm hc hr).2.1
        exact ⟨h1.1, by omega, by omega⟩
      · rw [if_neg hf] at h; cases h
/-- Two walks one behind the other. -/
theorem go_add : ∀ (k j : Nat) (c : Conf) (a : Int), (goO m k c a).2.2 = true → goO m (k + j) c a = goO m j (goO m k c a).1 (goO m k c a).2.1
  | 0, j, c, a, _ => by simp [goO]
  | k + 1, j, c, a, h => by
    rw [show k + 1 + j = (k + j) + 1 by omega]
    rw [goO_s] at h
    rw [goO_s, goO_s]
    by_cases hr : ruAt m c = noR
    · rw [if_pos hr] at h; cases h
    · rw [if_neg hr] at h
      rw [if_neg hr, if_neg hr]
      by_cases hf : roomS (stepS (ruAt m c) c) = true
      · rw [if_pos hf] at h
        rw [if_pos hf, if_pos hf]
        exact go_add k j _ _ h
      · rw [if_neg hf] at h; cases h
/-- A run of a given length is a walk of that length. -/
theorem it_go : ∀ (k : Nat) (n : Int) (c : Conf) (x : Int × Bool) (a : Int), ((goO m k c a).2.2 = true → itSteps m bdRun k n c x = ⟨(n + k, x.2), none, (goO m k c a).1⟩) ∧ ((goO m k c a).2.2 = false → (itSteps m bdRun k n c x).j ≠ none ∨ (itSteps m bdRun k n c x).x.1 < n + k)
  | 0, n, c, x, a => by
    have e1 : bdRun x (c, n, true) = ((n, x.2), none) := by simp [bdRun]
    refine ⟨fun _ => ?_, fun h => by cases h⟩
    unfold itSteps
    rw [e1]
    simp only [Option.isSome_none, Bool.false_eq_true, if_false]
    split <;> simp [goO]
  | k + 1, n, c, x, a => by
    have e1 : bdRun x (c, n, true) = ((n, x.2), none) := by simp [bdRun]
    unfold itSteps
    rw [goO_s]
    rw [e1]
    simp only [Option.isSome_none, Bool.false_eq_true, if_false]
    by_cases hr : ruAt m c = noR
    · rw [if_pos hr, if_pos hr]
      exact ⟨fun h => (nomatch h), fun _ => .inr (by dsimp only; omega)⟩
    · rw [if_neg hr, if_neg hr]
      by_cases hf : roomS (stepS (ruAt m c) c) = true
      · rw [if_pos hf, if_pos hf]
        have := it_go k (n + 1) (stepS (ruAt m c) c) (n, x.2) (a + (ruAt m c).m)
        rw [show n + ((k + 1 : Nat) : Int) = n + 1 + k by omega]
        exact this
      · rw [if_neg hf, if_neg hf]
        exact ⟨fun h => (nomatch h), fun _ => .inl (by simp [bdRun])⟩
theorem after_go (n : Int) (hn : 0 ≤ n) (c : Conf) : decide (runCode (runIt m n c) = 0 ∧ runMade (runIt m n c) = n) = (goO m n.toNat c 0).2.2 ∧ ((goO m n.toNat c 0).2.2 = true → (runIt m n c).c = (goO m n.toNat c 0).1) := by
  obtain ⟨h1, h2⟩ := it_go (m := m) n.toNat 0 c (0, false) 0
  have e : itSteps m bdRun n.toNat 0 c (0, false) = runIt m n c := by unfold runIt; rfl
  rw [e] at h1 h2
  cases hg : (goO m n.toNat c 0).2.2 with
  | true =>
    have h3 := h1 hg
    refine ⟨?_, fun _ => by rw [h3]⟩
    rw [decide_eq_true_eq, h3]
    unfold runCode runMade
    exact ⟨rfl, by simp; omega⟩
  | false =>
    refine ⟨?_, fun h => by cases h⟩
    rw [decide_eq_false_iff_not]
    rintro ⟨h3, h4⟩
    unfold runCode at h3
    unfold runMade at h4
    split at h3
    · rename_i hj
      rw [if_pos hj] at h4
      rcases h2 hg with h5 | h5
      · exact h5 hj
      · omega
    · cases h3
theorem posL_len : ∀ (k : Nat) (c : Conf) (a : Int), (posL m k c a).length = k + 1
  | 0, c, a => rfl
  | k + 1, c, a => by simp [posL, posL_len k]
theorem posL_bd (hm : vMach m = true) : ∀ (k : Nat) (c : Conf) (a : Int), vConf m c = true → (goO m k c a).2.2 = true → ∀ p ∈ posL m k c a, p ≤ a + k ∧ a - k ≤ p
  | 0, c, a, hc, _, p, hp => by simp [posL] at hp; subst hp; simp
  | k + 1, c, a, hc, h, p, hp => by
    rw [goO_s] at h
    by_cases hr : ruAt m c = noR
    · rw [if_pos hr] at h; cases h
    · rw [if_neg hr] at h
      by_cases hf : roomS (stepS (ruAt m c) c) = true
      · rw [if_pos hf] at h
        rw [posL_s] at hp
        have h2 := (ruAt_ok hm hc hr).2.1
        rcases List.mem_cons.1 hp with rfl | hp
        · exact ⟨by omega, by omega⟩
        · have := posL_bd hm k _ _ (stepS_ok hm hc hr hf) h p hp
          exact ⟨by omega, by omega⟩
      · rw [if_neg hf] at h; cases h
theorem posL_last : ∀ (k : Nat) (c : Conf) (a : Int), (goO m k c a).2.2 = true → (posL m k c a)[k]? = some (goO m k c a).2.1
  | 0, c, a, _ => rfl
  | k + 1, c, a, h => by
    rw [goO_s] at h ⊢
    by_cases hr : ruAt m c = noR
    · rw [if_pos hr] at h; cases h
    · rw [if_neg hr] at h ⊢
      by_cases hf : roomS (stepS (ruAt m c) c) = true
      · rw [if_pos hf] at h ⊢
        rw [posL_s, List.getElem?_cons_succ]
        exact posL_last k _ _ h
      · rw [if_neg hf] at h; cases h
theorem posL_drop : ∀ (k j : Nat) (c : Conf) (a : Int), (goO m k c a).2.2 = true → (posL m (k + j) c a).drop k = posL m j (goO m k c a).1 (goO m k c a).2.1
  | 0, j, c, a, _ => by simp [goO]
  | k + 1, j, c, a, h => by
    rw [show k + 1 + j = (k + j) + 1 by omega]
    rw [goO_s] at h ⊢
    by_cases hr : ruAt m c = noR
    · rw [if_pos hr] at h; cases h
    · rw [if_neg hr] at h ⊢
      by_cases hf : roomS (stepS (ruAt m c) c) = true
      · rw [if_pos hf] at h ⊢
        rw [posL_s, List.drop_succ_cons]
        exact posL_drop k j _ _ h
      · rw [if_neg hf] at h; cases h
theorem posL_head : ∀ (k : Nat) (c : Conf) (a : Int), (posL m k c a).headD 0 = a
  | 0, c, a => rfl
  | k + 1, c, a => rfl
/-- The tracker has all positions of a walk. -/
theorem qk_pos : ∀ (k : Nat) (n : Int) (c : Conf) (hd : Int) (x : Qk), (goO m k c hd).2.2 = true → (runG m qkC qkS k n c hd x).full = false ∧ (runG m qkC qkS k n c hd x).x.pos = x.pos ++ posL m k c hd
  | 0, n, c, hd, x, _ => by
    unfold runG
    have := (qkC_len c hd x).1
    split <;> exact ⟨rfl, this⟩
  | k + 1, n, c, hd, x, h => by
    rw [goO_s] at h
    unfold runG
    by_cases hr : ruAt m c = noR
    · rw [if_pos hr] at h; cases h
    · rw [if_neg hr] at h ⊢
      by_cases hf : roomS (stepS (ruAt m c) c) = true
      · rw [if_pos hf] at h
        simp only [hf, if_true]
        have h1 := qk_pos k (n + 1) _ _ (qkC c hd x) h
        refine ⟨h1.1, ?_⟩
        rw [h1.2, (qkC_len c hd x).1]
        simp [posL]
      · rw [if_neg hf] at h; cases h
/-- How far behind, in the reference's words. -/
theorem sh_go (d : Int) : ∀ (k : Nat) (c : Conf) (p a b : Int), shO m d k c a b = if (goO m k c p).2.2 then some ((goO m k c p).1, a + ((goO m k c p).2.1 - p), (posL m k c p).tail.foldl (fun z q => max z (if 0 < d then -(a + (q - p)) else a + (q - p))) b) else none
  | 0, c, p, a, b => by simp [shO, goO, posL]
  | k + 1, c, p, a, b => by
    rw [shO_s, goO_s]
    by_cases hr : ruAt m c = noR
    · rw [if_pos hr, if_pos hr]; rfl
    · rw [if_neg hr, if_neg hr]
      by_cases hf : roomS (stepS (ruAt m c) c) = true
      · rw [if_pos hf, if_pos hf, sh_go d k _ (p + (ruAt m c).m)]
        split
        · congr 1
          congr 1
          congr 1
          · omega
          · have e : posL m k (stepS (ruAt m c) c) (p + (ruAt m c).m) = (p + (ruAt m c).m) :: (posL m k (stepS (ruAt m c) c) (p + (ruAt m c).m)).tail := by cases k <;> rfl
            rw [posL_s, List.tail_cons, e, List.foldl_cons, List.tail_cons]
            have e1 : (if 0 < d then -(a + (p + (ruAt m c).m - p)) else a + (p + (ruAt m c).m - p)) = (if 0 < d then -(a + (ruAt m c).m) else a + (ruAt m c).m) := by split <;> omega
            rw [e1]
            congr 1
            funext z q
            congr 1
            split <;> omega
        · rfl
      · rw [if_neg hf, if_neg hf]; rfl
end
theorem fold_min (pa : Int) : ∀ (l : List Int) (z : Int), l.foldl (fun z q => max z (-(q - pa))) (pa - z) = pa - l.foldl min z
  | [], z => rfl
  | q :: l, z => by
    rw [List.foldl_cons, List.foldl_cons, ← fold_min pa l]
    congr 1
    omega
theorem fold_max (pa : Int) : ∀ (l : List Int) (z : Int), l.foldl (fun z q => max z (q - pa)) (z - pa) = l.foldl max z - pa
  | [], z => rfl
  | q :: l, z => by
    rw [List.foldl_cons, List.foldl_cons, ← fold_max pa l]
    congr 1
    omega
theorem behind_fold (m : Mach) (d : Int) (k : Nat) (c : Conf) (p : Int) : (posL m k c p).tail.foldl (fun z q => max z (if 0 < d then -(0 + (q - p)) else 0 + (q - p))) 0 = behind (posL m k c p) d := by
  have e : posL m k c p = p :: (posL m k c p).tail := by cases k <;> rfl
  unfold behind minL maxL
  rw [posL_head]
  generalize hl : (posL m k c p).tail = l at *
  rw [e]
  simp only [List.foldl_cons]
  split
  · rename_i hd
    simp only [hd, if_true, Int.zero_add]
    have := fold_min p l p
    rw [Int.sub_self] at this
    rw [this, show min p p = p by omega]
  · rename_i hd
    simp only [hd, if_false, Int.zero_add]
    have := fold_max p l p
    rw [Int.sub_self] at this
    rw [this, show max p p = p by omega]
theorem foldl_bd (f : Int → Int → Int) (hf : ∀ x y, f x y = x ∨ f x y = y) (lo hi : Int) : ∀ (l : List Int) (z : Int), lo ≤ z → z ≤ hi → (∀ p ∈ l, lo ≤ p ∧ p ≤ hi) → lo ≤ l.foldl f z ∧ l.foldl f z ≤ hi
  | [], z, h1, h2, _ => ⟨h1, h2⟩
  | q :: l, z, h1, h2, h => by
    rw [List.foldl_cons]
    have hq := h q (by simp)
    refine foldl_bd f hf lo hi l _ ?_ ?_ fun p hp => h p (by simp [hp])
    · rcases hf z q with e | e <;> rw [e] <;> omega
    · rcases hf z q with e | e <;> rw [e] <;> omega
abbrev blank : Conf := ⟨0, [], []⟩
@[irreducible] def chS (m : Mach) (p : Prf) : Bool :=
  vMach m && formP p 3 3 && spanB (p.nu.getD 0 0) (p.nu.getD 1 0) && decide (p.nu.getD 2 0 ≠ 0) && (goO m (p.nu.getD 0 0).toNat blank 0).2.2 && shRes (goO m (p.nu.getD 0 0).toNat blank 0).1 (p.nu.getD 2 0) (shO m (p.nu.getD 2 0) (p.nu.getD 1 0).toNat (goO m (p.nu.getD 0 0).toNat blank 0).1 0 0)
theorem preB37 {p : Prop} (h : p := by first | with_reducible assumption | omega | (simp only [List.length_append, List.length_cons, List.length_nil, List.length_set, List.length_replicate, List.length_take, List.length_drop, List.length_tail, List.length_dropLast, List.length_reverse] at *; omega) | exact mem_len (by assumption) (by omega) | (with_reducible refine Int.le_trans (Int.ofNat_le.2 (trimR_len _)) ?_; simp only [List.length_cons, List.length_tail]; omega) | (exact (ruAt_ok (by assumption) (by assumption) (by assumption)).2.1) | (exact (ruAt_ok (by assumption) (by assumption) (by assumption)).2.1) | (have := vMach_bd (by assumption); omega) | (simp only [mC_ch, mC_tu]; omega) | (with_reducible refine Int.le_trans (Int.ofNat_le.2 (pushL_len _ _)) ?_; simp only [List.length_dropLast]; omega) | exact (ask_ok (by assumption)).1 | exact (ask_ok (by assumption)).2.1 | exact (ask_ok (by assumption)).2.2.1 | exact (ask_ok (by assumption)).2.2.2 | trivial) : p := h
theorem sCheckShift_ok (m : Mach) (p : Prf) (hm : (m.ru.length : Int) ≤ 16777216) (hx : (p.nu.length : Int) ≤ 16777216) (hy : (p.wo.length : Int) ≤ 16777216) (hys : ∀ x ∈ p.wo, (x.length : Int) ≤ 16777216) : Does Try.prog 37 [.agg (maC m), .agg (prC p)] [] (.one (boo (chS m p))) [] := by
  have e0 : ∀ h, p.nu[Int.toNat 0]'h = p.nu.getD 0 0 := fun h => get_getD p.nu 0 _ h
  have e1 : ∀ h, p.nu[Int.toNat 1]'h = p.nu.getD 1 0 := fun h => get_getD p.nu 0 _ h
  have e2 : ∀ h, p.nu[Int.toNat 2]'h = p.nu.getD 2 0 := fun h => get_getD p.nu 0 _ h
  have hcs : vMach m = false → chS m p = false := fun h => by unfold chS; rw [h]; rfl
  have hcs2 : formP p 3 3 = false → chS m p = false := fun h => by unfold chS; rw [h]; simp
  by_cases hf : formP p 3 3 = true
  · have hn := (formP_bd hf).2.2.1
    have hf2 : ¬ formP p 3 3 = false := by simp [hf]
    by_cases hv : vMach m = true
    · have hvb := vBlank hv
      refine does_of (k := 0) Try.func37 rfl Try.ntmps37 rfl rfl fun w F0 S0 ρ0 => ?_
      dsimp only [argT, argH]
      repeat' first
        | refine g_seq ?_
        | refine g_skip ?_
        | refine g_exit ?_
        | refine g_block ?_
        | refine g_reg (id := 0) ?_
        | refine g_reg (id := 1) ?_
        | refine g_reg (id := 2) ?_
        | refine g_if_t rfl ?_
        | refine g_if_f rfl ?_
        | refine o_nil ?_
        | refine q_s ?_
        | refine q_se ?_
        | refine q_b ?_
        | refine q_be rfl ?_
        | refine q_bn rfl ?_
        | refine q_le ?_
        | refine q_ce ?_
        | (apply n3; exact a_new (gb := .bx _) rfl; exact rfl; (try dsimp only [List.map_cons, List.map_nil, scC, Nat.reduceAdd]))
        | (apply p3; (first | exact pu1 | exact puL | exact puC | exact a_eqS rfl rfl rfl | exact puI); exact rfl)
        | (apply c4 0; exact callK1 (θ := []) (hD := (l05Is_ok _ preB37)); exact rfl; exact rfl; exact rfl; (try dsimp only [SV.ren, C.ren, C.ren.all, tRen, GB.ren, calF, upOf, List.cons_append, List.nil_append, Nat.reduceAdd]))
        | (apply c4 0; exact callK1 (θ := []) (hD := (l25Form_ok _ _ _ preB37 preB37 preB37)); exact rfl; exact rfl; exact rfl; (try dsimp only [SV.ren, C.ren, C.ren.all, tRen, GB.ren, calF, upOf, List.cons_append, List.nil_append, Nat.reduceAdd]))
        | (apply c4 0; exact callK1 (θ := []) (hD := (l25Spans_ok _ preB37)); exact rfl; exact rfl; exact rfl; (try dsimp only [SV.ren, C.ren, C.ren.all, tRen, GB.ren, calF, upOf, List.cons_append, List.nil_append, Nat.reduceAdd]))
        | refine o_no rfl rfl rfl rfl ?_
        | refine o_noN rfl rfl rfl ?_
        | (apply py3; exact rfl; exact rfl; (first | exact pu1 | exact puL | exact puC | exact a_eqS rfl rfl rfl | exact puI); exact rfl; exact rfl)
        | (apply ny3; exact rfl; exact rfl; exact a_new (gb := .bx _) rfl; exact rfl; exact rfl)
        | (apply cy4 0; exact rfl; exact rfl; exact callK1 (θ := []) (hD := (l05Is_ok _ preB37)); exact rfl; exact rfl; exact rfl; exact rfl; (try dsimp only [SV.ren, C.ren, C.ren.all, tRen, GB.ren, calF, upOf, List.cons_append, List.nil_append, Nat.reduceAdd]))
        | (apply cy4 0; exact rfl; exact rfl; exact callK1 (θ := []) (hD := (l25Form_ok _ _ _ preB37 preB37 preB37)); exact rfl; exact rfl; exact rfl; exact rfl; (try dsimp only [SV.ren, C.ren, C.ren.all, tRen, GB.ren, calF, upOf, List.cons_append, List.nil_append, Nat.reduceAdd]))
        | (apply cy4 0; exact rfl; exact rfl; exact callK1 (θ := []) (hD := (l25Spans_ok _ preB37)); exact rfl; exact rfl; exact rfl; exact rfl; (try dsimp only [SV.ren, C.ren, C.ren.all, tRen, GB.ren, calF, upOf, List.cons_append, List.nil_append, Nat.reduceAdd]))
        | (refine o_gs rfl rfl (fun hc => ?_) (fun hc => ?_) <;> (try simp only [decide_eq_true_eq, decide_eq_false_iff_not, Bool.not_eq_true', Bool.not_eq_false', Bool.not_eq_true, Bool.not_eq_false, Bool.and_eq_true, Bool.or_eq_false_iff, Bool.not_not] at hc) <;> (try (first | contradiction | (exfalso; omega))))
        | (refine g_cond rfl (fun hc => ?_) (fun hc => ?_) <;> (try simp only [decide_eq_true_eq, decide_eq_false_iff_not, Bool.not_eq_true', Bool.not_eq_false', Bool.not_eq_true, Bool.not_eq_false, Bool.and_eq_true, Bool.or_eq_false_iff, Bool.not_not] at hc) <;> (try (first | contradiction | (exfalso; omega))))
      · repeat (first | refine g_ret ?_ | refine q_sr ?_ | refine q_br ?_ | refine q_lr ?_ | refine q_cr ?_)
        refine ends_id ?_
        refine endK [] (h2 := ?_) (h3 := ?_) (nd := ?_)
        all_goals (repeat' first | with_reducible exact SVLe.refl | exact SVLe.any | exact SVLe.one (.sh rfl) | exact SVLe.one (.nil (by decide)) | refine SVLe.agg ?_ | refine SVLe.tup ?_ | exact TLe.nil | refine TLe.cons ?_ ?_ | exact CsLe.nil | refine CsLe.cons ?_ ?_ | exact CLe.refl | exact CLe.sh rfl | exact CLe.nil (by decide) | refine cle_i ?_ | refine cle_b ?_ | exact trivial | refine And.intro ?_ ?_ | exact Or.inl rfl | exact Or.inr rfl | refine Or.inr (row_eq ?_) | (refine Or.inr (bx_eq rfl rfl ?_); (try dsimp only [C.ren, C.ren.all]); (try exact rfl)) | exact SVLe.refl | refine sle_i ?_ | refine sle_b ?_)
        all_goals first | exact (show nodupB _ = true from rfl) | exact Or.inr rfl | ((exact (hcs (by assumption)).symm))
      · repeat (first | refine g_ret ?_ | refine q_sr ?_ | refine q_br ?_ | refine q_lr ?_ | refine q_cr ?_)
        refine ends_id ?_
        refine endK [] (h2 := ?_) (h3 := ?_) (nd := ?_)
        all_goals (repeat' first | with_reducible exact SVLe.refl | exact SVLe.any | exact SVLe.one (.sh rfl) | exact SVLe.one (.nil (by decide)) | refine SVLe.agg ?_ | refine SVLe.tup ?_ | exact TLe.nil | refine TLe.cons ?_ ?_ | exact CsLe.nil | refine CsLe.cons ?_ ?_ | exact CLe.refl | exact CLe.sh rfl | exact CLe.nil (by decide) | refine cle_i ?_ | refine cle_b ?_ | exact trivial | refine And.intro ?_ ?_ | exact Or.inl rfl | exact Or.inr rfl | refine Or.inr (row_eq ?_) | (refine Or.inr (bx_eq rfl rfl ?_); (try dsimp only [C.ren, C.ren.all]); (try exact rfl)) | exact SVLe.refl | refine sle_i ?_ | refine sle_b ?_)
        all_goals first | exact (show nodupB _ = true from rfl) | exact Or.inr rfl | ((symm; unfold chS; rw [show spanB (p.nu.getD 0 0) (p.nu.getD 1 0) = false from decide_eq_false (by assumption)]; simp))
      · simp only [e2] at hc
        repeat (first | refine g_ret ?_ | refine q_sr ?_ | refine q_br ?_ | refine q_lr ?_ | refine q_cr ?_)
        refine ends_id ?_
        refine endK [] (h2 := ?_) (h3 := ?_) (nd := ?_)
        all_goals (repeat' first | with_reducible exact SVLe.refl | exact SVLe.any | exact SVLe.one (.sh rfl) | exact SVLe.one (.nil (by decide)) | refine SVLe.agg ?_ | refine SVLe.tup ?_ | exact TLe.nil | refine TLe.cons ?_ ?_ | exact CsLe.nil | refine CsLe.cons ?_ ?_ | exact CLe.refl | exact CLe.sh rfl | exact CLe.nil (by decide) | refine cle_i ?_ | refine cle_b ?_ | exact trivial | refine And.intro ?_ ?_ | exact Or.inl rfl | exact Or.inr rfl | refine Or.inr (row_eq ?_) | (refine Or.inr (bx_eq rfl rfl ?_); (try dsimp only [C.ren, C.ren.all]); (try exact rfl)) | exact SVLe.refl | refine sle_i ?_ | refine sle_b ?_)
        all_goals first | exact (show nodupB _ = true from rfl) | exact Or.inr rfl | ((symm; unfold chS; rw [hc]; simp))
      · simp only [e2] at hc
        have hsp : (0 ≤ p.nu.getD 0 0 ∧ p.nu.getD 0 0 ≤ 20000) ∧ 1 ≤ p.nu.getD 1 0 ∧ p.nu.getD 1 0 ≤ 20000 - p.nu.getD 0 0 := by assumption
        have hl0 : Int.toNat 0 < p.nu.length := by simp; omega
        have g0 : p.nu[Int.toNat 0]'hl0 ≤ 1000000 := by rw [e0]; omega
        have hl1 : Int.toNat 1 < p.nu.length := by simp; omega
        have g1 : p.nu[Int.toNat 1]'hl1 ≤ 1000000 := by rw [e1]; omega
        repeat' first
          | refine g_seq ?_
          | refine g_skip ?_
          | refine g_exit ?_
          | refine g_block ?_
          | refine g_reg (id := 0) ?_
          | refine g_reg (id := 1) ?_
          | refine g_reg (id := 2) ?_
          | refine g_if_t rfl ?_
          | refine g_if_f rfl ?_
          | refine o_nil ?_
          | refine q_s ?_
          | refine q_se ?_
          | refine q_b ?_
          | refine q_be rfl ?_
          | refine q_bn rfl ?_
          | refine q_le ?_
          | refine q_ce ?_
          | (apply n3; exact a_new (gb := .bx _) rfl; exact rfl; (try dsimp only [List.map_cons, List.map_nil, scC, Nat.reduceAdd]))
          | (apply p3; (first | exact pu1 | exact puL | exact puC | exact a_eqS rfl rfl rfl | exact puI); exact rfl)
          | (apply c4 0; exact callK1 (θ := []) (hD := (l05Is_ok _ preB37)); exact rfl; exact rfl; exact rfl; (try dsimp only [SV.ren, C.ren, C.ren.all, tRen, GB.ren, calF, upOf, List.cons_append, List.nil_append, Nat.reduceAdd]))
          | (apply c4 0; exact callK1 (θ := []) (hD := (l25Form_ok _ _ _ preB37 preB37 preB37)); exact rfl; exact rfl; exact rfl; (try dsimp only [SV.ren, C.ren, C.ren.all, tRen, GB.ren, calF, upOf, List.cons_append, List.nil_append, Nat.reduceAdd]))
          | (apply c4 0; exact callK1 (θ := []) (hD := (l25Spans_ok _ preB37)); exact rfl; exact rfl; exact rfl; (try dsimp only [SV.ren, C.ren, C.ren.all, tRen, GB.ren, calF, upOf, List.cons_append, List.nil_append, Nat.reduceAdd]))
          | refine o_no rfl rfl rfl rfl ?_
          | refine o_noN rfl rfl rfl ?_
          | (apply py3; exact rfl; exact rfl; (first | exact pu1 | exact puL | exact puC | exact a_eqS rfl rfl rfl | exact puI); exact rfl; exact rfl)
          | (apply ny3; exact rfl; exact rfl; exact a_new (gb := .bx _) rfl; exact rfl; exact rfl)
          | (apply cy4 0; exact rfl; exact rfl; exact callK1 (θ := []) (hD := (l05Is_ok _ preB37)); exact rfl; exact rfl; exact rfl; exact rfl; (try dsimp only [SV.ren, C.ren, C.ren.all, tRen, GB.ren, calF, upOf, List.cons_append, List.nil_append, Nat.reduceAdd]))
          | (apply cy4 0; exact rfl; exact rfl; exact callK1 (θ := []) (hD := (l25Form_ok _ _ _ preB37 preB37 preB37)); exact rfl; exact rfl; exact rfl; exact rfl; (try dsimp only [SV.ren, C.ren, C.ren.all, tRen, GB.ren, calF, upOf, List.cons_append, List.nil_append, Nat.reduceAdd]))
          | (apply cy4 0; exact rfl; exact rfl; exact callK1 (θ := []) (hD := (l25Spans_ok _ preB37)); exact rfl; exact rfl; exact rfl; exact rfl; (try dsimp only [SV.ren, C.ren, C.ren.all, tRen, GB.ren, calF, upOf, List.cons_append, List.nil_append, Nat.reduceAdd]))
          | (apply g_drN (id := 3) okM [[], [], [1], [1, 2], [1, 2, 3], [0, 1, 2, 3, 4], [0, 1, 2, 3, 4, 5], [0, 1, 2, 3, 4, 5, 6], [0, 1, 2, 3, 4, 5, 6], [0, 1, 2, 3, 4, 5, 6], [], [0, 1, 2, 3, 4, 5, 6, 7, 10], [0, 1, 2, 3, 4, 5, 6, 7, 8, 10, 11], [0, 1, 2, 3, 4, 5, 6, 7, 8, 9, 10, 11, 12]] [([0, 1], []), ([], []), ([], []), ([], []), ([], []), ([2, 3], []), ([], []), ([], []), ([], []), ([], []), ([4], []), ([], [6]), ([], []), ([], [])] 5; (focus (all_goals refine duN 0 0 [27, 28, 29, 30, 5] [(true, 4)] (callD1 (n := _) 0 (θ := []) (hD := l25Blank_ok)) (by exact rfl) (by exact rfl) ?_; all_goals refine dp 1 0 [26, 5] [(true, 0), (true, 1), (true, 4)] (a_pure (sv := .one _) rfl) ?_; all_goals refine dp 2 1 [26, 5] [(true, 0), (true, 1), (true, 4)] puL ?_; all_goals refine dp 3 3 [26, 5] [(true, 0), (true, 1), (true, 4)] puI ?_; all_goals refine dp 4 7 [26, 5] [(true, 0), (true, 1), (true, 4)] puL ?_; all_goals refine duN 5 31 [5] [(true, 4)] (callD1 (n := _) 2 (θ := []) (hD := (l25After_ok m blank _ hv hvb preB37 _ rfl))) (by exact rfl) (by exact rfl) ?_; all_goals refine dp 6 63 [5] [(true, 4)] pu1 ?_; all_goals refine dp 7 127 [33, 34, 5] [(true, 4)] pu2 ?_; all_goals refine dp 8 254 [32, 34, 5] [(true, 4), (false, 6)] pu2 ?_; all_goals refine dp 9 508 [32, 33, 5, 6] [(true, 4), (false, 6)] pu2 ?_; all_goals refine duE 10 0 [26, 27, 28, 29, 30, 31, 25, 32, 33, 34] [(true, 0), (true, 1), (true, 2), (true, 3)] (atN 4 (fun _ => a_new (gb := .bx _) rfl)) (by exact rfl) (by exact rfl) ?_; all_goals refine duE 11 2041 [33, 34] [] (a_st_bx rfl rfl rfl rfl (fN rfl rfl) (Nat.le_of_ble_eq_true rfl) rfl) (by exact rfl) (by exact rfl) ?_; all_goals refine dp 12 4091 [34] [] pu1 ?_; all_goals refine dp 13 8191 [] [] pu1 ?_; all_goals (refine d_nil ?_; dsimp only [selT, selH, trues, SV.ren, C.ren, C.ren.all, tRen, GB.ren, calF, upOf, List.cons_append, List.nil_append, Nat.reduceAdd, setRow, List.map_cons, List.map_nil, scC, List.set_cons_zero, List.set_cons_succ, List.take_succ_cons, List.take_zero, List.drop_succ_cons, List.drop_zero]))); any_goals kernel_rfl)
          | (refine o_gs rfl rfl (fun hc => ?_) (fun hc => ?_) <;> (try simp only [decide_eq_true_eq, decide_eq_false_iff_not, Bool.not_eq_true', Bool.not_eq_false', Bool.not_eq_true, Bool.not_eq_false, Bool.and_eq_true, Bool.or_eq_false_iff, Bool.not_not] at hc) <;> (try (first | contradiction | (exfalso; omega))))
          | (refine g_cond rfl (fun hc => ?_) (fun hc => ?_) <;> (try simp only [decide_eq_true_eq, decide_eq_false_iff_not, Bool.not_eq_true', Bool.not_eq_false', Bool.not_eq_true, Bool.not_eq_false, Bool.and_eq_true, Bool.or_eq_false_iff, Bool.not_not] at hc) <;> (try (first | contradiction | (exfalso; omega))))
        simp only [e0]
        generalize hO : goO m (p.nu.getD 0 0).toNat blank 0 = O
        obtain ⟨c1, a1, ok⟩ := O
        dsimp only
        cases ok
        · repeat' first
            | refine g_seq ?_
            | refine g_skip ?_
            | refine g_exit ?_
            | refine g_block ?_
            | refine g_reg ?_
            | refine g_if_t rfl ?_
            | refine g_if_f rfl ?_
            | refine o_nil ?_
            | refine q_s ?_
            | refine q_se ?_
            | refine q_b ?_
            | refine q_be rfl ?_
            | refine q_bn rfl ?_
            | refine q_le ?_
            | refine q_ce ?_
            | (apply n3; exact a_new (gb := .bx _) rfl; exact rfl; (try dsimp only [List.map_cons, List.map_nil, scC, Nat.reduceAdd]))
            | (apply p3; (first | exact pu1 | exact puL | exact puC | exact a_eqS rfl rfl rfl | exact puI); exact rfl)
            | (apply c4 0; exact callK1 (θ := []) (hD := (l05Is_ok _ preB37)); exact rfl; exact rfl; exact rfl; (try dsimp only [SV.ren, C.ren, C.ren.all, tRen, GB.ren, calF, upOf, List.cons_append, List.nil_append, Nat.reduceAdd]))
            | (apply c4 0; exact callK1 (θ := []) (hD := (l25Form_ok _ _ _ preB37 preB37 preB37)); exact rfl; exact rfl; exact rfl; (try dsimp only [SV.ren, C.ren, C.ren.all, tRen, GB.ren, calF, upOf, List.cons_append, List.nil_append, Nat.reduceAdd]))
            | (apply c4 0; exact callK1 (θ := []) (hD := (l25Spans_ok _ preB37)); exact rfl; exact rfl; exact rfl; (try dsimp only [SV.ren, C.ren, C.ren.all, tRen, GB.ren, calF, upOf, List.cons_append, List.nil_append, Nat.reduceAdd]))
            | refine o_no rfl rfl rfl rfl ?_
            | refine o_noN rfl rfl rfl ?_
            | (apply py3; exact rfl; exact rfl; (first | exact pu1 | exact puL | exact puC | exact a_eqS rfl rfl rfl | exact puI); exact rfl; exact rfl)
            | (apply ny3; exact rfl; exact rfl; exact a_new (gb := .bx _) rfl; exact rfl; exact rfl)
            | (apply cy4 0; exact rfl; exact rfl; exact callK1 (θ := []) (hD := (l05Is_ok _ preB37)); exact rfl; exact rfl; exact rfl; exact rfl; (try dsimp only [SV.ren, C.ren, C.ren.all, tRen, GB.ren, calF, upOf, List.cons_append, List.nil_append, Nat.reduceAdd]))
            | (apply cy4 0; exact rfl; exact rfl; exact callK1 (θ := []) (hD := (l25Form_ok _ _ _ preB37 preB37 preB37)); exact rfl; exact rfl; exact rfl; exact rfl; (try dsimp only [SV.ren, C.ren, C.ren.all, tRen, GB.ren, calF, upOf, List.cons_append, List.nil_append, Nat.reduceAdd]))
            | (apply cy4 0; exact rfl; exact rfl; exact callK1 (θ := []) (hD := (l25Spans_ok _ preB37)); exact rfl; exact rfl; exact rfl; exact rfl; (try dsimp only [SV.ren, C.ren, C.ren.all, tRen, GB.ren, calF, upOf, List.cons_append, List.nil_append, Nat.reduceAdd]))
            | (apply g_drN (id := 3) okM [[], [], [1], [1, 2], [1, 2, 3], [0, 1, 2, 3, 4], [0, 1, 2, 3, 4, 5], [0, 1, 2, 3, 4, 5, 6], [0, 1, 2, 3, 4, 5, 6], [0, 1, 2, 3, 4, 5, 6], [], [0, 1, 2, 3, 4, 5, 6, 7, 10], [0, 1, 2, 3, 4, 5, 6, 7, 8, 10, 11], [0, 1, 2, 3, 4, 5, 6, 7, 8, 9, 10, 11, 12]] [([0, 1], []), ([], []), ([], []), ([], []), ([], []), ([2, 3], []), ([], []), ([], []), ([], []), ([], []), ([4], []), ([], [6]), ([], []), ([], [])] 5; (focus (all_goals refine duN 0 0 [27, 28, 29, 30, 5] [(true, 4)] (callD1 (n := _) 0 (θ := []) (hD := l25Blank_ok)) (by exact rfl) (by exact rfl) ?_; all_goals refine dp 1 0 [26, 5] [(true, 0), (true, 1), (true, 4)] (a_pure (sv := .one _) rfl) ?_; all_goals refine dp 2 1 [26, 5] [(true, 0), (true, 1), (true, 4)] puL ?_; all_goals refine dp 3 3 [26, 5] [(true, 0), (true, 1), (true, 4)] puI ?_; all_goals refine dp 4 7 [26, 5] [(true, 0), (true, 1), (true, 4)] puL ?_; all_goals refine duN 5 31 [5] [(true, 4)] (callD1 (n := _) 2 (θ := []) (hD := (l25After_ok m blank _ hv hvb preB37 _ rfl))) (by exact rfl) (by exact rfl) ?_; all_goals refine dp 6 63 [5] [(true, 4)] pu1 ?_; all_goals refine dp 7 127 [33, 34, 5] [(true, 4)] pu2 ?_; all_goals refine dp 8 254 [32, 34, 5] [(true, 4), (false, 6)] pu2 ?_; all_goals refine dp 9 508 [32, 33, 5, 6] [(true, 4), (false, 6)] pu2 ?_; all_goals refine duE 10 0 [26, 27, 28, 29, 30, 31, 25, 32, 33, 34] [(true, 0), (true, 1), (true, 2), (true, 3)] (atN 4 (fun _ => a_new (gb := .bx _) rfl)) (by exact rfl) (by exact rfl) ?_; all_goals refine duE 11 2041 [33, 34] [] (a_st_bx rfl rfl rfl rfl (fN rfl rfl) (Nat.le_of_ble_eq_true rfl) rfl) (by exact rfl) (by exact rfl) ?_; all_goals refine dp 12 4091 [34] [] pu1 ?_; all_goals refine dp 13 8191 [] [] pu1 ?_; all_goals (refine d_nil ?_; dsimp only [selT, selH, trues, SV.ren, C.ren, C.ren.all, tRen, GB.ren, calF, upOf, List.cons_append, List.nil_append, Nat.reduceAdd, setRow, List.map_cons, List.map_nil, scC, List.set_cons_zero, List.set_cons_succ, List.take_succ_cons, List.take_zero, List.drop_succ_cons, List.drop_zero]))); any_goals kernel_rfl)
            | (apply g_drN (id := 4) okM [[], [0], [0, 1], [0, 1], [0, 1, 3], [0, 1, 3, 4], [0, 1, 3, 4, 5], [0, 1], [0, 1, 7], [0, 1, 7, 8], [0, 1, 7, 8, 9], [0, 1, 2, 3, 4, 5, 6, 7, 8, 9, 10], [0, 1, 2, 3, 4, 5, 6, 7, 8, 9, 10, 11], [0, 1, 2, 3, 4, 5, 6, 7, 8, 9, 10, 11, 12]] [([], []), ([], []), ([], []), ([], []), ([], []), ([], []), ([], []), ([], []), ([], []), ([], []), ([], []), ([], []), ([], []), ([], [])] 0; (focus (all_goals refine dp 0 0 [] [] pu1 ?_; all_goals (refine db 1 1 [] [] pu1 ?_ ?_ <;> (intro hc; first | cases hc | (try simp only [decide_eq_true_eq, decide_eq_false_iff_not, Bool.not_eq_true', Bool.not_eq_false', Bool.not_eq_true, Bool.not_eq_false, Bool.and_eq_true, Bool.or_eq_false_iff, Bool.not_not] at hc); first | contradiction | (exfalso; omega) | skip)); all_goals (first | refine dn 2 3 [38, 39, 40, 41, 42, 43, 44, 45] [] ?_ | refine dpy 2 3 [38, 39, 40, 41, 42, 43, 44, 45] [] puL ?_); all_goals (first | refine dn 3 6 [37, 42, 43, 44, 45] [] ?_ | refine dpy 3 6 [37, 42, 43, 44, 45] [] (a_pure (sv := .one _) rfl) ?_); all_goals (first | refine dn 4 13 [37, 42, 43, 44, 45] [] ?_ | refine dpy 4 13 [37, 42, 43, 44, 45] [] puL ?_); all_goals (first | refine dn 5 27 [37, 42, 43, 44, 45] [] ?_ | refine dpy 5 27 [37, 42, 43, 44, 45] [] puI ?_); all_goals (first | refine dn 6 55 [37, 42, 43, 44, 45] [] ?_ | refine dpy 6 55 [37, 42, 43, 44, 45] [] puL ?_); all_goals (first | refine dn 7 96 [37, 38, 39, 40, 41] [] ?_ | refine dpy 7 96 [37, 38, 39, 40, 41] [] (a_pure (sv := .one _) rfl) ?_); all_goals (first | refine dn 8 193 [37, 38, 39, 40, 41] [] ?_ | refine dpy 8 193 [37, 38, 39, 40, 41] [] puL ?_); all_goals (first | refine dn 9 387 [37, 38, 39, 40, 41] [] ?_ | refine dpy 9 387 [37, 38, 39, 40, 41] [] puI ?_); all_goals (first | refine dn 10 775 [37, 38, 39, 40, 41] [] ?_ | refine dpy 10 775 [37, 38, 39, 40, 41] [] puL ?_); all_goals (first | refine dn 11 2047 [] [] ?_ | refine dpy 11 2047 [] [] (callD1 (n := _) 0 (θ := []) (hD := (l25Shift_ok m c1 _ _ hv hgo.1 preB37 _ rfl))) ?_); all_goals refine dp 12 4095 [] [] (a_pure (sv := .one _) rfl) ?_; all_goals refine dp 13 8191 [] [] pu1 ?_; all_goals (refine d_nil ?_; dsimp only [selT, selH, trues, SV.ren, C.ren, C.ren.all, tRen, GB.ren, calF, upOf, List.cons_append, List.nil_append, Nat.reduceAdd, setRow, List.map_cons, List.map_nil, scC, List.set_cons_zero, List.set_cons_succ, List.take_succ_cons, List.take_zero, List.drop_succ_cons, List.drop_zero]))); any_goals kernel_rfl)
            | (refine o_gs rfl rfl (fun hc => ?_) (fun hc => ?_) <;> (try simp only [decide_eq_true_eq, decide_eq_false_iff_not, Bool.not_eq_true', Bool.not_eq_false', Bool.not_eq_true, Bool.not_eq_false, Bool.and_eq_true, Bool.or_eq_false_iff, Bool.not_not] at hc) <;> (try (first | contradiction | (exfalso; omega))))
            | (refine g_cond rfl (fun hc => ?_) (fun hc => ?_) <;> (try simp only [decide_eq_true_eq, decide_eq_false_iff_not, Bool.not_eq_true', Bool.not_eq_false', Bool.not_eq_true, Bool.not_eq_false, Bool.and_eq_true, Bool.or_eq_false_iff, Bool.not_not] at hc) <;> (try (first | contradiction | (exfalso; omega))))
          repeat (first | refine g_ret ?_ | refine q_sr ?_ | refine q_br ?_ | refine q_lr ?_ | refine q_cr ?_)
          refine ends_id ?_
          refine endK [] (h2 := ?_) (h3 := ?_) (nd := ?_)
          all_goals (repeat' first | with_reducible exact SVLe.refl | exact SVLe.any | exact SVLe.one (.sh rfl) | exact SVLe.one (.nil (by decide)) | refine SVLe.agg ?_ | refine SVLe.tup ?_ | exact TLe.nil | refine TLe.cons ?_ ?_ | exact CsLe.nil | refine CsLe.cons ?_ ?_ | exact CLe.refl | exact CLe.sh rfl | exact CLe.nil (by decide) | refine cle_i ?_ | refine cle_b ?_ | exact trivial | refine And.intro ?_ ?_ | exact Or.inl rfl | exact Or.inr rfl | refine Or.inr (row_eq ?_) | (refine Or.inr (bx_eq rfl rfl ?_); (try dsimp only [C.ren, C.ren.all]); (try exact rfl)) | exact SVLe.refl | refine sle_i ?_ | refine sle_b ?_)
          all_goals first | exact (show nodupB _ = true from rfl) | exact Or.inr rfl | ((symm; unfold chS; rw [hO]; simp))
        · have hgo := go_ok hv (p.nu.getD 0 0).toNat blank 0 hvb (by rw [hO])
          rw [hO] at hgo
          dsimp only at hgo
          have hbd := at_bd hv hgo.1
          repeat' first
            | refine g_seq ?_
            | refine g_skip ?_
            | refine g_exit ?_
            | refine g_block ?_
            | refine g_reg ?_
            | refine g_if_t rfl ?_
            | refine g_if_f rfl ?_
            | refine o_nil ?_
            | refine q_s ?_
            | refine q_se ?_
            | refine q_b ?_
            | refine q_be rfl ?_
            | refine q_bn rfl ?_
            | refine q_le ?_
            | refine q_ce ?_
            | (apply n3; exact a_new (gb := .bx _) rfl; exact rfl; (try dsimp only [List.map_cons, List.map_nil, scC, Nat.reduceAdd]))
            | (apply p3; (first | exact pu1 | exact puL | exact puC | exact a_eqS rfl rfl rfl | exact puI); exact rfl)
            | (apply c4 0; exact callK1 (θ := []) (hD := (l05Is_ok _ preB37)); exact rfl; exact rfl; exact rfl; (try dsimp only [SV.ren, C.ren, C.ren.all, tRen, GB.ren, calF, upOf, List.cons_append, List.nil_append, Nat.reduceAdd]))
            | (apply c4 0; exact callK1 (θ := []) (hD := (l25Form_ok _ _ _ preB37 preB37 preB37)); exact rfl; exact rfl; exact rfl; (try dsimp only [SV.ren, C.ren, C.ren.all, tRen, GB.ren, calF, upOf, List.cons_append, List.nil_append, Nat.reduceAdd]))
            | (apply c4 0; exact callK1 (θ := []) (hD := (l25Spans_ok _ preB37)); exact rfl; exact rfl; exact rfl; (try dsimp only [SV.ren, C.ren, C.ren.all, tRen, GB.ren, calF, upOf, List.cons_append, List.nil_append, Nat.reduceAdd]))
            | refine o_no rfl rfl rfl rfl ?_
            | refine o_noN rfl rfl rfl ?_
            | (apply py3; exact rfl; exact rfl; (first | exact pu1 | exact puL | exact puC | exact a_eqS rfl rfl rfl | exact puI); exact rfl; exact rfl)
            | (apply ny3; exact rfl; exact rfl; exact a_new (gb := .bx _) rfl; exact rfl; exact rfl)
            | (apply cy4 0; exact rfl; exact rfl; exact callK1 (θ := []) (hD := (l05Is_ok _ preB37)); exact rfl; exact rfl; exact rfl; exact rfl; (try dsimp only [SV.ren, C.ren, C.ren.all, tRen, GB.ren, calF, upOf, List.cons_append, List.nil_append, Nat.reduceAdd]))
            | (apply cy4 0; exact rfl; exact rfl; exact callK1 (θ := []) (hD := (l25Form_ok _ _ _ preB37 preB37 preB37)); exact rfl; exact rfl; exact rfl; exact rfl; (try dsimp only [SV.ren, C.ren, C.ren.all, tRen, GB.ren, calF, upOf, List.cons_append, List.nil_append, Nat.reduceAdd]))
            | (apply cy4 0; exact rfl; exact rfl; exact callK1 (θ := []) (hD := (l25Spans_ok _ preB37)); exact rfl; exact rfl; exact rfl; exact rfl; (try dsimp only [SV.ren, C.ren, C.ren.all, tRen, GB.ren, calF, upOf, List.cons_append, List.nil_append, Nat.reduceAdd]))
            | (apply g_drN (id := 3) okM [[], [], [1], [1, 2], [1, 2, 3], [0, 1, 2, 3, 4], [0, 1, 2, 3, 4, 5], [0, 1, 2, 3, 4, 5, 6], [0, 1, 2, 3, 4, 5, 6], [0, 1, 2, 3, 4, 5, 6], [], [0, 1, 2, 3, 4, 5, 6, 7, 10], [0, 1, 2, 3, 4, 5, 6, 7, 8, 10, 11], [0, 1, 2, 3, 4, 5, 6, 7, 8, 9, 10, 11, 12]] [([0, 1], []), ([], []), ([], []), ([], []), ([], []), ([2, 3], []), ([], []), ([], []), ([], []), ([], []), ([4], []), ([], [6]), ([], []), ([], [])] 5; (focus (all_goals refine duN 0 0 [27, 28, 29, 30, 5] [(true, 4)] (callD1 (n := _) 0 (θ := []) (hD := l25Blank_ok)) (by exact rfl) (by exact rfl) ?_; all_goals refine dp 1 0 [26, 5] [(true, 0), (true, 1), (true, 4)] (a_pure (sv := .one _) rfl) ?_; all_goals refine dp 2 1 [26, 5] [(true, 0), (true, 1), (true, 4)] puL ?_; all_goals refine dp 3 3 [26, 5] [(true, 0), (true, 1), (true, 4)] puI ?_; all_goals refine dp 4 7 [26, 5] [(true, 0), (true, 1), (true, 4)] puL ?_; all_goals refine duN 5 31 [5] [(true, 4)] (callD1 (n := _) 2 (θ := []) (hD := (l25After_ok m blank _ hv hvb preB37 _ rfl))) (by exact rfl) (by exact rfl) ?_; all_goals refine dp 6 63 [5] [(true, 4)] pu1 ?_; all_goals refine dp 7 127 [33, 34, 5] [(true, 4)] pu2 ?_; all_goals refine dp 8 254 [32, 34, 5] [(true, 4), (false, 6)] pu2 ?_; all_goals refine dp 9 508 [32, 33, 5, 6] [(true, 4), (false, 6)] pu2 ?_; all_goals refine duE 10 0 [26, 27, 28, 29, 30, 31, 25, 32, 33, 34] [(true, 0), (true, 1), (true, 2), (true, 3)] (atN 4 (fun _ => a_new (gb := .bx _) rfl)) (by exact rfl) (by exact rfl) ?_; all_goals refine duE 11 2041 [33, 34] [] (a_st_bx rfl rfl rfl rfl (fN rfl rfl) (Nat.le_of_ble_eq_true rfl) rfl) (by exact rfl) (by exact rfl) ?_; all_goals refine dp 12 4091 [34] [] pu1 ?_; all_goals refine dp 13 8191 [] [] pu1 ?_; all_goals (refine d_nil ?_; dsimp only [selT, selH, trues, SV.ren, C.ren, C.ren.all, tRen, GB.ren, calF, upOf, List.cons_append, List.nil_append, Nat.reduceAdd, setRow, List.map_cons, List.map_nil, scC, List.set_cons_zero, List.set_cons_succ, List.take_succ_cons, List.take_zero, List.drop_succ_cons, List.drop_zero]))); any_goals kernel_rfl)
            | (apply g_drN (id := 4) okM [[], [0], [0, 1], [0, 1], [0, 1, 3], [0, 1, 3, 4], [0, 1, 3, 4, 5], [0, 1], [0, 1, 7], [0, 1, 7, 8], [0, 1, 7, 8, 9], [0, 1, 2, 3, 4, 5, 6, 7, 8, 9, 10], [0, 1, 2, 3, 4, 5, 6, 7, 8, 9, 10, 11], [0, 1, 2, 3, 4, 5, 6, 7, 8, 9, 10, 11, 12]] [([], []), ([], []), ([], []), ([], []), ([], []), ([], []), ([], []), ([], []), ([], []), ([], []), ([], []), ([], []), ([], []), ([], [])] 0; (focus (all_goals refine dp 0 0 [] [] pu1 ?_; all_goals (refine db 1 1 [] [] pu1 ?_ ?_ <;> (intro hc; first | cases hc | (try simp only [decide_eq_true_eq, decide_eq_false_iff_not, Bool.not_eq_true', Bool.not_eq_false', Bool.not_eq_true, Bool.not_eq_false, Bool.and_eq_true, Bool.or_eq_false_iff, Bool.not_not] at hc); first | contradiction | (exfalso; omega) | skip)); all_goals (first | refine dn 2 3 [38, 39, 40, 41, 42, 43, 44, 45] [] ?_ | refine dpy 2 3 [38, 39, 40, 41, 42, 43, 44, 45] [] puL ?_); all_goals (first | refine dn 3 6 [37, 42, 43, 44, 45] [] ?_ | refine dpy 3 6 [37, 42, 43, 44, 45] [] (a_pure (sv := .one _) rfl) ?_); all_goals (first | refine dn 4 13 [37, 42, 43, 44, 45] [] ?_ | refine dpy 4 13 [37, 42, 43, 44, 45] [] puL ?_); all_goals (first | refine dn 5 27 [37, 42, 43, 44, 45] [] ?_ | refine dpy 5 27 [37, 42, 43, 44, 45] [] puI ?_); all_goals (first | refine dn 6 55 [37, 42, 43, 44, 45] [] ?_ | refine dpy 6 55 [37, 42, 43, 44, 45] [] puL ?_); all_goals (first | refine dn 7 96 [37, 38, 39, 40, 41] [] ?_ | refine dpy 7 96 [37, 38, 39, 40, 41] [] (a_pure (sv := .one _) rfl) ?_); all_goals (first | refine dn 8 193 [37, 38, 39, 40, 41] [] ?_ | refine dpy 8 193 [37, 38, 39, 40, 41] [] puL ?_); all_goals (first | refine dn 9 387 [37, 38, 39, 40, 41] [] ?_ | refine dpy 9 387 [37, 38, 39, 40, 41] [] puI ?_); all_goals (first | refine dn 10 775 [37, 38, 39, 40, 41] [] ?_ | refine dpy 10 775 [37, 38, 39, 40, 41] [] puL ?_); all_goals (first | refine dn 11 2047 [] [] ?_ | refine dpy 11 2047 [] [] (callD1 (n := _) 0 (θ := []) (hD := (l25Shift_ok m c1 _ _ hv hgo.1 preB37 _ rfl))) ?_); all_goals refine dp 12 4095 [] [] (a_pure (sv := .one _) rfl) ?_; all_goals refine dp 13 8191 [] [] pu1 ?_; all_goals (refine d_nil ?_; dsimp only [selT, selH, trues, SV.ren, C.ren, C.ren.all, tRen, GB.ren, calF, upOf, List.cons_append, List.nil_append, Nat.reduceAdd, setRow, List.map_cons, List.map_nil, scC, List.set_cons_zero, List.set_cons_succ, List.take_succ_cons, List.take_zero, List.drop_succ_cons, List.drop_zero]))); any_goals kernel_rfl)
            | (refine o_gs rfl rfl (fun hc => ?_) (fun hc => ?_) <;> (try simp only [decide_eq_true_eq, decide_eq_false_iff_not, Bool.not_eq_true', Bool.not_eq_false', Bool.not_eq_true, Bool.not_eq_false, Bool.and_eq_true, Bool.or_eq_false_iff, Bool.not_not] at hc) <;> (try (first | contradiction | (exfalso; omega))))
            | (refine g_cond rfl (fun hc => ?_) (fun hc => ?_) <;> (try simp only [decide_eq_true_eq, decide_eq_false_iff_not, Bool.not_eq_true', Bool.not_eq_false', Bool.not_eq_true, Bool.not_eq_false, Bool.and_eq_true, Bool.or_eq_false_iff, Bool.not_not] at hc) <;> (try (first | contradiction | (exfalso; omega))))
          simp only [e1, e2]
          repeat (first | refine g_ret ?_ | refine q_sr ?_ | refine q_br ?_ | refine q_lr ?_ | refine q_cr ?_)
          refine ends_id ?_
          refine endK [] (h2 := ?_) (h3 := ?_) (nd := ?_)
          all_goals (repeat' first | with_reducible exact SVLe.refl | exact SVLe.any | exact SVLe.one (.sh rfl) | exact SVLe.one (.nil (by decide)) | refine SVLe.agg ?_ | refine SVLe.tup ?_ | exact TLe.nil | refine TLe.cons ?_ ?_ | exact CsLe.nil | refine CsLe.cons ?_ ?_ | exact CLe.refl | exact CLe.sh rfl | exact CLe.nil (by decide) | refine cle_i ?_ | refine cle_b ?_ | exact trivial | refine And.intro ?_ ?_ | exact Or.inl rfl | exact Or.inr rfl | refine Or.inr (row_eq ?_) | (refine Or.inr (bx_eq rfl rfl ?_); (try dsimp only [C.ren, C.ren.all]); (try exact rfl)) | exact SVLe.refl | refine sle_i ?_ | refine sle_b ?_)
          all_goals first | exact (show nodupB _ = true from rfl) | exact Or.inr rfl | ((symm; unfold chS; rw [hO, hf, hv, show spanB (p.nu.getD 0 0) (p.nu.getD 1 0) = true from decide_eq_true hsp, decide_eq_true (p := p.nu.getD 2 0 ≠ 0) hc]; rfl))
    · refine does_of (k := 0) Try.func37 rfl Try.ntmps37 rfl rfl fun w F0 S0 ρ0 => ?_
      dsimp only [argT, argH]
      repeat' first
        | refine g_seq ?_
        | refine g_skip ?_
        | refine g_exit ?_
        | refine g_block ?_
        | refine g_reg ?_
        | refine g_if_t rfl ?_
        | refine g_if_f rfl ?_
        | refine o_nil ?_
        | refine q_s ?_
        | refine q_se ?_
        | refine q_b ?_
        | refine q_be rfl ?_
        | refine q_bn rfl ?_
        | refine q_le ?_
        | refine q_ce ?_
        | (apply n3; exact a_new (gb := .bx _) rfl; exact rfl; (try dsimp only [List.map_cons, List.map_nil, scC, Nat.reduceAdd]))
        | (apply p3; (first | exact pu1 | exact puL | exact puC | exact a_eqS rfl rfl rfl | exact puI); exact rfl)
        | (apply c4 0; exact callK1 (θ := []) (hD := (l05Is_ok _ preB37)); exact rfl; exact rfl; exact rfl; (try dsimp only [SV.ren, C.ren, C.ren.all, tRen, GB.ren, calF, upOf, List.cons_append, List.nil_append, Nat.reduceAdd]))
        | (apply c4 0; exact callK1 (θ := []) (hD := (l25Form_ok _ _ _ preB37 preB37 preB37)); exact rfl; exact rfl; exact rfl; (try dsimp only [SV.ren, C.ren, C.ren.all, tRen, GB.ren, calF, upOf, List.cons_append, List.nil_append, Nat.reduceAdd]))
        | (apply c4 0; exact callK1 (θ := []) (hD := (l25Spans_ok _ preB37)); exact rfl; exact rfl; exact rfl; (try dsimp only [SV.ren, C.ren, C.ren.all, tRen, GB.ren, calF, upOf, List.cons_append, List.nil_append, Nat.reduceAdd]))
        | refine o_no rfl rfl rfl rfl ?_
        | refine o_noN rfl rfl rfl ?_
        | (apply py3; exact rfl; exact rfl; (first | exact pu1 | exact puL | exact puC | exact a_eqS rfl rfl rfl | exact puI); exact rfl; exact rfl)
        | (apply ny3; exact rfl; exact rfl; exact a_new (gb := .bx _) rfl; exact rfl; exact rfl)
        | (apply cy4 0; exact rfl; exact rfl; exact callK1 (θ := []) (hD := (l05Is_ok _ preB37)); exact rfl; exact rfl; exact rfl; exact rfl; (try dsimp only [SV.ren, C.ren, C.ren.all, tRen, GB.ren, calF, upOf, List.cons_append, List.nil_append, Nat.reduceAdd]))
        | (apply cy4 0; exact rfl; exact rfl; exact callK1 (θ := []) (hD := (l25Form_ok _ _ _ preB37 preB37 preB37)); exact rfl; exact rfl; exact rfl; exact rfl; (try dsimp only [SV.ren, C.ren, C.ren.all, tRen, GB.ren, calF, upOf, List.cons_append, List.nil_append, Nat.reduceAdd]))
        | (apply cy4 0; exact rfl; exact rfl; exact callK1 (θ := []) (hD := (l25Spans_ok _ preB37)); exact rfl; exact rfl; exact rfl; exact rfl; (try dsimp only [SV.ren, C.ren, C.ren.all, tRen, GB.ren, calF, upOf, List.cons_append, List.nil_append, Nat.reduceAdd]))
        | (apply g_drN (id := 3) okM [[], [], [1], [1, 2], [1, 2, 3], [0, 1, 2, 3, 4], [0, 1, 2, 3, 4, 5], [0, 1, 2, 3, 4, 5, 6], [0, 1, 2, 3, 4, 5, 6], [0, 1, 2, 3, 4, 5, 6], [], [0, 1, 2, 3, 4, 5, 6, 7, 10], [0, 1, 2, 3, 4, 5, 6, 7, 8, 10, 11], [0, 1, 2, 3, 4, 5, 6, 7, 8, 9, 10, 11, 12]] [([0, 1], []), ([], []), ([], []), ([], []), ([], []), ([2, 3], []), ([], []), ([], []), ([], []), ([], []), ([4], []), ([], [6]), ([], []), ([], [])] 5; (focus (all_goals refine duN 0 0 [27, 28, 29, 30, 5] [(true, 4)] (callD1 (n := _) 0 (θ := []) (hD := l25Blank_ok)) (by exact rfl) (by exact rfl) ?_; all_goals refine dp 1 0 [26, 5] [(true, 0), (true, 1), (true, 4)] (a_pure (sv := .one _) rfl) ?_; all_goals refine dp 2 1 [26, 5] [(true, 0), (true, 1), (true, 4)] puL ?_; all_goals refine dp 3 3 [26, 5] [(true, 0), (true, 1), (true, 4)] puI ?_; all_goals refine dp 4 7 [26, 5] [(true, 0), (true, 1), (true, 4)] puL ?_; all_goals refine duN 5 31 [5] [(true, 4)] (callD1 (n := _) 2 (θ := []) (hD := (l25After_ok m blank _ hv hvb preB37 _ rfl))) (by exact rfl) (by exact rfl) ?_; all_goals refine dp 6 63 [5] [(true, 4)] pu1 ?_; all_goals refine dp 7 127 [33, 34, 5] [(true, 4)] pu2 ?_; all_goals refine dp 8 254 [32, 34, 5] [(true, 4), (false, 6)] pu2 ?_; all_goals refine dp 9 508 [32, 33, 5, 6] [(true, 4), (false, 6)] pu2 ?_; all_goals refine duE 10 0 [26, 27, 28, 29, 30, 31, 25, 32, 33, 34] [(true, 0), (true, 1), (true, 2), (true, 3)] (atN 4 (fun _ => a_new (gb := .bx _) rfl)) (by exact rfl) (by exact rfl) ?_; all_goals refine duE 11 2041 [33, 34] [] (a_st_bx rfl rfl rfl rfl (fN rfl rfl) (Nat.le_of_ble_eq_true rfl) rfl) (by exact rfl) (by exact rfl) ?_; all_goals refine dp 12 4091 [34] [] pu1 ?_; all_goals refine dp 13 8191 [] [] pu1 ?_; all_goals (refine d_nil ?_; dsimp only [selT, selH, trues, SV.ren, C.ren, C.ren.all, tRen, GB.ren, calF, upOf, List.cons_append, List.nil_append, Nat.reduceAdd, setRow, List.map_cons, List.map_nil, scC, List.set_cons_zero, List.set_cons_succ, List.take_succ_cons, List.take_zero, List.drop_succ_cons, List.drop_zero]))); any_goals kernel_rfl)
        | (apply g_drN (id := 4) okM [[], [0], [0, 1], [0, 1], [0, 1, 3], [0, 1, 3, 4], [0, 1, 3, 4, 5], [0, 1], [0, 1, 7], [0, 1, 7, 8], [0, 1, 7, 8, 9], [0, 1, 2, 3, 4, 5, 6, 7, 8, 9, 10], [0, 1, 2, 3, 4, 5, 6, 7, 8, 9, 10, 11], [0, 1, 2, 3, 4, 5, 6, 7, 8, 9, 10, 11, 12]] [([], []), ([], []), ([], []), ([], []), ([], []), ([], []), ([], []), ([], []), ([], []), ([], []), ([], []), ([], []), ([], []), ([], [])] 0; (focus (all_goals refine dp 0 0 [] [] pu1 ?_; all_goals (refine db 1 1 [] [] pu1 ?_ ?_ <;> (intro hc; first | cases hc | (try simp only [decide_eq_true_eq, decide_eq_false_iff_not, Bool.not_eq_true', Bool.not_eq_false', Bool.not_eq_true, Bool.not_eq_false, Bool.and_eq_true, Bool.or_eq_false_iff, Bool.not_not] at hc); first | contradiction | (exfalso; omega) | skip)); all_goals (first | refine dn 2 3 [38, 39, 40, 41, 42, 43, 44, 45] [] ?_ | refine dpy 2 3 [38, 39, 40, 41, 42, 43, 44, 45] [] puL ?_); all_goals (first | refine dn 3 6 [37, 42, 43, 44, 45] [] ?_ | refine dpy 3 6 [37, 42, 43, 44, 45] [] (a_pure (sv := .one _) rfl) ?_); all_goals (first | refine dn 4 13 [37, 42, 43, 44, 45] [] ?_ | refine dpy 4 13 [37, 42, 43, 44, 45] [] puL ?_); all_goals (first | refine dn 5 27 [37, 42, 43, 44, 45] [] ?_ | refine dpy 5 27 [37, 42, 43, 44, 45] [] puI ?_); all_goals (first | refine dn 6 55 [37, 42, 43, 44, 45] [] ?_ | refine dpy 6 55 [37, 42, 43, 44, 45] [] puL ?_); all_goals (first | refine dn 7 96 [37, 38, 39, 40, 41] [] ?_ | refine dpy 7 96 [37, 38, 39, 40, 41] [] (a_pure (sv := .one _) rfl) ?_); all_goals (first | refine dn 8 193 [37, 38, 39, 40, 41] [] ?_ | refine dpy 8 193 [37, 38, 39, 40, 41] [] puL ?_); all_goals (first | refine dn 9 387 [37, 38, 39, 40, 41] [] ?_ | refine dpy 9 387 [37, 38, 39, 40, 41] [] puI ?_); all_goals (first | refine dn 10 775 [37, 38, 39, 40, 41] [] ?_ | refine dpy 10 775 [37, 38, 39, 40, 41] [] puL ?_); all_goals (first | refine dn 11 2047 [] [] ?_ | refine dpy 11 2047 [] [] (callD1 (n := _) 0 (θ := []) (hD := (l25Shift_ok m c1 _ _ hv hgo.1 preB37 _ rfl))) ?_); all_goals refine dp 12 4095 [] [] (a_pure (sv := .one _) rfl) ?_; all_goals refine dp 13 8191 [] [] pu1 ?_; all_goals (refine d_nil ?_; dsimp only [selT, selH, trues, SV.ren, C.ren, C.ren.all, tRen, GB.ren, calF, upOf, List.cons_append, List.nil_append, Nat.reduceAdd, setRow, List.map_cons, List.map_nil, scC, List.set_cons_zero, List.set_cons_succ, List.take_succ_cons, List.take_zero, List.drop_succ_cons, List.drop_zero]))); any_goals kernel_rfl)
        | (refine o_gs rfl rfl (fun hc => ?_) (fun hc => ?_) <;> (try simp only [decide_eq_true_eq, decide_eq_false_iff_not, Bool.not_eq_true', Bool.not_eq_false', Bool.not_eq_true, Bool.not_eq_false, Bool.and_eq_true, Bool.or_eq_false_iff, Bool.not_not] at hc) <;> (try (first | contradiction | (exfalso; omega))))
        | (refine g_cond rfl (fun hc => ?_) (fun hc => ?_) <;> (try simp only [decide_eq_true_eq, decide_eq_false_iff_not, Bool.not_eq_true', Bool.not_eq_false', Bool.not_eq_true, Bool.not_eq_false, Bool.and_eq_true, Bool.or_eq_false_iff, Bool.not_not] at hc) <;> (try (first | contradiction | (exfalso; omega))))
      · repeat (first | refine g_ret ?_ | refine q_sr ?_ | refine q_br ?_ | refine q_lr ?_ | refine q_cr ?_)
        refine ends_id ?_
        refine endK [] (h2 := ?_) (h3 := ?_) (nd := ?_)
        all_goals (repeat' first | with_reducible exact SVLe.refl | exact SVLe.any | exact SVLe.one (.sh rfl) | exact SVLe.one (.nil (by decide)) | refine SVLe.agg ?_ | refine SVLe.tup ?_ | exact TLe.nil | refine TLe.cons ?_ ?_ | exact CsLe.nil | refine CsLe.cons ?_ ?_ | exact CLe.refl | exact CLe.sh rfl | exact CLe.nil (by decide) | refine cle_i ?_ | refine cle_b ?_ | exact trivial | refine And.intro ?_ ?_ | exact Or.inl rfl | exact Or.inr rfl | refine Or.inr (row_eq ?_) | (refine Or.inr (bx_eq rfl rfl ?_); (try dsimp only [C.ren, C.ren.all]); (try exact rfl)) | exact SVLe.refl | refine sle_i ?_ | refine sle_b ?_)
        all_goals first | exact (show nodupB _ = true from rfl) | exact Or.inr rfl | ((exact (hcs (by assumption)).symm))
  · refine does_of (k := 0) Try.func37 rfl Try.ntmps37 rfl rfl fun w F0 S0 ρ0 => ?_
    dsimp only [argT, argH]
    repeat' first
      | refine g_seq ?_
      | refine g_skip ?_
      | refine g_exit ?_
      | refine g_block ?_
      | refine g_reg ?_
      | refine g_if_t rfl ?_
      | refine g_if_f rfl ?_
      | refine o_nil ?_
      | refine q_s ?_
      | refine q_se ?_
      | refine q_b ?_
      | refine q_be rfl ?_
      | refine q_bn rfl ?_
      | refine q_le ?_
      | refine q_ce ?_
      | (apply n3; exact a_new (gb := .bx _) rfl; exact rfl; (try dsimp only [List.map_cons, List.map_nil, scC, Nat.reduceAdd]))
      | (apply p3; (first | exact pu1 | exact puL | exact puC | exact a_eqS rfl rfl rfl | exact puI); exact rfl)
      | (apply c4 0; exact callK1 (θ := []) (hD := (l05Is_ok _ preB37)); exact rfl; exact rfl; exact rfl; (try dsimp only [SV.ren, C.ren, C.ren.all, tRen, GB.ren, calF, upOf, List.cons_append, List.nil_append, Nat.reduceAdd]))
      | (apply c4 0; exact callK1 (θ := []) (hD := (l25Form_ok _ _ _ preB37 preB37 preB37)); exact rfl; exact rfl; exact rfl; (try dsimp only [SV.ren, C.ren, C.ren.all, tRen, GB.ren, calF, upOf, List.cons_append, List.nil_append, Nat.reduceAdd]))
      | (apply c4 0; exact callK1 (θ := []) (hD := (l25Spans_ok _ preB37)); exact rfl; exact rfl; exact rfl; (try dsimp only [SV.ren, C.ren, C.ren.all, tRen, GB.ren, calF, upOf, List.cons_append, List.nil_append, Nat.reduceAdd]))
      | refine o_no rfl rfl rfl rfl ?_
      | refine o_noN rfl rfl rfl ?_
      | (apply py3; exact rfl; exact rfl; (first | exact pu1 | exact puL | exact puC | exact a_eqS rfl rfl rfl | exact puI); exact rfl; exact rfl)
      | (apply ny3; exact rfl; exact rfl; exact a_new (gb := .bx _) rfl; exact rfl; exact rfl)
      | (apply cy4 0; exact rfl; exact rfl; exact callK1 (θ := []) (hD := (l05Is_ok _ preB37)); exact rfl; exact rfl; exact rfl; exact rfl; (try dsimp only [SV.ren, C.ren, C.ren.all, tRen, GB.ren, calF, upOf, List.cons_append, List.nil_append, Nat.reduceAdd]))
      | (apply cy4 0; exact rfl; exact rfl; exact callK1 (θ := []) (hD := (l25Form_ok _ _ _ preB37 preB37 preB37)); exact rfl; exact rfl; exact rfl; exact rfl; (try dsimp only [SV.ren, C.ren, C.ren.all, tRen, GB.ren, calF, upOf, List.cons_append, List.nil_append, Nat.reduceAdd]))
      | (apply cy4 0; exact rfl; exact rfl; exact callK1 (θ := []) (hD := (l25Spans_ok _ preB37)); exact rfl; exact rfl; exact rfl; exact rfl; (try dsimp only [SV.ren, C.ren, C.ren.all, tRen, GB.ren, calF, upOf, List.cons_append, List.nil_append, Nat.reduceAdd]))
      | (apply g_drN (id := 3) okM [[], [], [1], [1, 2], [1, 2, 3], [0, 1, 2, 3, 4], [0, 1, 2, 3, 4, 5], [0, 1, 2, 3, 4, 5, 6], [0, 1, 2, 3, 4, 5, 6], [0, 1, 2, 3, 4, 5, 6], [], [0, 1, 2, 3, 4, 5, 6, 7, 10], [0, 1, 2, 3, 4, 5, 6, 7, 8, 10, 11], [0, 1, 2, 3, 4, 5, 6, 7, 8, 9, 10, 11, 12]] [([0, 1], []), ([], []), ([], []), ([], []), ([], []), ([2, 3], []), ([], []), ([], []), ([], []), ([], []), ([4], []), ([], [6]), ([], []), ([], [])] 5; (focus (all_goals refine duN 0 0 [27, 28, 29, 30, 5] [(true, 4)] (callD1 (n := _) 0 (θ := []) (hD := l25Blank_ok)) (by exact rfl) (by exact rfl) ?_; all_goals refine dp 1 0 [26, 5] [(true, 0), (true, 1), (true, 4)] (a_pure (sv := .one _) rfl) ?_; all_goals refine dp 2 1 [26, 5] [(true, 0), (true, 1), (true, 4)] puL ?_; all_goals refine dp 3 3 [26, 5] [(true, 0), (true, 1), (true, 4)] puI ?_; all_goals refine dp 4 7 [26, 5] [(true, 0), (true, 1), (true, 4)] puL ?_; all_goals refine duN 5 31 [5] [(true, 4)] (callD1 (n := _) 2 (θ := []) (hD := (l25After_ok m blank _ hv hvb preB37 _ rfl))) (by exact rfl) (by exact rfl) ?_; all_goals refine dp 6 63 [5] [(true, 4)] pu1 ?_; all_goals refine dp 7 127 [33, 34, 5] [(true, 4)] pu2 ?_; all_goals refine dp 8 254 [32, 34, 5] [(true, 4), (false, 6)] pu2 ?_; all_goals refine dp 9 508 [32, 33, 5, 6] [(true, 4), (false, 6)] pu2 ?_; all_goals refine duE 10 0 [26, 27, 28, 29, 30, 31, 25, 32, 33, 34] [(true, 0), (true, 1), (true, 2), (true, 3)] (atN 4 (fun _ => a_new (gb := .bx _) rfl)) (by exact rfl) (by exact rfl) ?_; all_goals refine duE 11 2041 [33, 34] [] (a_st_bx rfl rfl rfl rfl (fN rfl rfl) (Nat.le_of_ble_eq_true rfl) rfl) (by exact rfl) (by exact rfl) ?_; all_goals refine dp 12 4091 [34] [] pu1 ?_; all_goals refine dp 13 8191 [] [] pu1 ?_; all_goals (refine d_nil ?_; dsimp only [selT, selH, trues, SV.ren, C.ren, C.ren.all, tRen, GB.ren, calF, upOf, List.cons_append, List.nil_append, Nat.reduceAdd, setRow, List.map_cons, List.map_nil, scC, List.set_cons_zero, List.set_cons_succ, List.take_succ_cons, List.take_zero, List.drop_succ_cons, List.drop_zero]))); any_goals kernel_rfl)
      | (apply g_drN (id := 4) okM [[], [0], [0, 1], [0, 1], [0, 1, 3], [0, 1, 3, 4], [0, 1, 3, 4, 5], [0, 1], [0, 1, 7], [0, 1, 7, 8], [0, 1, 7, 8, 9], [0, 1, 2, 3, 4, 5, 6, 7, 8, 9, 10], [0, 1, 2, 3, 4, 5, 6, 7, 8, 9, 10, 11], [0, 1, 2, 3, 4, 5, 6, 7, 8, 9, 10, 11, 12]] [([], []), ([], []), ([], []), ([], []), ([], []), ([], []), ([], []), ([], []), ([], []), ([], []), ([], []), ([], []), ([], []), ([], [])] 0; (focus (all_goals refine dp 0 0 [] [] pu1 ?_; all_goals (refine db 1 1 [] [] pu1 ?_ ?_ <;> (intro hc; first | cases hc | (try simp only [decide_eq_true_eq, decide_eq_false_iff_not, Bool.not_eq_true', Bool.not_eq_false', Bool.not_eq_true, Bool.not_eq_false, Bool.and_eq_true, Bool.or_eq_false_iff, Bool.not_not] at hc); first | contradiction | (exfalso; omega) | skip)); all_goals (first | refine dn 2 3 [38, 39, 40, 41, 42, 43, 44, 45] [] ?_ | refine dpy 2 3 [38, 39, 40, 41, 42, 43, 44, 45] [] puL ?_); all_goals (first | refine dn 3 6 [37, 42, 43, 44, 45] [] ?_ | refine dpy 3 6 [37, 42, 43, 44, 45] [] (a_pure (sv := .one _) rfl) ?_); all_goals (first | refine dn 4 13 [37, 42, 43, 44, 45] [] ?_ | refine dpy 4 13 [37, 42, 43, 44, 45] [] puL ?_); all_goals (first | refine dn 5 27 [37, 42, 43, 44, 45] [] ?_ | refine dpy 5 27 [37, 42, 43, 44, 45] [] puI ?_); all_goals (first | refine dn 6 55 [37, 42, 43, 44, 45] [] ?_ | refine dpy 6 55 [37, 42, 43, 44, 45] [] puL ?_); all_goals (first | refine dn 7 96 [37, 38, 39, 40, 41] [] ?_ | refine dpy 7 96 [37, 38, 39, 40, 41] [] (a_pure (sv := .one _) rfl) ?_); all_goals (first | refine dn 8 193 [37, 38, 39, 40, 41] [] ?_ | refine dpy 8 193 [37, 38, 39, 40, 41] [] puL ?_); all_goals (first | refine dn 9 387 [37, 38, 39, 40, 41] [] ?_ | refine dpy 9 387 [37, 38, 39, 40, 41] [] puI ?_); all_goals (first | refine dn 10 775 [37, 38, 39, 40, 41] [] ?_ | refine dpy 10 775 [37, 38, 39, 40, 41] [] puL ?_); all_goals (first | refine dn 11 2047 [] [] ?_ | refine dpy 11 2047 [] [] (callD1 (n := _) 0 (θ := []) (hD := (l25Shift_ok m c1 _ _ hv hgo.1 preB37 _ rfl))) ?_); all_goals refine dp 12 4095 [] [] (a_pure (sv := .one _) rfl) ?_; all_goals refine dp 13 8191 [] [] pu1 ?_; all_goals (refine d_nil ?_; dsimp only [selT, selH, trues, SV.ren, C.ren, C.ren.all, tRen, GB.ren, calF, upOf, List.cons_append, List.nil_append, Nat.reduceAdd, setRow, List.map_cons, List.map_nil, scC, List.set_cons_zero, List.set_cons_succ, List.take_succ_cons, List.take_zero, List.drop_succ_cons, List.drop_zero]))); any_goals kernel_rfl)
      | (refine o_gs rfl rfl (fun hc => ?_) (fun hc => ?_) <;> (try simp only [decide_eq_true_eq, decide_eq_false_iff_not, Bool.not_eq_true', Bool.not_eq_false', Bool.not_eq_true, Bool.not_eq_false, Bool.and_eq_true, Bool.or_eq_false_iff, Bool.not_not] at hc) <;> (try (first | contradiction | (exfalso; omega))))
      | (refine g_cond rfl (fun hc => ?_) (fun hc => ?_) <;> (try simp only [decide_eq_true_eq, decide_eq_false_iff_not, Bool.not_eq_true', Bool.not_eq_false', Bool.not_eq_true, Bool.not_eq_false, Bool.and_eq_true, Bool.or_eq_false_iff, Bool.not_not] at hc) <;> (try (first | contradiction | (exfalso; omega))))
    · repeat (first | refine g_ret ?_ | refine q_sr ?_ | refine q_br ?_ | refine q_lr ?_ | refine q_cr ?_)
      refine ends_id ?_
      refine endK [] (h2 := ?_) (h3 := ?_) (nd := ?_)
      all_goals (repeat' first | with_reducible exact SVLe.refl | exact SVLe.any | exact SVLe.one (.sh rfl) | exact SVLe.one (.nil (by decide)) | refine SVLe.agg ?_ | refine SVLe.tup ?_ | exact TLe.nil | refine TLe.cons ?_ ?_ | exact CsLe.nil | refine CsLe.cons ?_ ?_ | exact CLe.refl | exact CLe.sh rfl | exact CLe.nil (by decide) | refine cle_i ?_ | refine cle_b ?_ | exact trivial | refine And.intro ?_ ?_ | exact Or.inl rfl | exact Or.inr rfl | refine Or.inr (row_eq ?_) | (refine Or.inr (bx_eq rfl rfl ?_); (try dsimp only [C.ren, C.ren.all]); (try exact rfl)) | exact SVLe.refl | refine sle_i ?_ | refine sle_b ?_)
      all_goals first | exact (show nodupB _ = true from rfl) | exact Or.inr rfl | ((exact (hcs (by assumption)).symm))
    · repeat (first | refine g_ret ?_ | refine q_sr ?_ | refine q_br ?_ | refine q_lr ?_ | refine q_cr ?_)
      refine ends_id ?_
      refine endK [] (h2 := ?_) (h3 := ?_) (nd := ?_)
      all_goals (repeat' first | with_reducible exact SVLe.refl | exact SVLe.any | exact SVLe.one (.sh rfl) | exact SVLe.one (.nil (by decide)) | refine SVLe.agg ?_ | refine SVLe.tup ?_ | exact TLe.nil | refine TLe.cons ?_ ?_ | exact CsLe.nil | refine CsLe.cons ?_ ?_ | exact CLe.refl | exact CLe.sh rfl | exact CLe.nil (by decide) | refine cle_i ?_ | refine cle_b ?_ | exact trivial | refine And.intro ?_ ?_ | exact Or.inl rfl | exact Or.inr rfl | refine Or.inr (row_eq ?_) | (refine Or.inr (bx_eq rfl rfl ?_); (try dsimp only [C.ren, C.ren.all]); (try exact rfl)) | exact SVLe.refl | refine sle_i ?_ | refine sle_b ?_)
      all_goals first | exact (show nodupB _ = true from rfl) | exact Or.inr rfl | ((exact (hcs2 (by assumption)).symm))
end Go.Proofs.Ytncccjpbaeaafaa
end
section
set_option linter.unusedVariables false
set_option linter.unusedSimpArgs false
set_option maxRecDepth 100000
set_option maxHeartbeats 4000000
namespace Go.Proofs.Ytncccjpbaeaafaa
open Go Foot
theorem preB38 {p : Prop} (h : p := by first | with_reducible assumption | omega | (simp only [List.length_append, List.length_cons, List.length_nil, List.length_set, List.length_replicate, List.length_take, List.length_drop, List.length_tail, List.length_dropLast, List.length_reverse] at *; omega) | exact mem_len (by assumption) (by omega) | (with_reducible refine Int.le_trans (Int.ofNat_le.2 (trimR_len _)) ?_; simp only [List.length_cons, List.length_tail]; omega) | (exact (ruAt_ok (by assumption) (by assumption) (by assumption)).2.1) | (exact (ruAt_ok (by assumption) (by assumption) (by assumption)).2.1) | (have := vMach_bd (by assumption); omega) | (simp only [mC_ch, mC_tu]; omega) | (with_reducible refine Int.le_trans (Int.ofNat_le.2 (pushL_len _ _)) ?_; simp only [List.length_dropLast]; omega) | exact (ask_ok (by assumption)).1 | exact (ask_ok (by assumption)).2.1 | exact (ask_ok (by assumption)).2.2.1 | exact (ask_ok (by assumption)).2.2.2 | trivial) : p := h
theorem iCheckShift_ok (m : Mach) (p : Prf) (hm : (m.ru.length : Int) ≤ 16777216) (hx : (p.nu.length : Int) ≤ 16777216) (hy : (p.wo.length : Int) ≤ 16777216) (hys : ∀ x ∈ p.wo, (x.length : Int) ≤ 16777216) : Does Try.prog 39 [.agg (maC m), .agg (prC p)] [] (.one (boo (chS m p))) [] := by
  have e0 : ∀ h, p.nu[Int.toNat 0]'h = p.nu.getD 0 0 := fun h => get_getD p.nu 0 _ h
  have e1 : ∀ h, p.nu[Int.toNat 1]'h = p.nu.getD 1 0 := fun h => get_getD p.nu 0 _ h
  have e2 : ∀ h, p.nu[Int.toNat 2]'h = p.nu.getD 2 0 := fun h => get_getD p.nu 0 _ h
  have hcs : (vMach m && formP p 3 3) = false → chS m p = false := fun h => by unfold chS; rw [h]; rfl
  by_cases hf : (vMach m && formP p 3 3) = true
  · have hf1 : vMach m = true ∧ formP p 3 3 = true := by simpa using hf
    have hv := hf1.1
    have hn := (formP_bd hf1.2).2.2.1
    have hf2 : ¬ (vMach m = true → formP p 3 3 = false) := fun h => by simp [h hv] at hf1
    have hvb := vBlank hv
    refine does_of (k := 0) Try.func39 rfl Try.ntmps39 rfl rfl fun w F0 S0 ρ0 => ?_
    dsimp only [argT, argH]
    repeat' first
      | refine g_seq ?_
      | refine g_skip ?_
      | refine g_exit ?_
      | refine g_block ?_
      | refine g_reg (id := 0) ?_
      | refine g_reg (id := 2) ?_
      | refine g_if_t rfl ?_
      | refine g_if_f rfl ?_
      | refine o_nil ?_
      | refine q_s ?_
      | refine q_se ?_
      | refine q_b ?_
      | refine q_be rfl ?_
      | refine q_bn rfl ?_
      | refine q_le ?_
      | refine q_ce ?_
      | (apply n3; exact a_new (gb := .bx _) rfl; exact rfl; (try dsimp only [List.map_cons, List.map_nil, scC, Nat.reduceAdd]))
      | (apply p3; exact a_pure (sv := .one _) rfl; exact rfl)
      | (apply g_drN (id := 1) okM [[], [], [0, 1], [0, 1, 2], [0, 1, 2, 3], [0, 1, 2, 3, 4], [0, 1, 2, 3, 4, 5], [0, 1, 2, 3, 4, 5, 6], [0, 1, 2, 3, 4, 5, 6, 7], [0, 1, 2, 3, 4], [0, 1, 2, 3, 4, 9], [0, 1, 2, 3, 4, 9, 10], [0, 1, 2, 3, 4, 9, 10, 11], [0, 1, 2, 3, 4, 5, 6, 7, 8, 9, 10, 11, 12], [0, 1, 2, 3, 4, 5, 6, 7, 8, 9, 10, 11, 12, 13], [0, 1, 2, 3, 4, 5, 6, 7, 8, 9, 10, 11, 12, 13, 14], [0, 1, 2, 3, 4, 5, 6, 7, 8, 9, 10, 11, 12, 13, 14, 15], [0, 1, 2, 3, 4, 5, 6, 7, 8, 9, 10, 11, 12, 13, 14, 15, 16], [0, 1, 2, 3, 4, 5, 6, 7, 8, 9, 10, 11, 12, 13, 14, 15, 16, 17], [0, 1, 2, 3, 4, 5, 6, 7, 8, 9, 10, 11, 12, 13, 14, 15, 16, 17, 18], [0, 1, 2, 3, 4, 5, 6, 7, 8, 9, 10, 11, 12, 13, 14, 15, 16, 17, 18, 19], [0, 1, 2, 3, 4, 5, 6, 7, 8, 9, 10, 11, 12, 13, 14, 15, 16, 17, 18, 19, 20], [0, 1, 2, 3, 4, 5, 6, 7, 8, 9, 10, 11, 12, 13, 14, 15, 16, 17, 18, 19, 20, 21]] [([], []), ([], []), ([], []), ([], []), ([], []), ([], []), ([], []), ([], []), ([], []), ([], []), ([], []), ([], []), ([], []), ([], []), ([], []), ([], []), ([], []), ([], []), ([], []), ([], []), ([], []), ([], []), ([], [])] 0; (focus (all_goals refine dp 0 0 [16] [] puL ?_; all_goals refine dp 1 0 [15] [] puL ?_; all_goals refine dp 2 3 [] [] (callD1 (n := _) 0 (θ := []) (hD := (proofOf_ok _ _ _ _ preB38 preB38 preB38 preB38))) ?_; all_goals refine dp 3 7 [] [] (a_pure (sv := .one _) rfl) ?_; all_goals (refine db 4 15 [] [] pu1 ?_ ?_ <;> (intro hc; first | cases hc | (try simp only [decide_eq_true_eq, decide_eq_false_iff_not, Bool.not_eq_true', Bool.not_eq_false', Bool.not_eq_true, Bool.not_eq_false, Bool.and_eq_true, Bool.or_eq_false_iff, Bool.not_not] at hc); first | contradiction | (exfalso; omega) | skip)); all_goals (first | refine dn 5 31 [24, 25, 26, 27] [] ?_ | refine dpy 5 31 [24, 25, 26, 27] [] (a_pure (sv := .one _) rfl) ?_); all_goals (first | refine dn 6 63 [24, 25, 26, 27] [] ?_ | refine dpy 6 63 [24, 25, 26, 27] [] puL ?_); all_goals (first | refine dn 7 127 [24, 25, 26, 27] [] ?_ | refine dpy 7 127 [24, 25, 26, 27] [] puI ?_); all_goals (first | refine dn 8 255 [24, 25, 26, 27] [] ?_ | refine dpy 8 255 [24, 25, 26, 27] [] puL ?_); all_goals (first | refine dn 9 496 [20, 21, 22, 23] [] ?_ | refine dpy 9 496 [20, 21, 22, 23] [] (a_pure (sv := .one _) rfl) ?_); all_goals (first | refine dn 10 993 [20, 21, 22, 23] [] ?_ | refine dpy 10 993 [20, 21, 22, 23] [] puL ?_); all_goals (first | refine dn 11 1987 [20, 21, 22, 23] [] ?_ | refine dpy 11 1987 [20, 21, 22, 23] [] puI ?_); all_goals (first | refine dn 12 3975 [20, 21, 22, 23] [] ?_ | refine dpy 12 3975 [20, 21, 22, 23] [] puL ?_); all_goals (first | refine dn 13 8191 [] [] ?_ | refine dpy 13 8191 [] [] (callD1 (n := _) 0 (θ := []) (hD := (spanOk_ok _ _))) ?_); all_goals (first | refine dn 14 16383 [] [] ?_ | refine dpy 14 16383 [] [] (a_pure (sv := .one _) rfl) ?_); all_goals refine dp 15 32767 [] [] (a_pure (sv := .one _) rfl) ?_; all_goals (refine db 16 65535 [] [] pu1 ?_ ?_ <;> (intro hc; first | cases hc | (try simp only [decide_eq_true_eq, decide_eq_false_iff_not, Bool.not_eq_true', Bool.not_eq_false', Bool.not_eq_true, Bool.not_eq_false, Bool.and_eq_true, Bool.or_eq_false_iff, Bool.not_not] at hc); first | contradiction | (exfalso; omega) | skip)); all_goals (first | refine dn 17 131071 [] [] ?_ | refine dpy 17 131071 [] [] (a_pure (sv := .one _) rfl) ?_); all_goals (first | refine dn 18 262143 [] [] ?_ | refine dpy 18 262143 [] [] puL ?_); all_goals (first | refine dn 19 524287 [] [] ?_ | refine dpy 19 524287 [] [] puI ?_); all_goals (first | refine dn 20 1048575 [] [] ?_ | refine dpy 20 1048575 [] [] puL ?_); all_goals (first | refine dn 21 2097151 [] [] ?_ | refine dpy 21 2097151 [] [] (by first | exact puC | exact a_eqS rfl rfl rfl) ?_); all_goals refine dp 22 4194303 [] [] (a_pure (sv := .one _) rfl) ?_; all_goals (refine d_nil ?_; dsimp only [selT, selH, trues, SV.ren, C.ren, C.ren.all, tRen, GB.ren, calF, upOf, List.cons_append, List.nil_append, Nat.reduceAdd, setRow, List.map_cons, List.map_nil, scC, List.set_cons_zero, List.set_cons_succ, List.take_succ_cons, List.take_zero, List.drop_succ_cons, List.drop_zero]))); any_goals kernel_rfl)
      | (refine o_gs rfl rfl (fun hc => ?_) (fun hc => ?_) <;> (try simp only [decide_eq_true_eq, decide_eq_false_iff_not, Bool.not_eq_true', Bool.not_eq_false', Bool.not_eq_true, Bool.not_eq_false, Bool.and_eq_true, Bool.or_eq_false_iff, Bool.not_not] at hc) <;> (try (first | contradiction | (exfalso; omega))))
      | (refine g_cond rfl (fun hc => ?_) (fun hc => ?_) <;> (try simp only [decide_eq_true_eq, decide_eq_false_iff_not, Bool.not_eq_true', Bool.not_eq_false', Bool.not_eq_true, Bool.not_eq_false, Bool.and_eq_true, Bool.or_eq_false_iff, Bool.not_not] at hc) <;> (try (first | contradiction | (exfalso; omega))))
    · repeat (first | refine g_ret ?_ | refine q_sr ?_ | refine q_br ?_ | refine q_lr ?_ | refine q_cr ?_)
      refine ends_id ?_
      refine endK [] (h2 := ?_) (h3 := ?_) (nd := ?_)
      all_goals (repeat' first | with_reducible exact SVLe.refl | exact SVLe.any | exact SVLe.one (.sh rfl) | exact SVLe.one (.nil (by decide)) | refine SVLe.agg ?_ | refine SVLe.tup ?_ | exact TLe.nil | refine TLe.cons ?_ ?_ | exact CsLe.nil | refine CsLe.cons ?_ ?_ | exact CLe.refl | exact CLe.sh rfl | exact CLe.nil (by decide) | refine cle_i ?_ | refine cle_b ?_ | exact trivial | refine And.intro ?_ ?_ | exact Or.inl rfl | exact Or.inr rfl | refine Or.inr (row_eq ?_) | (refine Or.inr (bx_eq rfl rfl ?_); (try dsimp only [C.ren, C.ren.all]); (try exact rfl)) | exact SVLe.refl | refine sle_i ?_ | refine sle_b ?_)
      all_goals first | exact (show nodupB _ = true from rfl) | exact Or.inr rfl | ((exact (hcs (by assumption)).symm))
    · simp only [e0, e1] at *
      repeat (first | refine g_ret ?_ | refine q_sr ?_ | refine q_br ?_ | refine q_lr ?_ | refine q_cr ?_)
      refine ends_id ?_
      refine endK [] (h2 := ?_) (h3 := ?_) (nd := ?_)
      all_goals (repeat' first | with_reducible exact SVLe.refl | exact SVLe.any | exact SVLe.one (.sh rfl) | exact SVLe.one (.nil (by decide)) | refine SVLe.agg ?_ | refine SVLe.tup ?_ | exact TLe.nil | refine TLe.cons ?_ ?_ | exact CsLe.nil | refine CsLe.cons ?_ ?_ | exact CLe.refl | exact CLe.sh rfl | exact CLe.nil (by decide) | refine cle_i ?_ | refine cle_b ?_ | exact trivial | refine And.intro ?_ ?_ | exact Or.inl rfl | exact Or.inr rfl | refine Or.inr (row_eq ?_) | (refine Or.inr (bx_eq rfl rfl ?_); (try dsimp only [C.ren, C.ren.all]); (try exact rfl)) | exact SVLe.refl | refine sle_i ?_ | refine sle_b ?_)
      all_goals first | exact (show nodupB _ = true from rfl) | exact Or.inr rfl | ((symm; unfold chS; rw [show spanB (p.nu.getD 0 0) (p.nu.getD 1 0) = false from decide_eq_false (by assumption)]; simp))
    · simp only [e2] at *
      repeat (first | refine g_ret ?_ | refine q_sr ?_ | refine q_br ?_ | refine q_lr ?_ | refine q_cr ?_)
      refine ends_id ?_
      refine endK [] (h2 := ?_) (h3 := ?_) (nd := ?_)
      all_goals (repeat' first | with_reducible exact SVLe.refl | exact SVLe.any | exact SVLe.one (.sh rfl) | exact SVLe.one (.nil (by decide)) | refine SVLe.agg ?_ | refine SVLe.tup ?_ | exact TLe.nil | refine TLe.cons ?_ ?_ | exact CsLe.nil | refine CsLe.cons ?_ ?_ | exact CLe.refl | exact CLe.sh rfl | exact CLe.nil (by decide) | refine cle_i ?_ | refine cle_b ?_ | exact trivial | refine And.intro ?_ ?_ | exact Or.inl rfl | exact Or.inr rfl | refine Or.inr (row_eq ?_) | (refine Or.inr (bx_eq rfl rfl ?_); (try dsimp only [C.ren, C.ren.all]); (try exact rfl)) | exact SVLe.refl | refine sle_i ?_ | refine sle_b ?_)
      all_goals first | exact (show nodupB _ = true from rfl) | exact Or.inr rfl | ((symm; unfold chS; rw [hc]; simp))
    · repeat' first
        | refine g_seq ?_
        | refine g_skip ?_
        | refine g_exit ?_
        | refine g_block ?_
        | refine g_reg (id := 0) ?_
        | refine g_reg (id := 2) ?_
        | refine g_if_t rfl ?_
        | refine g_if_f rfl ?_
        | refine o_nil ?_
        | refine q_s ?_
        | refine q_se ?_
        | refine q_b ?_
        | refine q_be rfl ?_
        | refine q_bn rfl ?_
        | refine q_le ?_
        | refine q_ce ?_
        | (apply n3; exact a_new (gb := .bx _) rfl; exact rfl; (try dsimp only [List.map_cons, List.map_nil, scC, Nat.reduceAdd]))
        | (apply p3; exact a_pure (sv := .one _) rfl; exact rfl)
        | (apply g_drN (id := 1) okM [[], [], [0, 1], [0, 1, 2], [0, 1, 2, 3], [0, 1, 2, 3, 4], [0, 1, 2, 3, 4, 5], [0, 1, 2, 3, 4, 5, 6], [0, 1, 2, 3, 4, 5, 6, 7], [0, 1, 2, 3, 4], [0, 1, 2, 3, 4, 9], [0, 1, 2, 3, 4, 9, 10], [0, 1, 2, 3, 4, 9, 10, 11], [0, 1, 2, 3, 4, 5, 6, 7, 8, 9, 10, 11, 12], [0, 1, 2, 3, 4, 5, 6, 7, 8, 9, 10, 11, 12, 13], [0, 1, 2, 3, 4, 5, 6, 7, 8, 9, 10, 11, 12, 13, 14], [0, 1, 2, 3, 4, 5, 6, 7, 8, 9, 10, 11, 12, 13, 14, 15], [0, 1, 2, 3, 4, 5, 6, 7, 8, 9, 10, 11, 12, 13, 14, 15, 16], [0, 1, 2, 3, 4, 5, 6, 7, 8, 9, 10, 11, 12, 13, 14, 15, 16, 17], [0, 1, 2, 3, 4, 5, 6, 7, 8, 9, 10, 11, 12, 13, 14, 15, 16, 17, 18], [0, 1, 2, 3, 4, 5, 6, 7, 8, 9, 10, 11, 12, 13, 14, 15, 16, 17, 18, 19], [0, 1, 2, 3, 4, 5, 6, 7, 8, 9, 10, 11, 12, 13, 14, 15, 16, 17, 18, 19, 20], [0, 1, 2, 3, 4, 5, 6, 7, 8, 9, 10, 11, 12, 13, 14, 15, 16, 17, 18, 19, 20, 21]] [([], []), ([], []), ([], []), ([], []), ([], []), ([], []), ([], []), ([], []), ([], []), ([], []), ([], []), ([], []), ([], []), ([], []), ([], []), ([], []), ([], []), ([], []), ([], []), ([], []), ([], []), ([], []), ([], [])] 0; (focus (all_goals refine dp 0 0 [16] [] puL ?_; all_goals refine dp 1 0 [15] [] puL ?_; all_goals refine dp 2 3 [] [] (callD1 (n := _) 0 (θ := []) (hD := (proofOf_ok _ _ _ _ preB38 preB38 preB38 preB38))) ?_; all_goals refine dp 3 7 [] [] (a_pure (sv := .one _) rfl) ?_; all_goals (refine db 4 15 [] [] pu1 ?_ ?_ <;> (intro hc; first | cases hc | (try simp only [decide_eq_true_eq, decide_eq_false_iff_not, Bool.not_eq_true', Bool.not_eq_false', Bool.not_eq_true, Bool.not_eq_false, Bool.and_eq_true, Bool.or_eq_false_iff, Bool.not_not] at hc); first | contradiction | (exfalso; omega) | skip)); all_goals (first | refine dn 5 31 [24, 25, 26, 27] [] ?_ | refine dpy 5 31 [24, 25, 26, 27] [] (a_pure (sv := .one _) rfl) ?_); all_goals (first | refine dn 6 63 [24, 25, 26, 27] [] ?_ | refine dpy 6 63 [24, 25, 26, 27] [] puL ?_); all_goals (first | refine dn 7 127 [24, 25, 26, 27] [] ?_ | refine dpy 7 127 [24, 25, 26, 27] [] puI ?_); all_goals (first | refine dn 8 255 [24, 25, 26, 27] [] ?_ | refine dpy 8 255 [24, 25, 26, 27] [] puL ?_); all_goals (first | refine dn 9 496 [20, 21, 22, 23] [] ?_ | refine dpy 9 496 [20, 21, 22, 23] [] (a_pure (sv := .one _) rfl) ?_); all_goals (first | refine dn 10 993 [20, 21, 22, 23] [] ?_ | refine dpy 10 993 [20, 21, 22, 23] [] puL ?_); all_goals (first | refine dn 11 1987 [20, 21, 22, 23] [] ?_ | refine dpy 11 1987 [20, 21, 22, 23] [] puI ?_); all_goals (first | refine dn 12 3975 [20, 21, 22, 23] [] ?_ | refine dpy 12 3975 [20, 21, 22, 23] [] puL ?_); all_goals (first | refine dn 13 8191 [] [] ?_ | refine dpy 13 8191 [] [] (callD1 (n := _) 0 (θ := []) (hD := (spanOk_ok _ _))) ?_); all_goals (first | refine dn 14 16383 [] [] ?_ | refine dpy 14 16383 [] [] (a_pure (sv := .one _) rfl) ?_); all_goals refine dp 15 32767 [] [] (a_pure (sv := .one _) rfl) ?_; all_goals (refine db 16 65535 [] [] pu1 ?_ ?_ <;> (intro hc; first | cases hc | (try simp only [decide_eq_true_eq, decide_eq_false_iff_not, Bool.not_eq_true', Bool.not_eq_false', Bool.not_eq_true, Bool.not_eq_false, Bool.and_eq_true, Bool.or_eq_false_iff, Bool.not_not] at hc); first | contradiction | (exfalso; omega) | skip)); all_goals (first | refine dn 17 131071 [] [] ?_ | refine dpy 17 131071 [] [] (a_pure (sv := .one _) rfl) ?_); all_goals (first | refine dn 18 262143 [] [] ?_ | refine dpy 18 262143 [] [] puL ?_); all_goals (first | refine dn 19 524287 [] [] ?_ | refine dpy 19 524287 [] [] puI ?_); all_goals (first | refine dn 20 1048575 [] [] ?_ | refine dpy 20 1048575 [] [] puL ?_); all_goals (first | refine dn 21 2097151 [] [] ?_ | refine dpy 21 2097151 [] [] (by first | exact puC | exact a_eqS rfl rfl rfl) ?_); all_goals refine dp 22 4194303 [] [] (a_pure (sv := .one _) rfl) ?_; all_goals (refine d_nil ?_; dsimp only [selT, selH, trues, SV.ren, C.ren, C.ren.all, tRen, GB.ren, calF, upOf, List.cons_append, List.nil_append, Nat.reduceAdd, setRow, List.map_cons, List.map_nil, scC, List.set_cons_zero, List.set_cons_succ, List.take_succ_cons, List.take_zero, List.drop_succ_cons, List.drop_zero]))); any_goals kernel_rfl)
        | (apply g_drN (id := 3) okM [[], [0], [0, 1], [0, 1, 2], [], [4], [4, 5], [4, 5, 6], [], [8], [8, 9], [8, 9, 10], [0, 1, 2, 3], [0, 1, 2, 3, 4, 5, 6, 7, 12], [0, 1, 2, 3, 4, 5, 6, 7, 8, 9, 10, 11, 12, 13]] [([], []), ([], []), ([], []), ([], []), ([], []), ([], []), ([], []), ([], []), ([], []), ([], []), ([], []), ([], []), ([], []), ([], []), ([], [])] 0; (focus (all_goals refine dp 0 0 [42, 43, 44, 45, 46, 47, 48, 49] [] (a_pure (sv := .one _) rfl) ?_; all_goals refine dp 1 1 [42, 43, 44, 45, 46, 47, 48, 49] [] puL ?_; all_goals refine dp 2 3 [42, 43, 44, 45, 46, 47, 48, 49] [] puI ?_; all_goals refine dp 3 7 [42, 43, 44, 45, 46, 47, 48, 49] [] puL ?_; all_goals refine dp 4 0 [38, 39, 40, 41, 46, 47, 48, 49, 5] [] (a_pure (sv := .one _) rfl) ?_; all_goals refine dp 5 1 [38, 39, 40, 41, 46, 47, 48, 49, 5] [] puL ?_; all_goals refine dp 6 3 [38, 39, 40, 41, 46, 47, 48, 49, 5] [] puI ?_; all_goals refine dp 7 7 [38, 39, 40, 41, 46, 47, 48, 49, 5] [] puL ?_; all_goals refine dp 8 0 [38, 39, 40, 41, 42, 43, 44, 45, 5, 6] [] (a_pure (sv := .one _) rfl) ?_; all_goals refine dp 9 1 [38, 39, 40, 41, 42, 43, 44, 45, 5, 6] [] puL ?_; all_goals refine dp 10 3 [38, 39, 40, 41, 42, 43, 44, 45, 5, 6] [] puI ?_; all_goals refine dp 11 7 [38, 39, 40, 41, 42, 43, 44, 45, 5, 6] [] puL ?_; all_goals refine dp 12 3840 [42, 43, 44, 45, 46, 47, 48, 49] [] pu1 ?_; all_goals refine dp 13 8161 [46, 47, 48, 49] [] pu1 ?_; all_goals refine dp 14 16383 [] [] pu1 ?_; all_goals (refine d_nil ?_; dsimp only [selT, selH, trues, SV.ren, C.ren, C.ren.all, tRen, GB.ren, calF, upOf, List.cons_append, List.nil_append, Nat.reduceAdd, setRow, List.map_cons, List.map_nil, scC, List.set_cons_zero, List.set_cons_succ, List.take_succ_cons, List.take_zero, List.drop_succ_cons, List.drop_zero]))); any_goals kernel_rfl)
        | (refine o_gs rfl rfl (fun hc => ?_) (fun hc => ?_) <;> (try simp only [decide_eq_true_eq, decide_eq_false_iff_not, Bool.not_eq_true', Bool.not_eq_false', Bool.not_eq_true, Bool.not_eq_false, Bool.and_eq_true, Bool.or_eq_false_iff, Bool.not_not] at hc) <;> (try (first | contradiction | (exfalso; omega))))
        | (refine g_cond rfl (fun hc => ?_) (fun hc => ?_) <;> (try simp only [decide_eq_true_eq, decide_eq_false_iff_not, Bool.not_eq_true', Bool.not_eq_false', Bool.not_eq_true, Bool.not_eq_false, Bool.and_eq_true, Bool.or_eq_false_iff, Bool.not_not] at hc) <;> (try (first | contradiction | (exfalso; omega))))
      simp only [e0, e1, e2] at *
      have hd0 : ¬ p.nu.getD 2 0 = 0 := hc
      have hsp : (0 ≤ p.nu.getD 0 0 ∧ p.nu.getD 0 0 ≤ 20000) ∧ 1 ≤ p.nu.getD 1 0 ∧ p.nu.getD 1 0 ≤ 20000 - p.nu.getD 0 0 := by assumption
      have hch : chS m p = ((goO m (p.nu.getD 0 0).toNat blank 0).2.2 && shRes (goO m (p.nu.getD 0 0).toNat blank 0).1 (p.nu.getD 2 0) (shO m (p.nu.getD 2 0) (p.nu.getD 1 0).toNat (goO m (p.nu.getD 0 0).toNat blank 0).1 0 0)) := by
        unfold chS
        rw [hf, show spanB (p.nu.getD 0 0) (p.nu.getD 1 0) = true from decide_eq_true hsp, decide_eq_true (p := p.nu.getD 2 0 ≠ 0) hd0]
        rfl
      clear hcs hc
      generalize p.nu.getD 0 0 = a at *
      generalize p.nu.getD 1 0 = b at *
      generalize p.nu.getD 2 0 = d at *
      obtain ⟨q1, q2⟩ := after_go (m := m) a hsp.1.1 blank
      obtain ⟨q3, q4⟩ := after_go (m := m) (a + b) (by omega) blank
      repeat' first
        | refine g_seq ?_
        | refine g_skip ?_
        | refine g_exit ?_
        | refine g_block ?_
        | refine g_reg (id := 0) ?_
        | refine g_reg (id := 2) ?_
        | refine g_reg (id := 4) ?_
        | refine g_reg (id := 5) ?_
        | refine g_if_t rfl ?_
        | refine g_if_f rfl ?_
        | refine o_nil ?_
        | refine q_s ?_
        | refine q_se ?_
        | refine q_b ?_
        | refine q_be rfl ?_
        | refine q_bn rfl ?_
        | refine q_le ?_
        | refine q_ce ?_
        | (apply n3; exact a_new (gb := .bx _) rfl; exact rfl; (try dsimp only [List.map_cons, List.map_nil, scC, Nat.reduceAdd]))
        | (apply p3; (first | exact pu1 | exact puL | exact a_add rfl rfl (by omega) (by omega)); exact rfl)
        | (apply c4 3; exact callK0 (θ := []) (hD := (afterSteps_ok _ _ preB38 preB38)); exact rfl; exact rfl; exact rfl; (try dsimp only [SV.ren, C.ren, C.ren.all, tRen, GB.ren, calF, upOf, List.cons_append, List.nil_append, Nat.reduceAdd]))
        | (apply g_drN (id := 1) okM [[], [], [0, 1], [0, 1, 2], [0, 1, 2, 3], [0, 1, 2, 3, 4], [0, 1, 2, 3, 4, 5], [0, 1, 2, 3, 4, 5, 6], [0, 1, 2, 3, 4, 5, 6, 7], [0, 1, 2, 3, 4], [0, 1, 2, 3, 4, 9], [0, 1, 2, 3, 4, 9, 10], [0, 1, 2, 3, 4, 9, 10, 11], [0, 1, 2, 3, 4, 5, 6, 7, 8, 9, 10, 11, 12], [0, 1, 2, 3, 4, 5, 6, 7, 8, 9, 10, 11, 12, 13], [0, 1, 2, 3, 4, 5, 6, 7, 8, 9, 10, 11, 12, 13, 14], [0, 1, 2, 3, 4, 5, 6, 7, 8, 9, 10, 11, 12, 13, 14, 15], [0, 1, 2, 3, 4, 5, 6, 7, 8, 9, 10, 11, 12, 13, 14, 15, 16], [0, 1, 2, 3, 4, 5, 6, 7, 8, 9, 10, 11, 12, 13, 14, 15, 16, 17], [0, 1, 2, 3, 4, 5, 6, 7, 8, 9, 10, 11, 12, 13, 14, 15, 16, 17, 18], [0, 1, 2, 3, 4, 5, 6, 7, 8, 9, 10, 11, 12, 13, 14, 15, 16, 17, 18, 19], [0, 1, 2, 3, 4, 5, 6, 7, 8, 9, 10, 11, 12, 13, 14, 15, 16, 17, 18, 19, 20], [0, 1, 2, 3, 4, 5, 6, 7, 8, 9, 10, 11, 12, 13, 14, 15, 16, 17, 18, 19, 20, 21]] [([], []), ([], []), ([], []), ([], []), ([], []), ([], []), ([], []), ([], []), ([], []), ([], []), ([], []), ([], []), ([], []), ([], []), ([], []), ([], []), ([], []), ([], []), ([], []), ([], []), ([], []), ([], []), ([], [])] 0; (focus (all_goals refine dp 0 0 [16] [] puL ?_; all_goals refine dp 1 0 [15] [] puL ?_; all_goals refine dp 2 3 [] [] (callD1 (n := _) 0 (θ := []) (hD := (proofOf_ok _ _ _ _ preB38 preB38 preB38 preB38))) ?_; all_goals refine dp 3 7 [] [] (a_pure (sv := .one _) rfl) ?_; all_goals (refine db 4 15 [] [] pu1 ?_ ?_ <;> (intro hc; first | cases hc | (try simp only [decide_eq_true_eq, decide_eq_false_iff_not, Bool.not_eq_true', Bool.not_eq_false', Bool.not_eq_true, Bool.not_eq_false, Bool.and_eq_true, Bool.or_eq_false_iff, Bool.not_not] at hc); first | contradiction | (exfalso; omega) | skip)); all_goals (first | refine dn 5 31 [24, 25, 26, 27] [] ?_ | refine dpy 5 31 [24, 25, 26, 27] [] (a_pure (sv := .one _) rfl) ?_); all_goals (first | refine dn 6 63 [24, 25, 26, 27] [] ?_ | refine dpy 6 63 [24, 25, 26, 27] [] puL ?_); all_goals (first | refine dn 7 127 [24, 25, 26, 27] [] ?_ | refine dpy 7 127 [24, 25, 26, 27] [] puI ?_); all_goals (first | refine dn 8 255 [24, 25, 26, 27] [] ?_ | refine dpy 8 255 [24, 25, 26, 27] [] puL ?_); all_goals (first | refine dn 9 496 [20, 21, 22, 23] [] ?_ | refine dpy 9 496 [20, 21, 22, 23] [] (a_pure (sv := .one _) rfl) ?_); all_goals (first | refine dn 10 993 [20, 21, 22, 23] [] ?_ | refine dpy 10 993 [20, 21, 22, 23] [] puL ?_); all_goals (first | refine dn 11 1987 [20, 21, 22, 23] [] ?_ | refine dpy 11 1987 [20, 21, 22, 23] [] puI ?_); all_goals (first | refine dn 12 3975 [20, 21, 22, 23] [] ?_ | refine dpy 12 3975 [20, 21, 22, 23] [] puL ?_); all_goals (first | refine dn 13 8191 [] [] ?_ | refine dpy 13 8191 [] [] (callD1 (n := _) 0 (θ := []) (hD := (spanOk_ok _ _))) ?_); all_goals (first | refine dn 14 16383 [] [] ?_ | refine dpy 14 16383 [] [] (a_pure (sv := .one _) rfl) ?_); all_goals refine dp 15 32767 [] [] (a_pure (sv := .one _) rfl) ?_; all_goals (refine db 16 65535 [] [] pu1 ?_ ?_ <;> (intro hc; first | cases hc | (try simp only [decide_eq_true_eq, decide_eq_false_iff_not, Bool.not_eq_true', Bool.not_eq_false', Bool.not_eq_true, Bool.not_eq_false, Bool.and_eq_true, Bool.or_eq_false_iff, Bool.not_not] at hc); first | contradiction | (exfalso; omega) | skip)); all_goals (first | refine dn 17 131071 [] [] ?_ | refine dpy 17 131071 [] [] (a_pure (sv := .one _) rfl) ?_); all_goals (first | refine dn 18 262143 [] [] ?_ | refine dpy 18 262143 [] [] puL ?_); all_goals (first | refine dn 19 524287 [] [] ?_ | refine dpy 19 524287 [] [] puI ?_); all_goals (first | refine dn 20 1048575 [] [] ?_ | refine dpy 20 1048575 [] [] puL ?_); all_goals (first | refine dn 21 2097151 [] [] ?_ | refine dpy 21 2097151 [] [] (by first | exact puC | exact a_eqS rfl rfl rfl) ?_); all_goals refine dp 22 4194303 [] [] (a_pure (sv := .one _) rfl) ?_; all_goals (refine d_nil ?_; dsimp only [selT, selH, trues, SV.ren, C.ren, C.ren.all, tRen, GB.ren, calF, upOf, List.cons_append, List.nil_append, Nat.reduceAdd, setRow, List.map_cons, List.map_nil, scC, List.set_cons_zero, List.set_cons_succ, List.take_succ_cons, List.take_zero, List.drop_succ_cons, List.drop_zero]))); any_goals kernel_rfl)
        | (apply g_drN (id := 3) okM [[], [0], [0, 1], [0, 1, 2], [], [4], [4, 5], [4, 5, 6], [], [8], [8, 9], [8, 9, 10], [0, 1, 2, 3], [0, 1, 2, 3, 4, 5, 6, 7, 12], [0, 1, 2, 3, 4, 5, 6, 7, 8, 9, 10, 11, 12, 13]] [([], []), ([], []), ([], []), ([], []), ([], []), ([], []), ([], []), ([], []), ([], []), ([], []), ([], []), ([], []), ([], []), ([], []), ([], [])] 0; (focus (all_goals refine dp 0 0 [42, 43, 44, 45, 46, 47, 48, 49] [] (a_pure (sv := .one _) rfl) ?_; all_goals refine dp 1 1 [42, 43, 44, 45, 46, 47, 48, 49] [] puL ?_; all_goals refine dp 2 3 [42, 43, 44, 45, 46, 47, 48, 49] [] puI ?_; all_goals refine dp 3 7 [42, 43, 44, 45, 46, 47, 48, 49] [] puL ?_; all_goals refine dp 4 0 [38, 39, 40, 41, 46, 47, 48, 49, 5] [] (a_pure (sv := .one _) rfl) ?_; all_goals refine dp 5 1 [38, 39, 40, 41, 46, 47, 48, 49, 5] [] puL ?_; all_goals refine dp 6 3 [38, 39, 40, 41, 46, 47, 48, 49, 5] [] puI ?_; all_goals refine dp 7 7 [38, 39, 40, 41, 46, 47, 48, 49, 5] [] puL ?_; all_goals refine dp 8 0 [38, 39, 40, 41, 42, 43, 44, 45, 5, 6] [] (a_pure (sv := .one _) rfl) ?_; all_goals refine dp 9 1 [38, 39, 40, 41, 42, 43, 44, 45, 5, 6] [] puL ?_; all_goals refine dp 10 3 [38, 39, 40, 41, 42, 43, 44, 45, 5, 6] [] puI ?_; all_goals refine dp 11 7 [38, 39, 40, 41, 42, 43, 44, 45, 5, 6] [] puL ?_; all_goals refine dp 12 3840 [42, 43, 44, 45, 46, 47, 48, 49] [] pu1 ?_; all_goals refine dp 13 8161 [46, 47, 48, 49] [] pu1 ?_; all_goals refine dp 14 16383 [] [] pu1 ?_; all_goals (refine d_nil ?_; dsimp only [selT, selH, trues, SV.ren, C.ren, C.ren.all, tRen, GB.ren, calF, upOf, List.cons_append, List.nil_append, Nat.reduceAdd, setRow, List.map_cons, List.map_nil, scC, List.set_cons_zero, List.set_cons_succ, List.take_succ_cons, List.take_zero, List.drop_succ_cons, List.drop_zero]))); any_goals kernel_rfl)
        | (refine o_gs rfl rfl (fun hc => ?_) (fun hc => ?_) <;> (try simp only [decide_eq_true_eq, decide_eq_false_iff_not, Bool.not_eq_true', Bool.not_eq_false', Bool.not_eq_true, Bool.not_eq_false, Bool.and_eq_true, Bool.or_eq_false_iff, Bool.not_not] at hc) <;> (try (first | contradiction | (exfalso; omega))))
        | (refine g_cond rfl (fun hc => ?_) (fun hc => ?_) <;> (try simp only [decide_eq_true_eq, decide_eq_false_iff_not, Bool.not_eq_true', Bool.not_eq_false', Bool.not_eq_true, Bool.not_eq_false, Bool.and_eq_true, Bool.or_eq_false_iff, Bool.not_not] at hc) <;> (try (first | contradiction | (exfalso; omega))))
      simp only [q1, q3]
      rw [hch]
      cases g1 : (goO m a.toNat blank 0).2.2
      · repeat' first
          | refine g_seq ?_
          | refine g_skip ?_
          | refine g_exit ?_
          | refine g_block ?_
          | refine g_reg ?_
          | refine g_if_t rfl ?_
          | refine g_if_f rfl ?_
          | refine o_nil ?_
          | refine q_s ?_
          | refine q_se ?_
          | refine q_b ?_
          | refine q_be rfl ?_
          | refine q_bn rfl ?_
          | refine q_le ?_
          | refine q_ce ?_
          | (apply n3; exact a_new (gb := .bx _) rfl; exact rfl; (try dsimp only [List.map_cons, List.map_nil, scC, Nat.reduceAdd]))
          | (apply p3; (first | exact pu1 | exact puL | exact a_add rfl rfl (by omega) (by omega)); exact rfl)
          | (apply c4 3; exact callK0 (θ := []) (hD := (afterSteps_ok _ _ preB38 preB38)); exact rfl; exact rfl; exact rfl; (try dsimp only [SV.ren, C.ren, C.ren.all, tRen, GB.ren, calF, upOf, List.cons_append, List.nil_append, Nat.reduceAdd]))
          | (apply c4 3; exact callK0 (θ := []) (hD := (tracked_ok m _ hv preB38 preB38)); exact rfl; exact rfl; exact rfl; (try dsimp only [SV.ren, C.ren, C.ren.all, tRen, GB.ren, calF, upOf, List.cons_append, List.nil_append, Nat.reduceAdd]))
          | refine o_no rfl rfl rfl rfl ?_
          | refine o_noN rfl rfl rfl ?_
          | (apply py3; exact rfl; exact rfl; (first | exact pu1 | exact puL | exact a_add rfl rfl (by omega) (by omega)); exact rfl; exact rfl)
          | (apply ny3; exact rfl; exact rfl; exact a_new (gb := .bx _) rfl; exact rfl; exact rfl)
          | (apply cy4 3; exact rfl; exact rfl; exact callK0 (θ := []) (hD := (afterSteps_ok _ _ preB38 preB38)); exact rfl; exact rfl; exact rfl; exact rfl; (try dsimp only [SV.ren, C.ren, C.ren.all, tRen, GB.ren, calF, upOf, List.cons_append, List.nil_append, Nat.reduceAdd]))
          | (apply cy4 3; exact rfl; exact rfl; exact callK0 (θ := []) (hD := (tracked_ok m _ hv preB38 preB38)); exact rfl; exact rfl; exact rfl; exact rfl; (try dsimp only [SV.ren, C.ren, C.ren.all, tRen, GB.ren, calF, upOf, List.cons_append, List.nil_append, Nat.reduceAdd]))
          | (apply g_drN (id := 1) okM [[], [], [0, 1], [0, 1, 2], [0, 1, 2, 3], [0, 1, 2, 3, 4], [0, 1, 2, 3, 4, 5], [0, 1, 2, 3, 4, 5, 6], [0, 1, 2, 3, 4, 5, 6, 7], [0, 1, 2, 3, 4], [0, 1, 2, 3, 4, 9], [0, 1, 2, 3, 4, 9, 10], [0, 1, 2, 3, 4, 9, 10, 11], [0, 1, 2, 3, 4, 5, 6, 7, 8, 9, 10, 11, 12], [0, 1, 2, 3, 4, 5, 6, 7, 8, 9, 10, 11, 12, 13], [0, 1, 2, 3, 4, 5, 6, 7, 8, 9, 10, 11, 12, 13, 14], [0, 1, 2, 3, 4, 5, 6, 7, 8, 9, 10, 11, 12, 13, 14, 15], [0, 1, 2, 3, 4, 5, 6, 7, 8, 9, 10, 11, 12, 13, 14, 15, 16], [0, 1, 2, 3, 4, 5, 6, 7, 8, 9, 10, 11, 12, 13, 14, 15, 16, 17], [0, 1, 2, 3, 4, 5, 6, 7, 8, 9, 10, 11, 12, 13, 14, 15, 16, 17, 18], [0, 1, 2, 3, 4, 5, 6, 7, 8, 9, 10, 11, 12, 13, 14, 15, 16, 17, 18, 19], [0, 1, 2, 3, 4, 5, 6, 7, 8, 9, 10, 11, 12, 13, 14, 15, 16, 17, 18, 19, 20], [0, 1, 2, 3, 4, 5, 6, 7, 8, 9, 10, 11, 12, 13, 14, 15, 16, 17, 18, 19, 20, 21]] [([], []), ([], []), ([], []), ([], []), ([], []), ([], []), ([], []), ([], []), ([], []), ([], []), ([], []), ([], []), ([], []), ([], []), ([], []), ([], []), ([], []), ([], []), ([], []), ([], []), ([], []), ([], []), ([], [])] 0; (focus (all_goals refine dp 0 0 [16] [] puL ?_; all_goals refine dp 1 0 [15] [] puL ?_; all_goals refine dp 2 3 [] [] (callD1 (n := _) 0 (θ := []) (hD := (proofOf_ok _ _ _ _ preB38 preB38 preB38 preB38))) ?_; all_goals refine dp 3 7 [] [] (a_pure (sv := .one _) rfl) ?_; all_goals (refine db 4 15 [] [] pu1 ?_ ?_ <;> (intro hc; first | cases hc | (try simp only [decide_eq_true_eq, decide_eq_false_iff_not, Bool.not_eq_true', Bool.not_eq_false', Bool.not_eq_true, Bool.not_eq_false, Bool.and_eq_true, Bool.or_eq_false_iff, Bool.not_not] at hc); first | contradiction | (exfalso; omega) | skip)); all_goals (first | refine dn 5 31 [24, 25, 26, 27] [] ?_ | refine dpy 5 31 [24, 25, 26, 27] [] (a_pure (sv := .one _) rfl) ?_); all_goals (first | refine dn 6 63 [24, 25, 26, 27] [] ?_ | refine dpy 6 63 [24, 25, 26, 27] [] puL ?_); all_goals (first | refine dn 7 127 [24, 25, 26, 27] [] ?_ | refine dpy 7 127 [24, 25, 26, 27] [] puI ?_); all_goals (first | refine dn 8 255 [24, 25, 26, 27] [] ?_ | refine dpy 8 255 [24, 25, 26, 27] [] puL ?_); all_goals (first | refine dn 9 496 [20, 21, 22, 23] [] ?_ | refine dpy 9 496 [20, 21, 22, 23] [] (a_pure (sv := .one _) rfl) ?_); all_goals (first | refine dn 10 993 [20, 21, 22, 23] [] ?_ | refine dpy 10 993 [20, 21, 22, 23] [] puL ?_); all_goals (first | refine dn 11 1987 [20, 21, 22, 23] [] ?_ | refine dpy 11 1987 [20, 21, 22, 23] [] puI ?_); all_goals (first | refine dn 12 3975 [20, 21, 22, 23] [] ?_ | refine dpy 12 3975 [20, 21, 22, 23] [] puL ?_); all_goals (first | refine dn 13 8191 [] [] ?_ | refine dpy 13 8191 [] [] (callD1 (n := _) 0 (θ := []) (hD := (spanOk_ok _ _))) ?_); all_goals (first | refine dn 14 16383 [] [] ?_ | refine dpy 14 16383 [] [] (a_pure (sv := .one _) rfl) ?_); all_goals refine dp 15 32767 [] [] (a_pure (sv := .one _) rfl) ?_; all_goals (refine db 16 65535 [] [] pu1 ?_ ?_ <;> (intro hc; first | cases hc | (try simp only [decide_eq_true_eq, decide_eq_false_iff_not, Bool.not_eq_true', Bool.not_eq_false', Bool.not_eq_true, Bool.not_eq_false, Bool.and_eq_true, Bool.or_eq_false_iff, Bool.not_not] at hc); first | contradiction | (exfalso; omega) | skip)); all_goals (first | refine dn 17 131071 [] [] ?_ | refine dpy 17 131071 [] [] (a_pure (sv := .one _) rfl) ?_); all_goals (first | refine dn 18 262143 [] [] ?_ | refine dpy 18 262143 [] [] puL ?_); all_goals (first | refine dn 19 524287 [] [] ?_ | refine dpy 19 524287 [] [] puI ?_); all_goals (first | refine dn 20 1048575 [] [] ?_ | refine dpy 20 1048575 [] [] puL ?_); all_goals (first | refine dn 21 2097151 [] [] ?_ | refine dpy 21 2097151 [] [] (by first | exact puC | exact a_eqS rfl rfl rfl) ?_); all_goals refine dp 22 4194303 [] [] (a_pure (sv := .one _) rfl) ?_; all_goals (refine d_nil ?_; dsimp only [selT, selH, trues, SV.ren, C.ren, C.ren.all, tRen, GB.ren, calF, upOf, List.cons_append, List.nil_append, Nat.reduceAdd, setRow, List.map_cons, List.map_nil, scC, List.set_cons_zero, List.set_cons_succ, List.take_succ_cons, List.take_zero, List.drop_succ_cons, List.drop_zero]))); any_goals kernel_rfl)
          | (apply g_drN (id := 3) okM [[], [0], [0, 1], [0, 1, 2], [], [4], [4, 5], [4, 5, 6], [], [8], [8, 9], [8, 9, 10], [0, 1, 2, 3], [0, 1, 2, 3, 4, 5, 6, 7, 12], [0, 1, 2, 3, 4, 5, 6, 7, 8, 9, 10, 11, 12, 13]] [([], []), ([], []), ([], []), ([], []), ([], []), ([], []), ([], []), ([], []), ([], []), ([], []), ([], []), ([], []), ([], []), ([], []), ([], [])] 0; (focus (all_goals refine dp 0 0 [42, 43, 44, 45, 46, 47, 48, 49] [] (a_pure (sv := .one _) rfl) ?_; all_goals refine dp 1 1 [42, 43, 44, 45, 46, 47, 48, 49] [] puL ?_; all_goals refine dp 2 3 [42, 43, 44, 45, 46, 47, 48, 49] [] puI ?_; all_goals refine dp 3 7 [42, 43, 44, 45, 46, 47, 48, 49] [] puL ?_; all_goals refine dp 4 0 [38, 39, 40, 41, 46, 47, 48, 49, 5] [] (a_pure (sv := .one _) rfl) ?_; all_goals refine dp 5 1 [38, 39, 40, 41, 46, 47, 48, 49, 5] [] puL ?_; all_goals refine dp 6 3 [38, 39, 40, 41, 46, 47, 48, 49, 5] [] puI ?_; all_goals refine dp 7 7 [38, 39, 40, 41, 46, 47, 48, 49, 5] [] puL ?_; all_goals refine dp 8 0 [38, 39, 40, 41, 42, 43, 44, 45, 5, 6] [] (a_pure (sv := .one _) rfl) ?_; all_goals refine dp 9 1 [38, 39, 40, 41, 42, 43, 44, 45, 5, 6] [] puL ?_; all_goals refine dp 10 3 [38, 39, 40, 41, 42, 43, 44, 45, 5, 6] [] puI ?_; all_goals refine dp 11 7 [38, 39, 40, 41, 42, 43, 44, 45, 5, 6] [] puL ?_; all_goals refine dp 12 3840 [42, 43, 44, 45, 46, 47, 48, 49] [] pu1 ?_; all_goals refine dp 13 8161 [46, 47, 48, 49] [] pu1 ?_; all_goals refine dp 14 16383 [] [] pu1 ?_; all_goals (refine d_nil ?_; dsimp only [selT, selH, trues, SV.ren, C.ren, C.ren.all, tRen, GB.ren, calF, upOf, List.cons_append, List.nil_append, Nat.reduceAdd, setRow, List.map_cons, List.map_nil, scC, List.set_cons_zero, List.set_cons_succ, List.take_succ_cons, List.take_zero, List.drop_succ_cons, List.drop_zero]))); any_goals kernel_rfl)
          | (apply g_drN (id := 9) okM [[], [0], [0, 1], [0, 1, 2], [0, 1, 2, 3], [], [], [5, 6], [0, 1, 2, 3, 4, 5, 6, 7], [0, 1, 2, 3, 4, 5, 6, 7, 8], [], [10], [10, 11], [10, 11, 12], [10, 11, 12, 13], [], [10, 11, 12, 13, 14, 15], [10, 11, 12, 13, 14, 15, 16], [0, 1, 2, 3, 4, 5, 6, 7, 8, 9, 10, 11, 12, 13, 14, 15, 16, 17], [], [0, 1, 2, 3, 4, 5, 6, 7, 8, 9, 10, 11, 12, 13, 14, 15, 16, 17, 18, 19]] [([], []), ([], []), ([], []), ([], []), ([], []), ([], []), ([], []), ([], []), ([], []), ([], []), ([], []), ([], []), ([], []), ([], []), ([], []), ([], []), ([], []), ([], []), ([], []), ([], []), ([], [])] 0; (focus (all_goals refine dp 0 0 [84, 85, 86, 89, 90, 91, 92, 93, 94, 95, 96, 98] [] pu1 ?_; all_goals refine dp 1 1 [84, 85, 86, 89, 90, 91, 92, 93, 94, 95, 96, 98] [] (a_pure (sv := .one _) rfl) ?_; all_goals refine dp 2 3 [84, 85, 86, 89, 90, 91, 92, 93, 94, 95, 96, 98] [] (a_pure (sv := .one _) rfl) ?_; all_goals refine dp 3 7 [84, 85, 86, 89, 90, 91, 92, 93, 94, 95, 96, 98] [] (a_pure (sv := .one _) rfl) ?_; all_goals refine dp 4 15 [84, 85, 86, 89, 90, 91, 92, 93, 94, 95, 96, 98] [] puL ?_; all_goals refine dp 5 0 [79, 80, 81, 82, 83, 85, 89, 90, 91, 92, 93, 94, 95, 96, 98] [] pu1 ?_; all_goals refine dp 6 0 [79, 80, 81, 82, 83, 84, 89, 90, 91, 92, 93, 94, 95, 96, 98] [] pu1 ?_; all_goals refine dp 7 3 [79, 80, 81, 82, 83, 89, 90, 91, 92, 93, 94, 95, 96, 98] [] (a_add rfl rfl (by omega) (by omega)) ?_; all_goals refine dp 8 255 [89, 90, 91, 92, 93, 94, 95, 96, 98] [] puI ?_; all_goals refine dp 9 511 [89, 90, 91, 92, 93, 94, 95, 96, 98] [] puL ?_; all_goals refine dp 10 0 [79, 80, 81, 82, 83, 84, 85, 86, 87, 88, 94, 98] [] pu1 ?_; all_goals refine dp 11 1 [79, 80, 81, 82, 83, 84, 85, 86, 87, 88, 94, 98] [] (a_pure (sv := .one _) rfl) ?_; all_goals refine dp 12 3 [79, 80, 81, 82, 83, 84, 85, 86, 87, 88, 94, 98] [] (a_pure (sv := .one _) rfl) ?_; all_goals refine dp 13 7 [79, 80, 81, 82, 83, 84, 85, 86, 87, 88, 94, 98] [] (a_pure (sv := .one _) rfl) ?_; all_goals refine dp 14 15 [79, 80, 81, 82, 83, 84, 85, 86, 87, 88, 94, 98] [] puL ?_; all_goals refine dp 15 0 [79, 80, 81, 82, 83, 84, 85, 86, 87, 88, 89, 90, 91, 92, 93, 98] [] pu1 ?_; all_goals refine dp 16 63 [79, 80, 81, 82, 83, 84, 85, 86, 87, 88, 98] [] puI ?_; all_goals refine dp 17 127 [79, 80, 81, 82, 83, 84, 85, 86, 87, 88, 98] [] puL ?_; all_goals refine dp 18 262143 [98] [] (a_sub rfl rfl (by omega) (by omega)) ?_; all_goals refine dp 19 0 [79, 80, 81, 82, 83, 84, 85, 86, 87, 88, 89, 90, 91, 92, 93, 94, 95, 96, 97] [] pu1 ?_; all_goals refine dp 20 1048575 [] [] (by first | exact a_ne rfl rfl | exact a_neS rfl rfl rfl) ?_; all_goals (refine d_nil ?_; dsimp only [selT, selH, trues, SV.ren, C.ren, C.ren.all, tRen, GB.ren, calF, upOf, List.cons_append, List.nil_append, Nat.reduceAdd, setRow, List.map_cons, List.map_nil, scC, List.set_cons_zero, List.set_cons_succ, List.take_succ_cons, List.take_zero, List.drop_succ_cons, List.drop_zero]))); any_goals kernel_rfl)
          | (apply g_drN (id := 11) okM [[], [0], [], [0, 1, 2], [], [], [5], [5, 6], [5, 6, 7], [5, 6, 7, 8], [], [], [], [11, 12], [11, 12, 13], [5, 6, 7, 8, 9, 10, 11, 12, 13, 14], [], [0, 1, 2, 3, 5, 6, 7, 8, 9, 10, 11, 12, 13, 14, 15, 16], [0, 1, 2, 3, 4, 5, 6, 7, 8, 9, 10, 11, 12, 13, 14, 15, 16, 17], [0, 1, 2, 3, 4, 5, 6, 7, 8, 9, 10, 11, 12, 13, 14, 15, 16, 17, 18]] [([], []), ([], []), ([], []), ([], []), ([], []), ([], []), ([], []), ([], []), ([], []), ([], []), ([], []), ([], []), ([], []), ([], []), ([], []), ([], []), ([], []), ([], []), ([], []), ([], [])] 0; (focus (all_goals refine dp 0 0 [102, 104, 105, 106, 107, 108, 109, 110, 111, 112, 113, 114, 115, 116] [] pu1 ?_; all_goals refine dp 1 1 [102, 104, 105, 106, 107, 108, 109, 110, 111, 112, 113, 114, 115, 116] [] (callFD 0 (hD := (configC_ok _ _ preB38 preB38))) ?_; all_goals refine dp 2 0 [100, 101, 104, 105, 106, 107, 108, 109, 110, 111, 112, 113, 114, 115, 116] [] pu1 ?_; all_goals refine dp 3 7 [104, 105, 106, 107, 108, 109, 110, 111, 112, 113, 114, 115, 116] [] (callFD 0 (hD := (configC_ok _ _ preB38 preB38))) ?_; all_goals refine dp 4 0 [100, 101, 102, 103, 105, 106, 107, 108, 109, 110, 111, 112, 113, 114, 115, 116, 117] [] pu1 ?_; all_goals refine dp 5 0 [100, 101, 102, 103, 104, 110, 111, 112, 113, 114, 116] [] pu1 ?_; all_goals refine dp 6 1 [100, 101, 102, 103, 104, 110, 111, 112, 113, 114, 116] [] (a_pure (sv := .one _) rfl) ?_; all_goals refine dp 7 3 [100, 101, 102, 103, 104, 110, 111, 112, 113, 114, 116] [] (a_pure (sv := .one _) rfl) ?_; all_goals refine dp 8 7 [100, 101, 102, 103, 104, 110, 111, 112, 113, 114, 116] [] (a_pure (sv := .one _) rfl) ?_; all_goals refine dp 9 15 [100, 101, 102, 103, 104, 110, 111, 112, 113, 114, 116] [] puL ?_; all_goals refine dp 10 0 [100, 101, 102, 103, 104, 105, 106, 107, 108, 109, 111, 112, 113, 114, 116] [] pu1 ?_; all_goals refine dp 11 0 [100, 101, 102, 103, 104, 105, 106, 107, 108, 109, 110, 112, 116] [] pu1 ?_; all_goals refine dp 12 0 [100, 101, 102, 103, 104, 105, 106, 107, 108, 109, 110, 111, 116] [] pu1 ?_; all_goals refine dp 13 3 [100, 101, 102, 103, 104, 105, 106, 107, 108, 109, 110, 116] [] (a_add rfl rfl (by omega) (by omega)) ?_; all_goals refine dp 14 7 [100, 101, 102, 103, 104, 105, 106, 107, 108, 109, 110, 116] [] (a_add rfl rfl (by omega) (by omega)) ?_; all_goals refine dp 15 1023 [100, 101, 102, 103, 104, 116] [] (a_slM rfl rfl rfl rfl (fS rfl) (by omega) (by omega) (by omega) (by exact rfl)) ?_; all_goals refine dp 16 0 [100, 101, 102, 103, 104, 105, 106, 107, 108, 109, 110, 111, 112, 113, 114, 115] [] pu1 ?_; all_goals refine dp 17 126975 [104] [] (callD1 (n := _) 0 (θ := []) (hD := (behindHead_ok _ _ preB38 preB38 preB38 preB38 preB38 preB38 preB38 preB38))) ?_; all_goals refine dp 18 262143 [] [] (callD1 (n := _) 0 (θ := []) (hD := (shiftFits_ok _ _ _ _ preB38 preB38 preB38 preB38 preB38 preB38))) ?_; all_goals refine dp 19 524287 [] [] pu1 ?_; all_goals (refine d_nil ?_; dsimp only [selT, selH, trues, SV.ren, C.ren, C.ren.all, tRen, GB.ren, calF, upOf, List.cons_append, List.nil_append, Nat.reduceAdd, setRow, List.map_cons, List.map_nil, scC, List.set_cons_zero, List.set_cons_succ, List.take_succ_cons, List.take_zero, List.drop_succ_cons, List.drop_zero]))); any_goals kernel_rfl)
          | (refine o_gs rfl rfl (fun hc => ?_) (fun hc => ?_) <;> (try simp only [decide_eq_true_eq, decide_eq_false_iff_not, Bool.not_eq_true', Bool.not_eq_false', Bool.not_eq_true, Bool.not_eq_false, Bool.and_eq_true, Bool.or_eq_false_iff, Bool.not_not] at hc) <;> (try (first | contradiction | (exfalso; omega))))
          | (refine g_cond rfl (fun hc => ?_) (fun hc => ?_) <;> (try simp only [decide_eq_true_eq, decide_eq_false_iff_not, Bool.not_eq_true', Bool.not_eq_false', Bool.not_eq_true, Bool.not_eq_false, Bool.and_eq_true, Bool.or_eq_false_iff, Bool.not_not] at hc) <;> (try (first | contradiction | (exfalso; omega))))
        repeat (first | refine g_ret ?_ | refine q_sr ?_ | refine q_br ?_ | refine q_lr ?_ | refine q_cr ?_)
        refine ends_id ?_
        refine endK [] (h2 := ?_) (h3 := ?_) (nd := ?_)
        all_goals (repeat' first | with_reducible exact SVLe.refl | exact SVLe.any | exact SVLe.one (.sh rfl) | exact SVLe.one (.nil (by decide)) | refine SVLe.agg ?_ | refine SVLe.tup ?_ | exact TLe.nil | refine TLe.cons ?_ ?_ | exact CsLe.nil | refine CsLe.cons ?_ ?_ | exact CLe.refl | exact CLe.sh rfl | exact CLe.nil (by decide) | refine cle_i ?_ | refine cle_b ?_ | exact trivial | refine And.intro ?_ ?_ | exact Or.inl rfl | exact Or.inr rfl | refine Or.inr (row_eq ?_) | (refine Or.inr (bx_eq rfl rfl ?_); (try dsimp only [C.ren, C.ren.all]); (try exact rfl)) | exact SVLe.refl | refine sle_i ?_ | refine sle_b ?_)
        all_goals first | exact (show nodupB _ = true from rfl) | exact Or.inr rfl | (rfl)
      · have hadd := go_add (m := m) a.toNat b.toNat blank 0 g1
        rw [show a.toNat + b.toNat = (a + b).toNat by omega] at hadd
        rw [sh_go d b.toNat _ (goO m a.toNat blank 0).2.1, ← hadd]
        simp only [Bool.true_and]
        cases g2 : (goO m (a + b).toNat blank 0).2.2
        · repeat' first
            | refine g_seq ?_
            | refine g_skip ?_
            | refine g_exit ?_
            | refine g_block ?_
            | refine g_reg ?_
            | refine g_if_t rfl ?_
            | refine g_if_f rfl ?_
            | refine o_nil ?_
            | refine q_s ?_
            | refine q_se ?_
            | refine q_b ?_
            | refine q_be rfl ?_
            | refine q_bn rfl ?_
            | refine q_le ?_
            | refine q_ce ?_
            | (apply n3; exact a_new (gb := .bx _) rfl; exact rfl; (try dsimp only [List.map_cons, List.map_nil, scC, Nat.reduceAdd]))
            | (apply p3; (first | exact pu1 | exact puL | exact a_add rfl rfl (by omega) (by omega)); exact rfl)
            | (apply c4 3; exact callK0 (θ := []) (hD := (afterSteps_ok _ _ preB38 preB38)); exact rfl; exact rfl; exact rfl; (try dsimp only [SV.ren, C.ren, C.ren.all, tRen, GB.ren, calF, upOf, List.cons_append, List.nil_append, Nat.reduceAdd]))
            | (apply c4 3; exact callK0 (θ := []) (hD := (tracked_ok m _ hv preB38 preB38)); exact rfl; exact rfl; exact rfl; (try dsimp only [SV.ren, C.ren, C.ren.all, tRen, GB.ren, calF, upOf, List.cons_append, List.nil_append, Nat.reduceAdd]))
            | refine o_no rfl rfl rfl rfl ?_
            | refine o_noN rfl rfl rfl ?_
            | (apply py3; exact rfl; exact rfl; (first | exact pu1 | exact puL | exact a_add rfl rfl (by omega) (by omega)); exact rfl; exact rfl)
            | (apply ny3; exact rfl; exact rfl; exact a_new (gb := .bx _) rfl; exact rfl; exact rfl)
            | (apply cy4 3; exact rfl; exact rfl; exact callK0 (θ := []) (hD := (afterSteps_ok _ _ preB38 preB38)); exact rfl; exact rfl; exact rfl; exact rfl; (try dsimp only [SV.ren, C.ren, C.ren.all, tRen, GB.ren, calF, upOf, List.cons_append, List.nil_append, Nat.reduceAdd]))
            | (apply cy4 3; exact rfl; exact rfl; exact callK0 (θ := []) (hD := (tracked_ok m _ hv preB38 preB38)); exact rfl; exact rfl; exact rfl; exact rfl; (try dsimp only [SV.ren, C.ren, C.ren.all, tRen, GB.ren, calF, upOf, List.cons_append, List.nil_append, Nat.reduceAdd]))
            | (apply g_drN (id := 1) okM [[], [], [0, 1], [0, 1, 2], [0, 1, 2, 3], [0, 1, 2, 3, 4], [0, 1, 2, 3, 4, 5], [0, 1, 2, 3, 4, 5, 6], [0, 1, 2, 3, 4, 5, 6, 7], [0, 1, 2, 3, 4], [0, 1, 2, 3, 4, 9], [0, 1, 2, 3, 4, 9, 10], [0, 1, 2, 3, 4, 9, 10, 11], [0, 1, 2, 3, 4, 5, 6, 7, 8, 9, 10, 11, 12], [0, 1, 2, 3, 4, 5, 6, 7, 8, 9, 10, 11, 12, 13], [0, 1, 2, 3, 4, 5, 6, 7, 8, 9, 10, 11, 12, 13, 14], [0, 1, 2, 3, 4, 5, 6, 7, 8, 9, 10, 11, 12, 13, 14, 15], [0, 1, 2, 3, 4, 5, 6, 7, 8, 9, 10, 11, 12, 13, 14, 15, 16], [0, 1, 2, 3, 4, 5, 6, 7, 8, 9, 10, 11, 12, 13, 14, 15, 16, 17], [0, 1, 2, 3, 4, 5, 6, 7, 8, 9, 10, 11, 12, 13, 14, 15, 16, 17, 18], [0, 1, 2, 3, 4, 5, 6, 7, 8, 9, 10, 11, 12, 13, 14, 15, 16, 17, 18, 19], [0, 1, 2, 3, 4, 5, 6, 7, 8, 9, 10, 11, 12, 13, 14, 15, 16, 17, 18, 19, 20], [0, 1, 2, 3, 4, 5, 6, 7, 8, 9, 10, 11, 12, 13, 14, 15, 16, 17, 18, 19, 20, 21]] [([], []), ([], []), ([], []), ([], []), ([], []), ([], []), ([], []), ([], []), ([], []), ([], []), ([], []), ([], []), ([], []), ([], []), ([], []), ([], []), ([], []), ([], []), ([], []), ([], []), ([], []), ([], []), ([], [])] 0; (focus (all_goals refine dp 0 0 [16] [] puL ?_; all_goals refine dp 1 0 [15] [] puL ?_; all_goals refine dp 2 3 [] [] (callD1 (n := _) 0 (θ := []) (hD := (proofOf_ok _ _ _ _ preB38 preB38 preB38 preB38))) ?_; all_goals refine dp 3 7 [] [] (a_pure (sv := .one _) rfl) ?_; all_goals (refine db 4 15 [] [] pu1 ?_ ?_ <;> (intro hc; first | cases hc | (try simp only [decide_eq_true_eq, decide_eq_false_iff_not, Bool.not_eq_true', Bool.not_eq_false', Bool.not_eq_true, Bool.not_eq_false, Bool.and_eq_true, Bool.or_eq_false_iff, Bool.not_not] at hc); first | contradiction | (exfalso; omega) | skip)); all_goals (first | refine dn 5 31 [24, 25, 26, 27] [] ?_ | refine dpy 5 31 [24, 25, 26, 27] [] (a_pure (sv := .one _) rfl) ?_); all_goals (first | refine dn 6 63 [24, 25, 26, 27] [] ?_ | refine dpy 6 63 [24, 25, 26, 27] [] puL ?_); all_goals (first | refine dn 7 127 [24, 25, 26, 27] [] ?_ | refine dpy 7 127 [24, 25, 26, 27] [] puI ?_); all_goals (first | refine dn 8 255 [24, 25, 26, 27] [] ?_ | refine dpy 8 255 [24, 25, 26, 27] [] puL ?_); all_goals (first | refine dn 9 496 [20, 21, 22, 23] [] ?_ | refine dpy 9 496 [20, 21, 22, 23] [] (a_pure (sv := .one _) rfl) ?_); all_goals (first | refine dn 10 993 [20, 21, 22, 23] [] ?_ | refine dpy 10 993 [20, 21, 22, 23] [] puL ?_); all_goals (first | refine dn 11 1987 [20, 21, 22, 23] [] ?_ | refine dpy 11 1987 [20, 21, 22, 23] [] puI ?_); all_goals (first | refine dn 12 3975 [20, 21, 22, 23] [] ?_ | refine dpy 12 3975 [20, 21, 22, 23] [] puL ?_); all_goals (first | refine dn 13 8191 [] [] ?_ | refine dpy 13 8191 [] [] (callD1 (n := _) 0 (θ := []) (hD := (spanOk_ok _ _))) ?_); all_goals (first | refine dn 14 16383 [] [] ?_ | refine dpy 14 16383 [] [] (a_pure (sv := .one _) rfl) ?_); all_goals refine dp 15 32767 [] [] (a_pure (sv := .one _) rfl) ?_; all_goals (refine db 16 65535 [] [] pu1 ?_ ?_ <;> (intro hc; first | cases hc | (try simp only [decide_eq_true_eq, decide_eq_false_iff_not, Bool.not_eq_true', Bool.not_eq_false', Bool.not_eq_true, Bool.not_eq_false, Bool.and_eq_true, Bool.or_eq_false_iff, Bool.not_not] at hc); first | contradiction | (exfalso; omega) | skip)); all_goals (first | refine dn 17 131071 [] [] ?_ | refine dpy 17 131071 [] [] (a_pure (sv := .one _) rfl) ?_); all_goals (first | refine dn 18 262143 [] [] ?_ | refine dpy 18 262143 [] [] puL ?_); all_goals (first | refine dn 19 524287 [] [] ?_ | refine dpy 19 524287 [] [] puI ?_); all_goals (first | refine dn 20 1048575 [] [] ?_ | refine dpy 20 1048575 [] [] puL ?_); all_goals (first | refine dn 21 2097151 [] [] ?_ | refine dpy 21 2097151 [] [] (by first | exact puC | exact a_eqS rfl rfl rfl) ?_); all_goals refine dp 22 4194303 [] [] (a_pure (sv := .one _) rfl) ?_; all_goals (refine d_nil ?_; dsimp only [selT, selH, trues, SV.ren, C.ren, C.ren.all, tRen, GB.ren, calF, upOf, List.cons_append, List.nil_append, Nat.reduceAdd, setRow, List.map_cons, List.map_nil, scC, List.set_cons_zero, List.set_cons_succ, List.take_succ_cons, List.take_zero, List.drop_succ_cons, List.drop_zero]))); any_goals kernel_rfl)
            | (apply g_drN (id := 3) okM [[], [0], [0, 1], [0, 1, 2], [], [4], [4, 5], [4, 5, 6], [], [8], [8, 9], [8, 9, 10], [0, 1, 2, 3], [0, 1, 2, 3, 4, 5, 6, 7, 12], [0, 1, 2, 3, 4, 5, 6, 7, 8, 9, 10, 11, 12, 13]] [([], []), ([], []), ([], []), ([], []), ([], []), ([], []), ([], []), ([], []), ([], []), ([], []), ([], []), ([], []), ([], []), ([], []), ([], [])] 0; (focus (all_goals refine dp 0 0 [42, 43, 44, 45, 46, 47, 48, 49] [] (a_pure (sv := .one _) rfl) ?_; all_goals refine dp 1 1 [42, 43, 44, 45, 46, 47, 48, 49] [] puL ?_; all_goals refine dp 2 3 [42, 43, 44, 45, 46, 47, 48, 49] [] puI ?_; all_goals refine dp 3 7 [42, 43, 44, 45, 46, 47, 48, 49] [] puL ?_; all_goals refine dp 4 0 [38, 39, 40, 41, 46, 47, 48, 49, 5] [] (a_pure (sv := .one _) rfl) ?_; all_goals refine dp 5 1 [38, 39, 40, 41, 46, 47, 48, 49, 5] [] puL ?_; all_goals refine dp 6 3 [38, 39, 40, 41, 46, 47, 48, 49, 5] [] puI ?_; all_goals refine dp 7 7 [38, 39, 40, 41, 46, 47, 48, 49, 5] [] puL ?_; all_goals refine dp 8 0 [38, 39, 40, 41, 42, 43, 44, 45, 5, 6] [] (a_pure (sv := .one _) rfl) ?_; all_goals refine dp 9 1 [38, 39, 40, 41, 42, 43, 44, 45, 5, 6] [] puL ?_; all_goals refine dp 10 3 [38, 39, 40, 41, 42, 43, 44, 45, 5, 6] [] puI ?_; all_goals refine dp 11 7 [38, 39, 40, 41, 42, 43, 44, 45, 5, 6] [] puL ?_; all_goals refine dp 12 3840 [42, 43, 44, 45, 46, 47, 48, 49] [] pu1 ?_; all_goals refine dp 13 8161 [46, 47, 48, 49] [] pu1 ?_; all_goals refine dp 14 16383 [] [] pu1 ?_; all_goals (refine d_nil ?_; dsimp only [selT, selH, trues, SV.ren, C.ren, C.ren.all, tRen, GB.ren, calF, upOf, List.cons_append, List.nil_append, Nat.reduceAdd, setRow, List.map_cons, List.map_nil, scC, List.set_cons_zero, List.set_cons_succ, List.take_succ_cons, List.take_zero, List.drop_succ_cons, List.drop_zero]))); any_goals kernel_rfl)
            | (apply g_drN (id := 9) okM [[], [0], [0, 1], [0, 1, 2], [0, 1, 2, 3], [], [], [5, 6], [0, 1, 2, 3, 4, 5, 6, 7], [0, 1, 2, 3, 4, 5, 6, 7, 8], [], [10], [10, 11], [10, 11, 12], [10, 11, 12, 13], [], [10, 11, 12, 13, 14, 15], [10, 11, 12, 13, 14, 15, 16], [0, 1, 2, 3, 4, 5, 6, 7, 8, 9, 10, 11, 12, 13, 14, 15, 16, 17], [], [0, 1, 2, 3, 4, 5, 6, 7, 8, 9, 10, 11, 12, 13, 14, 15, 16, 17, 18, 19]] [([], []), ([], []), ([], []), ([], []), ([], []), ([], []), ([], []), ([], []), ([], []), ([], []), ([], []), ([], []), ([], []), ([], []), ([], []), ([], []), ([], []), ([], []), ([], []), ([], []), ([], [])] 0; (focus (all_goals refine dp 0 0 [84, 85, 86, 89, 90, 91, 92, 93, 94, 95, 96, 98] [] pu1 ?_; all_goals refine dp 1 1 [84, 85, 86, 89, 90, 91, 92, 93, 94, 95, 96, 98] [] (a_pure (sv := .one _) rfl) ?_; all_goals refine dp 2 3 [84, 85, 86, 89, 90, 91, 92, 93, 94, 95, 96, 98] [] (a_pure (sv := .one _) rfl) ?_; all_goals refine dp 3 7 [84, 85, 86, 89, 90, 91, 92, 93, 94, 95, 96, 98] [] (a_pure (sv := .one _) rfl) ?_; all_goals refine dp 4 15 [84, 85, 86, 89, 90, 91, 92, 93, 94, 95, 96, 98] [] puL ?_; all_goals refine dp 5 0 [79, 80, 81, 82, 83, 85, 89, 90, 91, 92, 93, 94, 95, 96, 98] [] pu1 ?_; all_goals refine dp 6 0 [79, 80, 81, 82, 83, 84, 89, 90, 91, 92, 93, 94, 95, 96, 98] [] pu1 ?_; all_goals refine dp 7 3 [79, 80, 81, 82, 83, 89, 90, 91, 92, 93, 94, 95, 96, 98] [] (a_add rfl rfl (by omega) (by omega)) ?_; all_goals refine dp 8 255 [89, 90, 91, 92, 93, 94, 95, 96, 98] [] puI ?_; all_goals refine dp 9 511 [89, 90, 91, 92, 93, 94, 95, 96, 98] [] puL ?_; all_goals refine dp 10 0 [79, 80, 81, 82, 83, 84, 85, 86, 87, 88, 94, 98] [] pu1 ?_; all_goals refine dp 11 1 [79, 80, 81, 82, 83, 84, 85, 86, 87, 88, 94, 98] [] (a_pure (sv := .one _) rfl) ?_; all_goals refine dp 12 3 [79, 80, 81, 82, 83, 84, 85, 86, 87, 88, 94, 98] [] (a_pure (sv := .one _) rfl) ?_; all_goals refine dp 13 7 [79, 80, 81, 82, 83, 84, 85, 86, 87, 88, 94, 98] [] (a_pure (sv := .one _) rfl) ?_; all_goals refine dp 14 15 [79, 80, 81, 82, 83, 84, 85, 86, 87, 88, 94, 98] [] puL ?_; all_goals refine dp 15 0 [79, 80, 81, 82, 83, 84, 85, 86, 87, 88, 89, 90, 91, 92, 93, 98] [] pu1 ?_; all_goals refine dp 16 63 [79, 80, 81, 82, 83, 84, 85, 86, 87, 88, 98] [] puI ?_; all_goals refine dp 17 127 [79, 80, 81, 82, 83, 84, 85, 86, 87, 88, 98] [] puL ?_; all_goals refine dp 18 262143 [98] [] (a_sub rfl rfl (by omega) (by omega)) ?_; all_goals refine dp 19 0 [79, 80, 81, 82, 83, 84, 85, 86, 87, 88, 89, 90, 91, 92, 93, 94, 95, 96, 97] [] pu1 ?_; all_goals refine dp 20 1048575 [] [] (by first | exact a_ne rfl rfl | exact a_neS rfl rfl rfl) ?_; all_goals (refine d_nil ?_; dsimp only [selT, selH, trues, SV.ren, C.ren, C.ren.all, tRen, GB.ren, calF, upOf, List.cons_append, List.nil_append, Nat.reduceAdd, setRow, List.map_cons, List.map_nil, scC, List.set_cons_zero, List.set_cons_succ, List.take_succ_cons, List.take_zero, List.drop_succ_cons, List.drop_zero]))); any_goals kernel_rfl)
            | (apply g_drN (id := 11) okM [[], [0], [], [0, 1, 2], [], [], [5], [5, 6], [5, 6, 7], [5, 6, 7, 8], [], [], [], [11, 12], [11, 12, 13], [5, 6, 7, 8, 9, 10, 11, 12, 13, 14], [], [0, 1, 2, 3, 5, 6, 7, 8, 9, 10, 11, 12, 13, 14, 15, 16], [0, 1, 2, 3, 4, 5, 6, 7, 8, 9, 10, 11, 12, 13, 14, 15, 16, 17], [0, 1, 2, 3, 4, 5, 6, 7, 8, 9, 10, 11, 12, 13, 14, 15, 16, 17, 18]] [([], []), ([], []), ([], []), ([], []), ([], []), ([], []), ([], []), ([], []), ([], []), ([], []), ([], []), ([], []), ([], []), ([], []), ([], []), ([], []), ([], []), ([], []), ([], []), ([], [])] 0; (focus (all_goals refine dp 0 0 [102, 104, 105, 106, 107, 108, 109, 110, 111, 112, 113, 114, 115, 116] [] pu1 ?_; all_goals refine dp 1 1 [102, 104, 105, 106, 107, 108, 109, 110, 111, 112, 113, 114, 115, 116] [] (callFD 0 (hD := (configC_ok _ _ preB38 preB38))) ?_; all_goals refine dp 2 0 [100, 101, 104, 105, 106, 107, 108, 109, 110, 111, 112, 113, 114, 115, 116] [] pu1 ?_; all_goals refine dp 3 7 [104, 105, 106, 107, 108, 109, 110, 111, 112, 113, 114, 115, 116] [] (callFD 0 (hD := (configC_ok _ _ preB38 preB38))) ?_; all_goals refine dp 4 0 [100, 101, 102, 103, 105, 106, 107, 108, 109, 110, 111, 112, 113, 114, 115, 116, 117] [] pu1 ?_; all_goals refine dp 5 0 [100, 101, 102, 103, 104, 110, 111, 112, 113, 114, 116] [] pu1 ?_; all_goals refine dp 6 1 [100, 101, 102, 103, 104, 110, 111, 112, 113, 114, 116] [] (a_pure (sv := .one _) rfl) ?_; all_goals refine dp 7 3 [100, 101, 102, 103, 104, 110, 111, 112, 113, 114, 116] [] (a_pure (sv := .one _) rfl) ?_; all_goals refine dp 8 7 [100, 101, 102, 103, 104, 110, 111, 112, 113, 114, 116] [] (a_pure (sv := .one _) rfl) ?_; all_goals refine dp 9 15 [100, 101, 102, 103, 104, 110, 111, 112, 113, 114, 116] [] puL ?_; all_goals refine dp 10 0 [100, 101, 102, 103, 104, 105, 106, 107, 108, 109, 111, 112, 113, 114, 116] [] pu1 ?_; all_goals refine dp 11 0 [100, 101, 102, 103, 104, 105, 106, 107, 108, 109, 110, 112, 116] [] pu1 ?_; all_goals refine dp 12 0 [100, 101, 102, 103, 104, 105, 106, 107, 108, 109, 110, 111, 116] [] pu1 ?_; all_goals refine dp 13 3 [100, 101, 102, 103, 104, 105, 106, 107, 108, 109, 110, 116] [] (a_add rfl rfl (by omega) (by omega)) ?_; all_goals refine dp 14 7 [100, 101, 102, 103, 104, 105, 106, 107, 108, 109, 110, 116] [] (a_add rfl rfl (by omega) (by omega)) ?_; all_goals refine dp 15 1023 [100, 101, 102, 103, 104, 116] [] (a_slM rfl rfl rfl rfl (fS rfl) (by omega) (by omega) (by omega) (by exact rfl)) ?_; all_goals refine dp 16 0 [100, 101, 102, 103, 104, 105, 106, 107, 108, 109, 110, 111, 112, 113, 114, 115] [] pu1 ?_; all_goals refine dp 17 126975 [104] [] (callD1 (n := _) 0 (θ := []) (hD := (behindHead_ok _ _ preB38 preB38 preB38 preB38 preB38 preB38 preB38 preB38))) ?_; all_goals refine dp 18 262143 [] [] (callD1 (n := _) 0 (θ := []) (hD := (shiftFits_ok _ _ _ _ preB38 preB38 preB38 preB38 preB38 preB38))) ?_; all_goals refine dp 19 524287 [] [] pu1 ?_; all_goals (refine d_nil ?_; dsimp only [selT, selH, trues, SV.ren, C.ren, C.ren.all, tRen, GB.ren, calF, upOf, List.cons_append, List.nil_append, Nat.reduceAdd, setRow, List.map_cons, List.map_nil, scC, List.set_cons_zero, List.set_cons_succ, List.take_succ_cons, List.take_zero, List.drop_succ_cons, List.drop_zero]))); any_goals kernel_rfl)
            | (refine o_gs rfl rfl (fun hc => ?_) (fun hc => ?_) <;> (try simp only [decide_eq_true_eq, decide_eq_false_iff_not, Bool.not_eq_true', Bool.not_eq_false', Bool.not_eq_true, Bool.not_eq_false, Bool.and_eq_true, Bool.or_eq_false_iff, Bool.not_not] at hc) <;> (try (first | contradiction | (exfalso; omega))))
            | (refine g_cond rfl (fun hc => ?_) (fun hc => ?_) <;> (try simp only [decide_eq_true_eq, decide_eq_false_iff_not, Bool.not_eq_true', Bool.not_eq_false', Bool.not_eq_true, Bool.not_eq_false, Bool.and_eq_true, Bool.or_eq_false_iff, Bool.not_not] at hc) <;> (try (first | contradiction | (exfalso; omega))))
          repeat (first | refine g_ret ?_ | refine q_sr ?_ | refine q_br ?_ | refine q_lr ?_ | refine q_cr ?_)
          refine ends_id ?_
          refine endK [] (h2 := ?_) (h3 := ?_) (nd := ?_)
          all_goals (repeat' first | with_reducible exact SVLe.refl | exact SVLe.any | exact SVLe.one (.sh rfl) | exact SVLe.one (.nil (by decide)) | refine SVLe.agg ?_ | refine SVLe.tup ?_ | exact TLe.nil | refine TLe.cons ?_ ?_ | exact CsLe.nil | refine CsLe.cons ?_ ?_ | exact CLe.refl | exact CLe.sh rfl | exact CLe.nil (by decide) | refine cle_i ?_ | refine cle_b ?_ | exact trivial | refine And.intro ?_ ?_ | exact Or.inl rfl | exact Or.inr rfl | refine Or.inr (row_eq ?_) | (refine Or.inr (bx_eq rfl rfl ?_); (try dsimp only [C.ren, C.ren.all]); (try exact rfl)) | exact SVLe.refl | refine sle_i ?_ | refine sle_b ?_)
          all_goals first | exact (show nodupB _ = true from rfl) | exact Or.inr rfl | ((unfold shRes; rfl))
        · repeat' first
            | refine g_seq ?_
            | refine g_skip ?_
            | refine g_exit ?_
            | refine g_block ?_
            | refine g_reg (id := 0) ?_
            | refine g_reg (id := 2) ?_
            | refine g_reg (id := 4) ?_
            | refine g_reg (id := 5) ?_
            | refine g_reg (id := 6) ?_
            | refine g_reg (id := 7) ?_
            | refine g_if_t rfl ?_
            | refine g_if_f rfl ?_
            | refine o_nil ?_
            | refine q_s ?_
            | refine q_se ?_
            | refine q_b ?_
            | refine q_be rfl ?_
            | refine q_bn rfl ?_
            | refine q_le ?_
            | refine q_ce ?_
            | (apply n3; exact a_new (gb := .bx _) rfl; exact rfl; (try dsimp only [List.map_cons, List.map_nil, scC, Nat.reduceAdd]))
            | (apply p3; (first | exact pu1 | exact puL | exact a_add rfl rfl (by omega) (by omega)); exact rfl)
            | (apply c4 3; exact callK0 (θ := []) (hD := (afterSteps_ok _ _ preB38 preB38)); exact rfl; exact rfl; exact rfl; (try dsimp only [SV.ren, C.ren, C.ren.all, tRen, GB.ren, calF, upOf, List.cons_append, List.nil_append, Nat.reduceAdd]))
            | refine o_no rfl rfl rfl rfl ?_
            | refine o_noN rfl rfl rfl ?_
            | (apply py3; exact rfl; exact rfl; (first | exact pu1 | exact puL | exact a_add rfl rfl (by omega) (by omega)); exact rfl; exact rfl)
            | (apply ny3; exact rfl; exact rfl; exact a_new (gb := .bx _) rfl; exact rfl; exact rfl)
            | (apply cy4 3; exact rfl; exact rfl; exact callK0 (θ := []) (hD := (afterSteps_ok _ _ preB38 preB38)); exact rfl; exact rfl; exact rfl; exact rfl; (try dsimp only [SV.ren, C.ren, C.ren.all, tRen, GB.ren, calF, upOf, List.cons_append, List.nil_append, Nat.reduceAdd]))
            | (apply g_drN (id := 1) okM [[], [], [0, 1], [0, 1, 2], [0, 1, 2, 3], [0, 1, 2, 3, 4], [0, 1, 2, 3, 4, 5], [0, 1, 2, 3, 4, 5, 6], [0, 1, 2, 3, 4, 5, 6, 7], [0, 1, 2, 3, 4], [0, 1, 2, 3, 4, 9], [0, 1, 2, 3, 4, 9, 10], [0, 1, 2, 3, 4, 9, 10, 11], [0, 1, 2, 3, 4, 5, 6, 7, 8, 9, 10, 11, 12], [0, 1, 2, 3, 4, 5, 6, 7, 8, 9, 10, 11, 12, 13], [0, 1, 2, 3, 4, 5, 6, 7, 8, 9, 10, 11, 12, 13, 14], [0, 1, 2, 3, 4, 5, 6, 7, 8, 9, 10, 11, 12, 13, 14, 15], [0, 1, 2, 3, 4, 5, 6, 7, 8, 9, 10, 11, 12, 13, 14, 15, 16], [0, 1, 2, 3, 4, 5, 6, 7, 8, 9, 10, 11, 12, 13, 14, 15, 16, 17], [0, 1, 2, 3, 4, 5, 6, 7, 8, 9, 10, 11, 12, 13, 14, 15, 16, 17, 18], [0, 1, 2, 3, 4, 5, 6, 7, 8, 9, 10, 11, 12, 13, 14, 15, 16, 17, 18, 19], [0, 1, 2, 3, 4, 5, 6, 7, 8, 9, 10, 11, 12, 13, 14, 15, 16, 17, 18, 19, 20], [0, 1, 2, 3, 4, 5, 6, 7, 8, 9, 10, 11, 12, 13, 14, 15, 16, 17, 18, 19, 20, 21]] [([], []), ([], []), ([], []), ([], []), ([], []), ([], []), ([], []), ([], []), ([], []), ([], []), ([], []), ([], []), ([], []), ([], []), ([], []), ([], []), ([], []), ([], []), ([], []), ([], []), ([], []), ([], []), ([], [])] 0; (focus (all_goals refine dp 0 0 [16] [] puL ?_; all_goals refine dp 1 0 [15] [] puL ?_; all_goals refine dp 2 3 [] [] (callD1 (n := _) 0 (θ := []) (hD := (proofOf_ok _ _ _ _ preB38 preB38 preB38 preB38))) ?_; all_goals refine dp 3 7 [] [] (a_pure (sv := .one _) rfl) ?_; all_goals (refine db 4 15 [] [] pu1 ?_ ?_ <;> (intro hc; first | cases hc | (try simp only [decide_eq_true_eq, decide_eq_false_iff_not, Bool.not_eq_true', Bool.not_eq_false', Bool.not_eq_true, Bool.not_eq_false, Bool.and_eq_true, Bool.or_eq_false_iff, Bool.not_not] at hc); first | contradiction | (exfalso; omega) | skip)); all_goals (first | refine dn 5 31 [24, 25, 26, 27] [] ?_ | refine dpy 5 31 [24, 25, 26, 27] [] (a_pure (sv := .one _) rfl) ?_); all_goals (first | refine dn 6 63 [24, 25, 26, 27] [] ?_ | refine dpy 6 63 [24, 25, 26, 27] [] puL ?_); all_goals (first | refine dn 7 127 [24, 25, 26, 27] [] ?_ | refine dpy 7 127 [24, 25, 26, 27] [] puI ?_); all_goals (first | refine dn 8 255 [24, 25, 26, 27] [] ?_ | refine dpy 8 255 [24, 25, 26, 27] [] puL ?_); all_goals (first | refine dn 9 496 [20, 21, 22, 23] [] ?_ | refine dpy 9 496 [20, 21, 22, 23] [] (a_pure (sv := .one _) rfl) ?_); all_goals (first | refine dn 10 993 [20, 21, 22, 23] [] ?_ | refine dpy 10 993 [20, 21, 22, 23] [] puL ?_); all_goals (first | refine dn 11 1987 [20, 21, 22, 23] [] ?_ | refine dpy 11 1987 [20, 21, 22, 23] [] puI ?_); all_goals (first | refine dn 12 3975 [20, 21, 22, 23] [] ?_ | refine dpy 12 3975 [20, 21, 22, 23] [] puL ?_); all_goals (first | refine dn 13 8191 [] [] ?_ | refine dpy 13 8191 [] [] (callD1 (n := _) 0 (θ := []) (hD := (spanOk_ok _ _))) ?_); all_goals (first | refine dn 14 16383 [] [] ?_ | refine dpy 14 16383 [] [] (a_pure (sv := .one _) rfl) ?_); all_goals refine dp 15 32767 [] [] (a_pure (sv := .one _) rfl) ?_; all_goals (refine db 16 65535 [] [] pu1 ?_ ?_ <;> (intro hc; first | cases hc | (try simp only [decide_eq_true_eq, decide_eq_false_iff_not, Bool.not_eq_true', Bool.not_eq_false', Bool.not_eq_true, Bool.not_eq_false, Bool.and_eq_true, Bool.or_eq_false_iff, Bool.not_not] at hc); first | contradiction | (exfalso; omega) | skip)); all_goals (first | refine dn 17 131071 [] [] ?_ | refine dpy 17 131071 [] [] (a_pure (sv := .one _) rfl) ?_); all_goals (first | refine dn 18 262143 [] [] ?_ | refine dpy 18 262143 [] [] puL ?_); all_goals (first | refine dn 19 524287 [] [] ?_ | refine dpy 19 524287 [] [] puI ?_); all_goals (first | refine dn 20 1048575 [] [] ?_ | refine dpy 20 1048575 [] [] puL ?_); all_goals (first | refine dn 21 2097151 [] [] ?_ | refine dpy 21 2097151 [] [] (by first | exact puC | exact a_eqS rfl rfl rfl) ?_); all_goals refine dp 22 4194303 [] [] (a_pure (sv := .one _) rfl) ?_; all_goals (refine d_nil ?_; dsimp only [selT, selH, trues, SV.ren, C.ren, C.ren.all, tRen, GB.ren, calF, upOf, List.cons_append, List.nil_append, Nat.reduceAdd, setRow, List.map_cons, List.map_nil, scC, List.set_cons_zero, List.set_cons_succ, List.take_succ_cons, List.take_zero, List.drop_succ_cons, List.drop_zero]))); any_goals kernel_rfl)
            | (apply g_drN (id := 3) okM [[], [0], [0, 1], [0, 1, 2], [], [4], [4, 5], [4, 5, 6], [], [8], [8, 9], [8, 9, 10], [0, 1, 2, 3], [0, 1, 2, 3, 4, 5, 6, 7, 12], [0, 1, 2, 3, 4, 5, 6, 7, 8, 9, 10, 11, 12, 13]] [([], []), ([], []), ([], []), ([], []), ([], []), ([], []), ([], []), ([], []), ([], []), ([], []), ([], []), ([], []), ([], []), ([], []), ([], [])] 0; (focus (all_goals refine dp 0 0 [42, 43, 44, 45, 46, 47, 48, 49] [] (a_pure (sv := .one _) rfl) ?_; all_goals refine dp 1 1 [42, 43, 44, 45, 46, 47, 48, 49] [] puL ?_; all_goals refine dp 2 3 [42, 43, 44, 45, 46, 47, 48, 49] [] puI ?_; all_goals refine dp 3 7 [42, 43, 44, 45, 46, 47, 48, 49] [] puL ?_; all_goals refine dp 4 0 [38, 39, 40, 41, 46, 47, 48, 49, 5] [] (a_pure (sv := .one _) rfl) ?_; all_goals refine dp 5 1 [38, 39, 40, 41, 46, 47, 48, 49, 5] [] puL ?_; all_goals refine dp 6 3 [38, 39, 40, 41, 46, 47, 48, 49, 5] [] puI ?_; all_goals refine dp 7 7 [38, 39, 40, 41, 46, 47, 48, 49, 5] [] puL ?_; all_goals refine dp 8 0 [38, 39, 40, 41, 42, 43, 44, 45, 5, 6] [] (a_pure (sv := .one _) rfl) ?_; all_goals refine dp 9 1 [38, 39, 40, 41, 42, 43, 44, 45, 5, 6] [] puL ?_; all_goals refine dp 10 3 [38, 39, 40, 41, 42, 43, 44, 45, 5, 6] [] puI ?_; all_goals refine dp 11 7 [38, 39, 40, 41, 42, 43, 44, 45, 5, 6] [] puL ?_; all_goals refine dp 12 3840 [42, 43, 44, 45, 46, 47, 48, 49] [] pu1 ?_; all_goals refine dp 13 8161 [46, 47, 48, 49] [] pu1 ?_; all_goals refine dp 14 16383 [] [] pu1 ?_; all_goals (refine d_nil ?_; dsimp only [selT, selH, trues, SV.ren, C.ren, C.ren.all, tRen, GB.ren, calF, upOf, List.cons_append, List.nil_append, Nat.reduceAdd, setRow, List.map_cons, List.map_nil, scC, List.set_cons_zero, List.set_cons_succ, List.take_succ_cons, List.take_zero, List.drop_succ_cons, List.drop_zero]))); any_goals kernel_rfl)
            | (refine o_gs rfl rfl (fun hc => ?_) (fun hc => ?_) <;> (try simp only [decide_eq_true_eq, decide_eq_false_iff_not, Bool.not_eq_true', Bool.not_eq_false', Bool.not_eq_true, Bool.not_eq_false, Bool.and_eq_true, Bool.or_eq_false_iff, Bool.not_not] at hc) <;> (try (first | contradiction | (exfalso; omega))))
            | (refine g_cond rfl (fun hc => ?_) (fun hc => ?_) <;> (try simp only [decide_eq_true_eq, decide_eq_false_iff_not, Bool.not_eq_true', Bool.not_eq_false', Bool.not_eq_true, Bool.not_eq_false, Bool.and_eq_true, Bool.or_eq_false_iff, Bool.not_not] at hc) <;> (try (first | contradiction | (exfalso; omega))))
          simp only [q2 g1, q4 g2]
          repeat' first
            | refine g_seq ?_
            | refine g_skip ?_
            | refine g_exit ?_
            | refine g_block ?_
            | refine g_reg (id := 0) ?_
            | refine g_reg (id := 2) ?_
            | refine g_reg (id := 4) ?_
            | refine g_reg (id := 5) ?_
            | refine g_reg (id := 6) ?_
            | refine g_reg (id := 7) ?_
            | refine g_reg (id := 8) ?_
            | refine g_if_t rfl ?_
            | refine g_if_f rfl ?_
            | refine o_nil ?_
            | refine q_s ?_
            | refine q_se ?_
            | refine q_b ?_
            | refine q_be rfl ?_
            | refine q_bn rfl ?_
            | refine q_le ?_
            | refine q_ce ?_
            | (apply n3; exact a_new (gb := .bx _) rfl; exact rfl; (try dsimp only [List.map_cons, List.map_nil, scC, Nat.reduceAdd]))
            | (apply p3; (first | exact pu1 | exact puL | exact a_add rfl rfl (by omega) (by omega)); exact rfl)
            | (apply c4 3; exact callK0 (θ := []) (hD := (afterSteps_ok _ _ preB38 preB38)); exact rfl; exact rfl; exact rfl; (try dsimp only [SV.ren, C.ren, C.ren.all, tRen, GB.ren, calF, upOf, List.cons_append, List.nil_append, Nat.reduceAdd]))
            | (apply c4 3; exact callK0 (θ := []) (hD := (tracked_ok m _ hv preB38 preB38)); exact rfl; exact rfl; exact rfl; (try dsimp only [SV.ren, C.ren, C.ren.all, tRen, GB.ren, calF, upOf, List.cons_append, List.nil_append, Nat.reduceAdd]))
            | refine o_no rfl rfl rfl rfl ?_
            | refine o_noN rfl rfl rfl ?_
            | (apply py3; exact rfl; exact rfl; (first | exact pu1 | exact puL | exact a_add rfl rfl (by omega) (by omega)); exact rfl; exact rfl)
            | (apply ny3; exact rfl; exact rfl; exact a_new (gb := .bx _) rfl; exact rfl; exact rfl)
            | (apply cy4 3; exact rfl; exact rfl; exact callK0 (θ := []) (hD := (afterSteps_ok _ _ preB38 preB38)); exact rfl; exact rfl; exact rfl; exact rfl; (try dsimp only [SV.ren, C.ren, C.ren.all, tRen, GB.ren, calF, upOf, List.cons_append, List.nil_append, Nat.reduceAdd]))
            | (apply cy4 3; exact rfl; exact rfl; exact callK0 (θ := []) (hD := (tracked_ok m _ hv preB38 preB38)); exact rfl; exact rfl; exact rfl; exact rfl; (try dsimp only [SV.ren, C.ren, C.ren.all, tRen, GB.ren, calF, upOf, List.cons_append, List.nil_append, Nat.reduceAdd]))
            | (apply g_drN (id := 1) okM [[], [], [0, 1], [0, 1, 2], [0, 1, 2, 3], [0, 1, 2, 3, 4], [0, 1, 2, 3, 4, 5], [0, 1, 2, 3, 4, 5, 6], [0, 1, 2, 3, 4, 5, 6, 7], [0, 1, 2, 3, 4], [0, 1, 2, 3, 4, 9], [0, 1, 2, 3, 4, 9, 10], [0, 1, 2, 3, 4, 9, 10, 11], [0, 1, 2, 3, 4, 5, 6, 7, 8, 9, 10, 11, 12], [0, 1, 2, 3, 4, 5, 6, 7, 8, 9, 10, 11, 12, 13], [0, 1, 2, 3, 4, 5, 6, 7, 8, 9, 10, 11, 12, 13, 14], [0, 1, 2, 3, 4, 5, 6, 7, 8, 9, 10, 11, 12, 13, 14, 15], [0, 1, 2, 3, 4, 5, 6, 7, 8, 9, 10, 11, 12, 13, 14, 15, 16], [0, 1, 2, 3, 4, 5, 6, 7, 8, 9, 10, 11, 12, 13, 14, 15, 16, 17], [0, 1, 2, 3, 4, 5, 6, 7, 8, 9, 10, 11, 12, 13, 14, 15, 16, 17, 18], [0, 1, 2, 3, 4, 5, 6, 7, 8, 9, 10, 11, 12, 13, 14, 15, 16, 17, 18, 19], [0, 1, 2, 3, 4, 5, 6, 7, 8, 9, 10, 11, 12, 13, 14, 15, 16, 17, 18, 19, 20], [0, 1, 2, 3, 4, 5, 6, 7, 8, 9, 10, 11, 12, 13, 14, 15, 16, 17, 18, 19, 20, 21]] [([], []), ([], []), ([], []), ([], []), ([], []), ([], []), ([], []), ([], []), ([], []), ([], []), ([], []), ([], []), ([], []), ([], []), ([], []), ([], []), ([], []), ([], []), ([], []), ([], []), ([], []), ([], []), ([], [])] 0; (focus (all_goals refine dp 0 0 [16] [] puL ?_; all_goals refine dp 1 0 [15] [] puL ?_; all_goals refine dp 2 3 [] [] (callD1 (n := _) 0 (θ := []) (hD := (proofOf_ok _ _ _ _ preB38 preB38 preB38 preB38))) ?_; all_goals refine dp 3 7 [] [] (a_pure (sv := .one _) rfl) ?_; all_goals (refine db 4 15 [] [] pu1 ?_ ?_ <;> (intro hc; first | cases hc | (try simp only [decide_eq_true_eq, decide_eq_false_iff_not, Bool.not_eq_true', Bool.not_eq_false', Bool.not_eq_true, Bool.not_eq_false, Bool.and_eq_true, Bool.or_eq_false_iff, Bool.not_not] at hc); first | contradiction | (exfalso; omega) | skip)); all_goals (first | refine dn 5 31 [24, 25, 26, 27] [] ?_ | refine dpy 5 31 [24, 25, 26, 27] [] (a_pure (sv := .one _) rfl) ?_); all_goals (first | refine dn 6 63 [24, 25, 26, 27] [] ?_ | refine dpy 6 63 [24, 25, 26, 27] [] puL ?_); all_goals (first | refine dn 7 127 [24, 25, 26, 27] [] ?_ | refine dpy 7 127 [24, 25, 26, 27] [] puI ?_); all_goals (first | refine dn 8 255 [24, 25, 26, 27] [] ?_ | refine dpy 8 255 [24, 25, 26, 27] [] puL ?_); all_goals (first | refine dn 9 496 [20, 21, 22, 23] [] ?_ | refine dpy 9 496 [20, 21, 22, 23] [] (a_pure (sv := .one _) rfl) ?_); all_goals (first | refine dn 10 993 [20, 21, 22, 23] [] ?_ | refine dpy 10 993 [20, 21, 22, 23] [] puL ?_); all_goals (first | refine dn 11 1987 [20, 21, 22, 23] [] ?_ | refine dpy 11 1987 [20, 21, 22, 23] [] puI ?_); all_goals (first | refine dn 12 3975 [20, 21, 22, 23] [] ?_ | refine dpy 12 3975 [20, 21, 22, 23] [] puL ?_); all_goals (first | refine dn 13 8191 [] [] ?_ | refine dpy 13 8191 [] [] (callD1 (n := _) 0 (θ := []) (hD := (spanOk_ok _ _))) ?_); all_goals (first | refine dn 14 16383 [] [] ?_ | refine dpy 14 16383 [] [] (a_pure (sv := .one _) rfl) ?_); all_goals refine dp 15 32767 [] [] (a_pure (sv := .one _) rfl) ?_; all_goals (refine db 16 65535 [] [] pu1 ?_ ?_ <;> (intro hc; first | cases hc | (try simp only [decide_eq_true_eq, decide_eq_false_iff_not, Bool.not_eq_true', Bool.not_eq_false', Bool.not_eq_true, Bool.not_eq_false, Bool.and_eq_true, Bool.or_eq_false_iff, Bool.not_not] at hc); first | contradiction | (exfalso; omega) | skip)); all_goals (first | refine dn 17 131071 [] [] ?_ | refine dpy 17 131071 [] [] (a_pure (sv := .one _) rfl) ?_); all_goals (first | refine dn 18 262143 [] [] ?_ | refine dpy 18 262143 [] [] puL ?_); all_goals (first | refine dn 19 524287 [] [] ?_ | refine dpy 19 524287 [] [] puI ?_); all_goals (first | refine dn 20 1048575 [] [] ?_ | refine dpy 20 1048575 [] [] puL ?_); all_goals (first | refine dn 21 2097151 [] [] ?_ | refine dpy 21 2097151 [] [] (by first | exact puC | exact a_eqS rfl rfl rfl) ?_); all_goals refine dp 22 4194303 [] [] (a_pure (sv := .one _) rfl) ?_; all_goals (refine d_nil ?_; dsimp only [selT, selH, trues, SV.ren, C.ren, C.ren.all, tRen, GB.ren, calF, upOf, List.cons_append, List.nil_append, Nat.reduceAdd, setRow, List.map_cons, List.map_nil, scC, List.set_cons_zero, List.set_cons_succ, List.take_succ_cons, List.take_zero, List.drop_succ_cons, List.drop_zero]))); any_goals kernel_rfl)
            | (apply g_drN (id := 3) okM [[], [0], [0, 1], [0, 1, 2], [], [4], [4, 5], [4, 5, 6], [], [8], [8, 9], [8, 9, 10], [0, 1, 2, 3], [0, 1, 2, 3, 4, 5, 6, 7, 12], [0, 1, 2, 3, 4, 5, 6, 7, 8, 9, 10, 11, 12, 13]] [([], []), ([], []), ([], []), ([], []), ([], []), ([], []), ([], []), ([], []), ([], []), ([], []), ([], []), ([], []), ([], []), ([], []), ([], [])] 0; (focus (all_goals refine dp 0 0 [42, 43, 44, 45, 46, 47, 48, 49] [] (a_pure (sv := .one _) rfl) ?_; all_goals refine dp 1 1 [42, 43, 44, 45, 46, 47, 48, 49] [] puL ?_; all_goals refine dp 2 3 [42, 43, 44, 45, 46, 47, 48, 49] [] puI ?_; all_goals refine dp 3 7 [42, 43, 44, 45, 46, 47, 48, 49] [] puL ?_; all_goals refine dp 4 0 [38, 39, 40, 41, 46, 47, 48, 49, 5] [] (a_pure (sv := .one _) rfl) ?_; all_goals refine dp 5 1 [38, 39, 40, 41, 46, 47, 48, 49, 5] [] puL ?_; all_goals refine dp 6 3 [38, 39, 40, 41, 46, 47, 48, 49, 5] [] puI ?_; all_goals refine dp 7 7 [38, 39, 40, 41, 46, 47, 48, 49, 5] [] puL ?_; all_goals refine dp 8 0 [38, 39, 40, 41, 42, 43, 44, 45, 5, 6] [] (a_pure (sv := .one _) rfl) ?_; all_goals refine dp 9 1 [38, 39, 40, 41, 42, 43, 44, 45, 5, 6] [] puL ?_; all_goals refine dp 10 3 [38, 39, 40, 41, 42, 43, 44, 45, 5, 6] [] puI ?_; all_goals refine dp 11 7 [38, 39, 40, 41, 42, 43, 44, 45, 5, 6] [] puL ?_; all_goals refine dp 12 3840 [42, 43, 44, 45, 46, 47, 48, 49] [] pu1 ?_; all_goals refine dp 13 8161 [46, 47, 48, 49] [] pu1 ?_; all_goals refine dp 14 16383 [] [] pu1 ?_; all_goals (refine d_nil ?_; dsimp only [selT, selH, trues, SV.ren, C.ren, C.ren.all, tRen, GB.ren, calF, upOf, List.cons_append, List.nil_append, Nat.reduceAdd, setRow, List.map_cons, List.map_nil, scC, List.set_cons_zero, List.set_cons_succ, List.take_succ_cons, List.take_zero, List.drop_succ_cons, List.drop_zero]))); any_goals kernel_rfl)
            | (refine o_gs rfl rfl (fun hc => ?_) (fun hc => ?_) <;> (try simp only [decide_eq_true_eq, decide_eq_false_iff_not, Bool.not_eq_true', Bool.not_eq_false', Bool.not_eq_true, Bool.not_eq_false, Bool.and_eq_true, Bool.or_eq_false_iff, Bool.not_not] at hc) <;> (try (first | contradiction | (exfalso; omega))))
            | (refine g_cond rfl (fun hc => ?_) (fun hc => ?_) <;> (try simp only [decide_eq_true_eq, decide_eq_false_iff_not, Bool.not_eq_true', Bool.not_eq_false', Bool.not_eq_true, Bool.not_eq_false, Bool.and_eq_true, Bool.or_eq_false_iff, Bool.not_not] at hc) <;> (try (first | contradiction | (exfalso; omega))))
          have hP : (qkRun m (a + b)).x.pos = posL m (a + b).toNat blank 0 := by
            unfold qkRun
            rw [(qk_pos (m := m) (a + b).toNat 0 blank 0 ⟨[], [], 0, 0⟩ g2).2]
            rfl
          rw [hP]
          have hl := posL_len (m := m) (a + b).toNat blank 0
          have hB := posL_bd hv (a + b).toNat blank 0 hvb g2
          have hb1 := posL_last (m := m) (a + b).toNat blank 0 g2
          have hd1 := posL_drop (m := m) a.toNat b.toNat blank 0 g1
          rw [show a.toNat + b.toNat = (a + b).toNat by omega] at hd1
          have hC1 := go_ok hv a.toNat blank 0 hvb g1
          have hC2 := go_ok hv (a + b).toNat blank 0 hvb g2
          have hk1 := at_bd hv hC1.1
          have hk2 := at_bd hv hC2.1
          have hh1 := posL_head (m := m) b.toNat (goO m a.toNat blank 0).1 (goO m a.toNat blank 0).2.1
          have hl1 := posL_len (m := m) b.toNat (goO m a.toNat blank 0).1 (goO m a.toNat blank 0).2.1
          have hbf := behind_fold m d b.toNat (goO m a.toNat blank 0).1 (goO m a.toNat blank 0).2.1
          have hl2 : (goO m (a + b).toNat blank 0).2.1 ≤ 20000 := by omega
          have hl3 : -20000 ≤ (goO m (a + b).toNat blank 0).2.1 := by omega
          have hl4 : (goO m a.toNat blank 0).2.1 ≤ 20000 := by omega
          have hl5 : -20000 ≤ (goO m a.toNat blank 0).2.1 := by omega
          rw [hbf]
          generalize posL m b.toNat (goO m a.toNat blank 0).1 (goO m a.toNat blank 0).2.1 = Q at *
          generalize posL m (a + b).toNat blank 0 = P at *
          generalize goO m a.toNat blank 0 = G1 at *
          generalize goO m (a + b).toNat blank 0 = G2 at *
          obtain ⟨c1, pa, o1⟩ := G1
          obtain ⟨c2, pb, o2⟩ := G2
          dsimp only at *
          have hPl : (P.length : Int) = a + b + 1 := by omega
          have ea : ∀ h, P[a.toNat]'h = pa := fun h => by
            rw [← hh1, ← hd1]
            rw [← List.head_drop (l := P) (i := a.toNat) (by simp; omega)]
            rw [List.headD_eq_head?_getD, List.head?_eq_some_head (by simp; omega)]; rfl
          have eb : ∀ h, P[(a + b).toNat]'h = pb := fun h => by
            rw [List.getElem?_eq_getElem h] at hb1
            exact Option.some.inj hb1
          have ga : ∀ h, P[a.toNat]'h ≤ 20000 := fun h => by rw [ea]; exact hl4
          have ga' : ∀ h, -20000 ≤ P[a.toNat]'h := fun h => by rw [ea]; exact hl5
          have gb : ∀ h, P[(a + b).toNat]'h ≤ 20000 := fun h => by rw [eb]; exact hl2
          have gb' : ∀ h, -20000 ≤ P[(a + b).toNat]'h := fun h => by rw [eb]; exact hl3
          have j1 := ga (by omega)
          have j2 := ga' (by omega)
          have j3 := gb (by omega)
          have j4 := gb' (by omega)
          repeat' first
            | refine g_seq ?_
            | refine g_skip ?_
            | refine g_exit ?_
            | refine g_block ?_
            | refine g_reg (id := 0) ?_
            | refine g_reg (id := 2) ?_
            | refine g_reg (id := 4) ?_
            | refine g_reg (id := 5) ?_
            | refine g_reg (id := 6) ?_
            | refine g_reg (id := 7) ?_
            | refine g_reg (id := 8) ?_
            | refine g_if_t rfl ?_
            | refine g_if_f rfl ?_
            | refine o_nil ?_
            | refine q_s ?_
            | refine q_se ?_
            | refine q_b ?_
            | refine q_be rfl ?_
            | refine q_bn rfl ?_
            | refine q_le ?_
            | refine q_ce ?_
            | (apply n3; exact a_new (gb := .bx _) rfl; exact rfl; (try dsimp only [List.map_cons, List.map_nil, scC, Nat.reduceAdd]))
            | (apply p3; (first | exact pu1 | exact puL | exact a_add rfl rfl (by omega) (by omega)); exact rfl)
            | (apply c4 3; exact callK0 (θ := []) (hD := (afterSteps_ok _ _ preB38 preB38)); exact rfl; exact rfl; exact rfl; (try dsimp only [SV.ren, C.ren, C.ren.all, tRen, GB.ren, calF, upOf, List.cons_append, List.nil_append, Nat.reduceAdd]))
            | (apply c4 3; exact callK0 (θ := []) (hD := (tracked_ok m _ hv preB38 preB38)); exact rfl; exact rfl; exact rfl; (try dsimp only [SV.ren, C.ren, C.ren.all, tRen, GB.ren, calF, upOf, List.cons_append, List.nil_append, Nat.reduceAdd]))
            | refine o_no rfl rfl rfl rfl ?_
            | refine o_noN rfl rfl rfl ?_
            | (apply py3; exact rfl; exact rfl; (first | exact pu1 | exact puL | exact a_add rfl rfl (by omega) (by omega)); exact rfl; exact rfl)
            | (apply ny3; exact rfl; exact rfl; exact a_new (gb := .bx _) rfl; exact rfl; exact rfl)
            | (apply cy4 3; exact rfl; exact rfl; exact callK0 (θ := []) (hD := (afterSteps_ok _ _ preB38 preB38)); exact rfl; exact rfl; exact rfl; exact rfl; (try dsimp only [SV.ren, C.ren, C.ren.all, tRen, GB.ren, calF, upOf, List.cons_append, List.nil_append, Nat.reduceAdd]))
            | (apply cy4 3; exact rfl; exact rfl; exact callK0 (θ := []) (hD := (tracked_ok m _ hv preB38 preB38)); exact rfl; exact rfl; exact rfl; exact rfl; (try dsimp only [SV.ren, C.ren, C.ren.all, tRen, GB.ren, calF, upOf, List.cons_append, List.nil_append, Nat.reduceAdd]))
            | (apply g_drN (id := 1) okM [[], [], [0, 1], [0, 1, 2], [0, 1, 2, 3], [0, 1, 2, 3, 4], [0, 1, 2, 3, 4, 5], [0, 1, 2, 3, 4, 5, 6], [0, 1, 2, 3, 4, 5, 6, 7], [0, 1, 2, 3, 4], [0, 1, 2, 3, 4, 9], [0, 1, 2, 3, 4, 9, 10], [0, 1, 2, 3, 4, 9, 10, 11], [0, 1, 2, 3, 4, 5, 6, 7, 8, 9, 10, 11, 12], [0, 1, 2, 3, 4, 5, 6, 7, 8, 9, 10, 11, 12, 13], [0, 1, 2, 3, 4, 5, 6, 7, 8, 9, 10, 11, 12, 13, 14], [0, 1, 2, 3, 4, 5, 6, 7, 8, 9, 10, 11, 12, 13, 14, 15], [0, 1, 2, 3, 4, 5, 6, 7, 8, 9, 10, 11, 12, 13, 14, 15, 16], [0, 1, 2, 3, 4, 5, 6, 7, 8, 9, 10, 11, 12, 13, 14, 15, 16, 17], [0, 1, 2, 3, 4, 5, 6, 7, 8, 9, 10, 11, 12, 13, 14, 15, 16, 17, 18], [0, 1, 2, 3, 4, 5, 6, 7, 8, 9, 10, 11, 12, 13, 14, 15, 16, 17, 18, 19], [0, 1, 2, 3, 4, 5, 6, 7, 8, 9, 10, 11, 12, 13, 14, 15, 16, 17, 18, 19, 20], [0, 1, 2, 3, 4, 5, 6, 7, 8, 9, 10, 11, 12, 13, 14, 15, 16, 17, 18, 19, 20, 21]] [([], []), ([], []), ([], []), ([], []), ([], []), ([], []), ([], []), ([], []), ([], []), ([], []), ([], []), ([], []), ([], []), ([], []), ([], []), ([], []), ([], []), ([], []), ([], []), ([], []), ([], []), ([], []), ([], [])] 0; (focus (all_goals refine dp 0 0 [16] [] puL ?_; all_goals refine dp 1 0 [15] [] puL ?_; all_goals refine dp 2 3 [] [] (callD1 (n := _) 0 (θ := []) (hD := (proofOf_ok _ _ _ _ preB38 preB38 preB38 preB38))) ?_; all_goals refine dp 3 7 [] [] (a_pure (sv := .one _) rfl) ?_; all_goals (refine db 4 15 [] [] pu1 ?_ ?_ <;> (intro hc; first | cases hc | (try simp only [decide_eq_true_eq, decide_eq_false_iff_not, Bool.not_eq_true', Bool.not_eq_false', Bool.not_eq_true, Bool.not_eq_false, Bool.and_eq_true, Bool.or_eq_false_iff, Bool.not_not] at hc); first | contradiction | (exfalso; omega) | skip)); all_goals (first | refine dn 5 31 [24, 25, 26, 27] [] ?_ | refine dpy 5 31 [24, 25, 26, 27] [] (a_pure (sv := .one _) rfl) ?_); all_goals (first | refine dn 6 63 [24, 25, 26, 27] [] ?_ | refine dpy 6 63 [24, 25, 26, 27] [] puL ?_); all_goals (first | refine dn 7 127 [24, 25, 26, 27] [] ?_ | refine dpy 7 127 [24, 25, 26, 27] [] puI ?_); all_goals (first | refine dn 8 255 [24, 25, 26, 27] [] ?_ | refine dpy 8 255 [24, 25, 26, 27] [] puL ?_); all_goals (first | refine dn 9 496 [20, 21, 22, 23] [] ?_ | refine dpy 9 496 [20, 21, 22, 23] [] (a_pure (sv := .one _) rfl) ?_); all_goals (first | refine dn 10 993 [20, 21, 22, 23] [] ?_ | refine dpy 10 993 [20, 21, 22, 23] [] puL ?_); all_goals (first | refine dn 11 1987 [20, 21, 22, 23] [] ?_ | refine dpy 11 1987 [20, 21, 22, 23] [] puI ?_); all_goals (first | refine dn 12 3975 [20, 21, 22, 23] [] ?_ | refine dpy 12 3975 [20, 21, 22, 23] [] puL ?_); all_goals (first | refine dn 13 8191 [] [] ?_ | refine dpy 13 8191 [] [] (callD1 (n := _) 0 (θ := []) (hD := (spanOk_ok _ _))) ?_); all_goals (first | refine dn 14 16383 [] [] ?_ | refine dpy 14 16383 [] [] (a_pure (sv := .one _) rfl) ?_); all_goals refine dp 15 32767 [] [] (a_pure (sv := .one _) rfl) ?_; all_goals (refine db 16 65535 [] [] pu1 ?_ ?_ <;> (intro hc; first | cases hc | (try simp only [decide_eq_true_eq, decide_eq_false_iff_not, Bool.not_eq_true', Bool.not_eq_false', Bool.not_eq_true, Bool.not_eq_false, Bool.and_eq_true, Bool.or_eq_false_iff, Bool.not_not] at hc); first | contradiction | (exfalso; omega) | skip)); all_goals (first | refine dn 17 131071 [] [] ?_ | refine dpy 17 131071 [] [] (a_pure (sv := .one _) rfl) ?_); all_goals (first | refine dn 18 262143 [] [] ?_ | refine dpy 18 262143 [] [] puL ?_); all_goals (first | refine dn 19 524287 [] [] ?_ | refine dpy 19 524287 [] [] puI ?_); all_goals (first | refine dn 20 1048575 [] [] ?_ | refine dpy 20 1048575 [] [] puL ?_); all_goals (first | refine dn 21 2097151 [] [] ?_ | refine dpy 21 2097151 [] [] (by first | exact puC | exact a_eqS rfl rfl rfl) ?_); all_goals refine dp 22 4194303 [] [] (a_pure (sv := .one _) rfl) ?_; all_goals (refine d_nil ?_; dsimp only [selT, selH, trues, SV.ren, C.ren, C.ren.all, tRen, GB.ren, calF, upOf, List.cons_append, List.nil_append, Nat.reduceAdd, setRow, List.map_cons, List.map_nil, scC, List.set_cons_zero, List.set_cons_succ, List.take_succ_cons, List.take_zero, List.drop_succ_cons, List.drop_zero]))); any_goals kernel_rfl)
            | (apply g_drN (id := 3) okM [[], [0], [0, 1], [0, 1, 2], [], [4], [4, 5], [4, 5, 6], [], [8], [8, 9], [8, 9, 10], [0, 1, 2, 3], [0, 1, 2, 3, 4, 5, 6, 7, 12], [0, 1, 2, 3, 4, 5, 6, 7, 8, 9, 10, 11, 12, 13]] [([], []), ([], []), ([], []), ([], []), ([], []), ([], []), ([], []), ([], []), ([], []), ([], []), ([], []), ([], []), ([], []), ([], []), ([], [])] 0; (focus (all_goals refine dp 0 0 [42, 43, 44, 45, 46, 47, 48, 49] [] (a_pure (sv := .one _) rfl) ?_; all_goals refine dp 1 1 [42, 43, 44, 45, 46, 47, 48, 49] [] puL ?_; all_goals refine dp 2 3 [42, 43, 44, 45, 46, 47, 48, 49] [] puI ?_; all_goals refine dp 3 7 [42, 43, 44, 45, 46, 47, 48, 49] [] puL ?_; all_goals refine dp 4 0 [38, 39, 40, 41, 46, 47, 48, 49, 5] [] (a_pure (sv := .one _) rfl) ?_; all_goals refine dp 5 1 [38, 39, 40, 41, 46, 47, 48, 49, 5] [] puL ?_; all_goals refine dp 6 3 [38, 39, 40, 41, 46, 47, 48, 49, 5] [] puI ?_; all_goals refine dp 7 7 [38, 39, 40, 41, 46, 47, 48, 49, 5] [] puL ?_; all_goals refine dp 8 0 [38, 39, 40, 41, 42, 43, 44, 45, 5, 6] [] (a_pure (sv := .one _) rfl) ?_; all_goals refine dp 9 1 [38, 39, 40, 41, 42, 43, 44, 45, 5, 6] [] puL ?_; all_goals refine dp 10 3 [38, 39, 40, 41, 42, 43, 44, 45, 5, 6] [] puI ?_; all_goals refine dp 11 7 [38, 39, 40, 41, 42, 43, 44, 45, 5, 6] [] puL ?_; all_goals refine dp 12 3840 [42, 43, 44, 45, 46, 47, 48, 49] [] pu1 ?_; all_goals refine dp 13 8161 [46, 47, 48, 49] [] pu1 ?_; all_goals refine dp 14 16383 [] [] pu1 ?_; all_goals (refine d_nil ?_; dsimp only [selT, selH, trues, SV.ren, C.ren, C.ren.all, tRen, GB.ren, calF, upOf, List.cons_append, List.nil_append, Nat.reduceAdd, setRow, List.map_cons, List.map_nil, scC, List.set_cons_zero, List.set_cons_succ, List.take_succ_cons, List.take_zero, List.drop_succ_cons, List.drop_zero]))); any_goals kernel_rfl)
            | (apply g_drN (id := 9) okM [[], [0], [0, 1], [0, 1, 2], [0, 1, 2, 3], [], [], [5, 6], [0, 1, 2, 3, 4, 5, 6, 7], [0, 1, 2, 3, 4, 5, 6, 7, 8], [], [10], [10, 11], [10, 11, 12], [10, 11, 12, 13], [], [10, 11, 12, 13, 14, 15], [10, 11, 12, 13, 14, 15, 16], [0, 1, 2, 3, 4, 5, 6, 7, 8, 9, 10, 11, 12, 13, 14, 15, 16, 17], [], [0, 1, 2, 3, 4, 5, 6, 7, 8, 9, 10, 11, 12, 13, 14, 15, 16, 17, 18, 19]] [([], []), ([], []), ([], []), ([], []), ([], []), ([], []), ([], []), ([], []), ([], []), ([], []), ([], []), ([], []), ([], []), ([], []), ([], []), ([], []), ([], []), ([], []), ([], []), ([], []), ([], [])] 0; (focus (all_goals refine dp 0 0 [84, 85, 86, 89, 90, 91, 92, 93, 94, 95, 96, 98] [] pu1 ?_; all_goals refine dp 1 1 [84, 85, 86, 89, 90, 91, 92, 93, 94, 95, 96, 98] [] (a_pure (sv := .one _) rfl) ?_; all_goals refine dp 2 3 [84, 85, 86, 89, 90, 91, 92, 93, 94, 95, 96, 98] [] (a_pure (sv := .one _) rfl) ?_; all_goals refine dp 3 7 [84, 85, 86, 89, 90, 91, 92, 93, 94, 95, 96, 98] [] (a_pure (sv := .one _) rfl) ?_; all_goals refine dp 4 15 [84, 85, 86, 89, 90, 91, 92, 93, 94, 95, 96, 98] [] puL ?_; all_goals refine dp 5 0 [79, 80, 81, 82, 83, 85, 89, 90, 91, 92, 93, 94, 95, 96, 98] [] pu1 ?_; all_goals refine dp 6 0 [79, 80, 81, 82, 83, 84, 89, 90, 91, 92, 93, 94, 95, 96, 98] [] pu1 ?_; all_goals refine dp 7 3 [79, 80, 81, 82, 83, 89, 90, 91, 92, 93, 94, 95, 96, 98] [] (a_add rfl rfl (by omega) (by omega)) ?_; all_goals refine dp 8 255 [89, 90, 91, 92, 93, 94, 95, 96, 98] [] puI ?_; all_goals refine dp 9 511 [89, 90, 91, 92, 93, 94, 95, 96, 98] [] puL ?_; all_goals refine dp 10 0 [79, 80, 81, 82, 83, 84, 85, 86, 87, 88, 94, 98] [] pu1 ?_; all_goals refine dp 11 1 [79, 80, 81, 82, 83, 84, 85, 86, 87, 88, 94, 98] [] (a_pure (sv := .one _) rfl) ?_; all_goals refine dp 12 3 [79, 80, 81, 82, 83, 84, 85, 86, 87, 88, 94, 98] [] (a_pure (sv := .one _) rfl) ?_; all_goals refine dp 13 7 [79, 80, 81, 82, 83, 84, 85, 86, 87, 88, 94, 98] [] (a_pure (sv := .one _) rfl) ?_; all_goals refine dp 14 15 [79, 80, 81, 82, 83, 84, 85, 86, 87, 88, 94, 98] [] puL ?_; all_goals refine dp 15 0 [79, 80, 81, 82, 83, 84, 85, 86, 87, 88, 89, 90, 91, 92, 93, 98] [] pu1 ?_; all_goals refine dp 16 63 [79, 80, 81, 82, 83, 84, 85, 86, 87, 88, 98] [] puI ?_; all_goals refine dp 17 127 [79, 80, 81, 82, 83, 84, 85, 86, 87, 88, 98] [] puL ?_; all_goals refine dp 18 262143 [98] [] (a_sub rfl rfl (by omega) (by omega)) ?_; all_goals refine dp 19 0 [79, 80, 81, 82, 83, 84, 85, 86, 87, 88, 89, 90, 91, 92, 93, 94, 95, 96, 97] [] pu1 ?_; all_goals refine dp 20 1048575 [] [] (by first | exact a_ne rfl rfl | exact a_neS rfl rfl rfl) ?_; all_goals (refine d_nil ?_; dsimp only [selT, selH, trues, SV.ren, C.ren, C.ren.all, tRen, GB.ren, calF, upOf, List.cons_append, List.nil_append, Nat.reduceAdd, setRow, List.map_cons, List.map_nil, scC, List.set_cons_zero, List.set_cons_succ, List.take_succ_cons, List.take_zero, List.drop_succ_cons, List.drop_zero]))); any_goals kernel_rfl)
            | (refine o_gs rfl rfl (fun hc => ?_) (fun hc => ?_) <;> (try simp only [decide_eq_true_eq, decide_eq_false_iff_not, Bool.not_eq_true', Bool.not_eq_false', Bool.not_eq_true, Bool.not_eq_false, Bool.and_eq_true, Bool.or_eq_false_iff, Bool.not_not] at hc) <;> (try (first | contradiction | (exfalso; omega))))
            | (refine g_cond rfl (fun hc => ?_) (fun hc => ?_) <;> (try simp only [decide_eq_true_eq, decide_eq_false_iff_not, Bool.not_eq_true', Bool.not_eq_false', Bool.not_eq_true, Bool.not_eq_false, Bool.and_eq_true, Bool.or_eq_false_iff, Bool.not_not] at hc) <;> (try (first | contradiction | (exfalso; omega))))
          · simp only [ea, eb] at *
            repeat' first
              | refine g_seq ?_
              | refine g_skip ?_
              | refine g_exit ?_
              | refine g_block ?_
              | refine g_reg ?_
              | refine g_if_t rfl ?_
              | refine g_if_f rfl ?_
              | refine o_nil ?_
              | refine q_s ?_
              | refine q_se ?_
              | refine q_b ?_
              | refine q_be rfl ?_
              | refine q_bn rfl ?_
              | refine q_le ?_
              | refine q_ce ?_
              | (apply n3; exact a_new (gb := .bx _) rfl; exact rfl; (try dsimp only [List.map_cons, List.map_nil, scC, Nat.reduceAdd]))
              | (apply p3; (first | exact pu1 | exact puL | exact a_add rfl rfl (by omega) (by omega)); exact rfl)
              | (apply c4 3; exact callK0 (θ := []) (hD := (afterSteps_ok _ _ preB38 preB38)); exact rfl; exact rfl; exact rfl; (try dsimp only [SV.ren, C.ren, C.ren.all, tRen, GB.ren, calF, upOf, List.cons_append, List.nil_append, Nat.reduceAdd]))
              | (apply c4 3; exact callK0 (θ := []) (hD := (tracked_ok m _ hv preB38 preB38)); exact rfl; exact rfl; exact rfl; (try dsimp only [SV.ren, C.ren, C.ren.all, tRen, GB.ren, calF, upOf, List.cons_append, List.nil_append, Nat.reduceAdd]))
              | refine o_no rfl rfl rfl rfl ?_
              | refine o_noN rfl rfl rfl ?_
              | (apply py3; exact rfl; exact rfl; (first | exact pu1 | exact puL | exact a_add rfl rfl (by omega) (by omega)); exact rfl; exact rfl)
              | (apply ny3; exact rfl; exact rfl; exact a_new (gb := .bx _) rfl; exact rfl; exact rfl)
              | (apply cy4 3; exact rfl; exact rfl; exact callK0 (θ := []) (hD := (afterSteps_ok _ _ preB38 preB38)); exact rfl; exact rfl; exact rfl; exact rfl; (try dsimp only [SV.ren, C.ren, C.ren.all, tRen, GB.ren, calF, upOf, List.cons_append, List.nil_append, Nat.reduceAdd]))
              | (apply cy4 3; exact rfl; exact rfl; exact callK0 (θ := []) (hD := (tracked_ok m _ hv preB38 preB38)); exact rfl; exact rfl; exact rfl; exact rfl; (try dsimp only [SV.ren, C.ren, C.ren.all, tRen, GB.ren, calF, upOf, List.cons_append, List.nil_append, Nat.reduceAdd]))
              | (apply g_drN (id := 1) okM [[], [], [0, 1], [0, 1, 2], [0, 1, 2, 3], [0, 1, 2, 3, 4], [0, 1, 2, 3, 4, 5], [0, 1, 2, 3, 4, 5, 6], [0, 1, 2, 3, 4, 5, 6, 7], [0, 1, 2, 3, 4], [0, 1, 2, 3, 4, 9], [0, 1, 2, 3, 4, 9, 10], [0, 1, 2, 3, 4, 9, 10, 11], [0, 1, 2, 3, 4, 5, 6, 7, 8, 9, 10, 11, 12], [0, 1, 2, 3, 4, 5, 6, 7, 8, 9, 10, 11, 12, 13], [0, 1, 2, 3, 4, 5, 6, 7, 8, 9, 10, 11, 12, 13, 14], [0, 1, 2, 3, 4, 5, 6, 7, 8, 9, 10, 11, 12, 13, 14, 15], [0, 1, 2, 3, 4, 5, 6, 7, 8, 9, 10, 11, 12, 13, 14, 15, 16], [0, 1, 2, 3, 4, 5, 6, 7, 8, 9, 10, 11, 12, 13, 14, 15, 16, 17], [0, 1, 2, 3, 4, 5, 6, 7, 8, 9, 10, 11, 12, 13, 14, 15, 16, 17, 18], [0, 1, 2, 3, 4, 5, 6, 7, 8, 9, 10, 11, 12, 13, 14, 15, 16, 17, 18, 19], [0, 1, 2, 3, 4, 5, 6, 7, 8, 9, 10, 11, 12, 13, 14, 15, 16, 17, 18, 19, 20], [0, 1, 2, 3, 4, 5, 6, 7, 8, 9, 10, 11, 12, 13, 14, 15, 16, 17, 18, 19, 20, 21]] [([], []), ([], []), ([], []), ([], []), ([], []), ([], []), ([], []), ([], []), ([], []), ([], []), ([], []), ([], []), ([], []), ([], []), ([], []), ([], []), ([], []), ([], []), ([], []), ([], []), ([], []), ([], []), ([], [])] 0; (focus (all_goals refine dp 0 0 [16] [] puL ?_; all_goals refine dp 1 0 [15] [] puL ?_; all_goals refine dp 2 3 [] [] (callD1 (n := _) 0 (θ := []) (hD := (proofOf_ok _ _ _ _ preB38 preB38 preB38 preB38))) ?_; all_goals refine dp 3 7 [] [] (a_pure (sv := .one _) rfl) ?_; all_goals (refine db 4 15 [] [] pu1 ?_ ?_ <;> (intro hc; first | cases hc | (try simp only [decide_eq_true_eq, decide_eq_false_iff_not, Bool.not_eq_true', Bool.not_eq_false', Bool.not_eq_true, Bool.not_eq_false, Bool.and_eq_true, Bool.or_eq_false_iff, Bool.not_not] at hc); first | contradiction | (exfalso; omega) | skip)); all_goals (first | refine dn 5 31 [24, 25, 26, 27] [] ?_ | refine dpy 5 31 [24, 25, 26, 27] [] (a_pure (sv := .one _) rfl) ?_); all_goals (first | refine dn 6 63 [24, 25, 26, 27] [] ?_ | refine dpy 6 63 [24, 25, 26, 27] [] puL ?_); all_goals (first | refine dn 7 127 [24, 25, 26, 27] [] ?_ | refine dpy 7 127 [24, 25, 26, 27] [] puI ?_); all_goals (first | refine dn 8 255 [24, 25, 26, 27] [] ?_ | refine dpy 8 255 [24, 25, 26, 27] [] puL ?_); all_goals (first | refine dn 9 496 [20, 21, 22, 23] [] ?_ | refine dpy 9 496 [20, 21, 22, 23] [] (a_pure (sv := .one _) rfl) ?_); all_goals (first | refine dn 10 993 [20, 21, 22, 23] [] ?_ | refine dpy 10 993 [20, 21, 22, 23] [] puL ?_); all_goals (first | refine dn 11 1987 [20, 21, 22, 23] [] ?_ | refine dpy 11 1987 [20, 21, 22, 23] [] puI ?_); all_goals (first | refine dn 12 3975 [20, 21, 22, 23] [] ?_ | refine dpy 12 3975 [20, 21, 22, 23] [] puL ?_); all_goals (first | refine dn 13 8191 [] [] ?_ | refine dpy 13 8191 [] [] (callD1 (n := _) 0 (θ := []) (hD := (spanOk_ok _ _))) ?_); all_goals (first | refine dn 14 16383 [] [] ?_ | refine dpy 14 16383 [] [] (a_pure (sv := .one _) rfl) ?_); all_goals refine dp 15 32767 [] [] (a_pure (sv := .one _) rfl) ?_; all_goals (refine db 16 65535 [] [] pu1 ?_ ?_ <;> (intro hc; first | cases hc | (try simp only [decide_eq_true_eq, decide_eq_false_iff_not, Bool.not_eq_true', Bool.not_eq_false', Bool.not_eq_true, Bool.not_eq_false, Bool.and_eq_true, Bool.or_eq_false_iff, Bool.not_not] at hc); first | contradiction | (exfalso; omega) | skip)); all_goals (first | refine dn 17 131071 [] [] ?_ | refine dpy 17 131071 [] [] (a_pure (sv := .one _) rfl) ?_); all_goals (first | refine dn 18 262143 [] [] ?_ | refine dpy 18 262143 [] [] puL ?_); all_goals (first | refine dn 19 524287 [] [] ?_ | refine dpy 19 524287 [] [] puI ?_); all_goals (first | refine dn 20 1048575 [] [] ?_ | refine dpy 20 1048575 [] [] puL ?_); all_goals (first | refine dn 21 2097151 [] [] ?_ | refine dpy 21 2097151 [] [] (by first | exact puC | exact a_eqS rfl rfl rfl) ?_); all_goals refine dp 22 4194303 [] [] (a_pure (sv := .one _) rfl) ?_; all_goals (refine d_nil ?_; dsimp only [selT, selH, trues, SV.ren, C.ren, C.ren.all, tRen, GB.ren, calF, upOf, List.cons_append, List.nil_append, Nat.reduceAdd, setRow, List.map_cons, List.map_nil, scC, List.set_cons_zero, List.set_cons_succ, List.take_succ_cons, List.take_zero, List.drop_succ_cons, List.drop_zero]))); any_goals kernel_rfl)
              | (apply g_drN (id := 3) okM [[], [0], [0, 1], [0, 1, 2], [], [4], [4, 5], [4, 5, 6], [], [8], [8, 9], [8, 9, 10], [0, 1, 2, 3], [0, 1, 2, 3, 4, 5, 6, 7, 12], [0, 1, 2, 3, 4, 5, 6, 7, 8, 9, 10, 11, 12, 13]] [([], []), ([], []), ([], []), ([], []), ([], []), ([], []), ([], []), ([], []), ([], []), ([], []), ([], []), ([], []), ([], []), ([], []), ([], [])] 0; (focus (all_goals refine dp 0 0 [42, 43, 44, 45, 46, 47, 48, 49] [] (a_pure (sv := .one _) rfl) ?_; all_goals refine dp 1 1 [42, 43, 44, 45, 46, 47, 48, 49] [] puL ?_; all_goals refine dp 2 3 [42, 43, 44, 45, 46, 47, 48, 49] [] puI ?_; all_goals refine dp 3 7 [42, 43, 44, 45, 46, 47, 48, 49] [] puL ?_; all_goals refine dp 4 0 [38, 39, 40, 41, 46, 47, 48, 49, 5] [] (a_pure (sv := .one _) rfl) ?_; all_goals refine dp 5 1 [38, 39, 40, 41, 46, 47, 48, 49, 5] [] puL ?_; all_goals refine dp 6 3 [38, 39, 40, 41, 46, 47, 48, 49, 5] [] puI ?_; all_goals refine dp 7 7 [38, 39, 40, 41, 46, 47, 48, 49, 5] [] puL ?_; all_goals refine dp 8 0 [38, 39, 40, 41, 42, 43, 44, 45, 5, 6] [] (a_pure (sv := .one _) rfl) ?_; all_goals refine dp 9 1 [38, 39, 40, 41, 42, 43, 44, 45, 5, 6] [] puL ?_; all_goals refine dp 10 3 [38, 39, 40, 41, 42, 43, 44, 45, 5, 6] [] puI ?_; all_goals refine dp 11 7 [38, 39, 40, 41, 42, 43, 44, 45, 5, 6] [] puL ?_; all_goals refine dp 12 3840 [42, 43, 44, 45, 46, 47, 48, 49] [] pu1 ?_; all_goals refine dp 13 8161 [46, 47, 48, 49] [] pu1 ?_; all_goals refine dp 14 16383 [] [] pu1 ?_; all_goals (refine d_nil ?_; dsimp only [selT, selH, trues, SV.ren, C.ren, C.ren.all, tRen, GB.ren, calF, upOf, List.cons_append, List.nil_append, Nat.reduceAdd, setRow, List.map_cons, List.map_nil, scC, List.set_cons_zero, List.set_cons_succ, List.take_succ_cons, List.take_zero, List.drop_succ_cons, List.drop_zero]))); any_goals kernel_rfl)
              | (apply g_drN (id := 9) okM [[], [0], [0, 1], [0, 1, 2], [0, 1, 2, 3], [], [], [5, 6], [0, 1, 2, 3, 4, 5, 6, 7], [0, 1, 2, 3, 4, 5, 6, 7, 8], [], [10], [10, 11], [10, 11, 12], [10, 11, 12, 13], [], [10, 11, 12, 13, 14, 15], [10, 11, 12, 13, 14, 15, 16], [0, 1, 2, 3, 4, 5, 6, 7, 8, 9, 10, 11, 12, 13, 14, 15, 16, 17], [], [0, 1, 2, 3, 4, 5, 6, 7, 8, 9, 10, 11, 12, 13, 14, 15, 16, 17, 18, 19]] [([], []), ([], []), ([], []), ([], []), ([], []), ([], []), ([], []), ([], []), ([], []), ([], []), ([], []), ([], []), ([], []), ([], []), ([], []), ([], []), ([], []), ([], []), ([], []), ([], []), ([], [])] 0; (focus (all_goals refine dp 0 0 [84, 85, 86, 89, 90, 91, 92, 93, 94, 95, 96, 98] [] pu1 ?_; all_goals refine dp 1 1 [84, 85, 86, 89, 90, 91, 92, 93, 94, 95, 96, 98] [] (a_pure (sv := .one _) rfl) ?_; all_goals refine dp 2 3 [84, 85, 86, 89, 90, 91, 92, 93, 94, 95, 96, 98] [] (a_pure (sv := .one _) rfl) ?_; all_goals refine dp 3 7 [84, 85, 86, 89, 90, 91, 92, 93, 94, 95, 96, 98] [] (a_pure (sv := .one _) rfl) ?_; all_goals refine dp 4 15 [84, 85, 86, 89, 90, 91, 92, 93, 94, 95, 96, 98] [] puL ?_; all_goals refine dp 5 0 [79, 80, 81, 82, 83, 85, 89, 90, 91, 92, 93, 94, 95, 96, 98] [] pu1 ?_; all_goals refine dp 6 0 [79, 80, 81, 82, 83, 84, 89, 90, 91, 92, 93, 94, 95, 96, 98] [] pu1 ?_; all_goals refine dp 7 3 [79, 80, 81, 82, 83, 89, 90, 91, 92, 93, 94, 95, 96, 98] [] (a_add rfl rfl (by omega) (by omega)) ?_; all_goals refine dp 8 255 [89, 90, 91, 92, 93, 94, 95, 96, 98] [] puI ?_; all_goals refine dp 9 511 [89, 90, 91, 92, 93, 94, 95, 96, 98] [] puL ?_; all_goals refine dp 10 0 [79, 80, 81, 82, 83, 84, 85, 86, 87, 88, 94, 98] [] pu1 ?_; all_goals refine dp 11 1 [79, 80, 81, 82, 83, 84, 85, 86, 87, 88, 94, 98] [] (a_pure (sv := .one _) rfl) ?_; all_goals refine dp 12 3 [79, 80, 81, 82, 83, 84, 85, 86, 87, 88, 94, 98] [] (a_pure (sv := .one _) rfl) ?_; all_goals refine dp 13 7 [79, 80, 81, 82, 83, 84, 85, 86, 87, 88, 94, 98] [] (a_pure (sv := .one _) rfl) ?_; all_goals refine dp 14 15 [79, 80, 81, 82, 83, 84, 85, 86, 87, 88, 94, 98] [] puL ?_; all_goals refine dp 15 0 [79, 80, 81, 82, 83, 84, 85, 86, 87, 88, 89, 90, 91, 92, 93, 98] [] pu1 ?_; all_goals refine dp 16 63 [79, 80, 81, 82, 83, 84, 85, 86, 87, 88, 98] [] puI ?_; all_goals refine dp 17 127 [79, 80, 81, 82, 83, 84, 85, 86, 87, 88, 98] [] puL ?_; all_goals refine dp 18 262143 [98] [] (a_sub rfl rfl (by omega) (by omega)) ?_; all_goals refine dp 19 0 [79, 80, 81, 82, 83, 84, 85, 86, 87, 88, 89, 90, 91, 92, 93, 94, 95, 96, 97] [] pu1 ?_; all_goals refine dp 20 1048575 [] [] (by first | exact a_ne rfl rfl | exact a_neS rfl rfl rfl) ?_; all_goals (refine d_nil ?_; dsimp only [selT, selH, trues, SV.ren, C.ren, C.ren.all, tRen, GB.ren, calF, upOf, List.cons_append, List.nil_append, Nat.reduceAdd, setRow, List.map_cons, List.map_nil, scC, List.set_cons_zero, List.set_cons_succ, List.take_succ_cons, List.take_zero, List.drop_succ_cons, List.drop_zero]))); any_goals kernel_rfl)
              | (apply g_drN (id := 11) okM [[], [0], [], [0, 1, 2], [], [], [5], [5, 6], [5, 6, 7], [5, 6, 7, 8], [], [], [], [11, 12], [11, 12, 13], [5, 6, 7, 8, 9, 10, 11, 12, 13, 14], [], [0, 1, 2, 3, 5, 6, 7, 8, 9, 10, 11, 12, 13, 14, 15, 16], [0, 1, 2, 3, 4, 5, 6, 7, 8, 9, 10, 11, 12, 13, 14, 15, 16, 17], [0, 1, 2, 3, 4, 5, 6, 7, 8, 9, 10, 11, 12, 13, 14, 15, 16, 17, 18]] [([], []), ([], []), ([], []), ([], []), ([], []), ([], []), ([], []), ([], []), ([], []), ([], []), ([], []), ([], []), ([], []), ([], []), ([], []), ([], []), ([], []), ([], []), ([], []), ([], [])] 0; (focus (all_goals refine dp 0 0 [102, 104, 105, 106, 107, 108, 109, 110, 111, 112, 113, 114, 115, 116] [] pu1 ?_; all_goals refine dp 1 1 [102, 104, 105, 106, 107, 108, 109, 110, 111, 112, 113, 114, 115, 116] [] (callFD 0 (hD := (configC_ok _ _ preB38 preB38))) ?_; all_goals refine dp 2 0 [100, 101, 104, 105, 106, 107, 108, 109, 110, 111, 112, 113, 114, 115, 116] [] pu1 ?_; all_goals refine dp 3 7 [104, 105, 106, 107, 108, 109, 110, 111, 112, 113, 114, 115, 116] [] (callFD 0 (hD := (configC_ok _ _ preB38 preB38))) ?_; all_goals refine dp 4 0 [100, 101, 102, 103, 105, 106, 107, 108, 109, 110, 111, 112, 113, 114, 115, 116, 117] [] pu1 ?_; all_goals refine dp 5 0 [100, 101, 102, 103, 104, 110, 111, 112, 113, 114, 116] [] pu1 ?_; all_goals refine dp 6 1 [100, 101, 102, 103, 104, 110, 111, 112, 113, 114, 116] [] (a_pure (sv := .one _) rfl) ?_; all_goals refine dp 7 3 [100, 101, 102, 103, 104, 110, 111, 112, 113, 114, 116] [] (a_pure (sv := .one _) rfl) ?_; all_goals refine dp 8 7 [100, 101, 102, 103, 104, 110, 111, 112, 113, 114, 116] [] (a_pure (sv := .one _) rfl) ?_; all_goals refine dp 9 15 [100, 101, 102, 103, 104, 110, 111, 112, 113, 114, 116] [] puL ?_; all_goals refine dp 10 0 [100, 101, 102, 103, 104, 105, 106, 107, 108, 109, 111, 112, 113, 114, 116] [] pu1 ?_; all_goals refine dp 11 0 [100, 101, 102, 103, 104, 105, 106, 107, 108, 109, 110, 112, 116] [] pu1 ?_; all_goals refine dp 12 0 [100, 101, 102, 103, 104, 105, 106, 107, 108, 109, 110, 111, 116] [] pu1 ?_; all_goals refine dp 13 3 [100, 101, 102, 103, 104, 105, 106, 107, 108, 109, 110, 116] [] (a_add rfl rfl (by omega) (by omega)) ?_; all_goals refine dp 14 7 [100, 101, 102, 103, 104, 105, 106, 107, 108, 109, 110, 116] [] (a_add rfl rfl (by omega) (by omega)) ?_; all_goals refine dp 15 1023 [100, 101, 102, 103, 104, 116] [] (a_slM rfl rfl rfl rfl (fS rfl) (by omega) (by omega) (by omega) (by exact rfl)) ?_; all_goals refine dp 16 0 [100, 101, 102, 103, 104, 105, 106, 107, 108, 109, 110, 111, 112, 113, 114, 115] [] pu1 ?_; all_goals refine dp 17 126975 [104] [] (callD1 (n := _) 0 (θ := []) (hD := (behindHead_ok _ _ preB38 preB38 preB38 preB38 preB38 preB38 preB38 preB38))) ?_; all_goals refine dp 18 262143 [] [] (callD1 (n := _) 0 (θ := []) (hD := (shiftFits_ok _ _ _ _ preB38 preB38 preB38 preB38 preB38 preB38))) ?_; all_goals refine dp 19 524287 [] [] pu1 ?_; all_goals (refine d_nil ?_; dsimp only [selT, selH, trues, SV.ren, C.ren, C.ren.all, tRen, GB.ren, calF, upOf, List.cons_append, List.nil_append, Nat.reduceAdd, setRow, List.map_cons, List.map_nil, scC, List.set_cons_zero, List.set_cons_succ, List.take_succ_cons, List.take_zero, List.drop_succ_cons, List.drop_zero]))); any_goals kernel_rfl)
              | (refine o_gs rfl rfl (fun hc => ?_) (fun hc => ?_) <;> (try simp only [decide_eq_true_eq, decide_eq_false_iff_not, Bool.not_eq_true', Bool.not_eq_false', Bool.not_eq_true, Bool.not_eq_false, Bool.and_eq_true, Bool.or_eq_false_iff, Bool.not_not] at hc) <;> (try (first | contradiction | (exfalso; omega))))
              | (refine g_cond rfl (fun hc => ?_) (fun hc => ?_) <;> (try simp only [decide_eq_true_eq, decide_eq_false_iff_not, Bool.not_eq_true', Bool.not_eq_false', Bool.not_eq_true, Bool.not_eq_false, Bool.and_eq_true, Bool.or_eq_false_iff, Bool.not_not] at hc) <;> (try (first | contradiction | (exfalso; omega))))
            repeat (first | refine g_ret ?_ | refine q_sr ?_ | refine q_br ?_ | refine q_lr ?_ | refine q_cr ?_)
            refine ends_id ?_
            refine endK [] (h2 := ?_) (h3 := ?_) (nd := ?_)
            all_goals (repeat' first | with_reducible exact SVLe.refl | exact SVLe.any | exact SVLe.one (.sh rfl) | exact SVLe.one (.nil (by decide)) | refine SVLe.agg ?_ | refine SVLe.tup ?_ | exact TLe.nil | refine TLe.cons ?_ ?_ | exact CsLe.nil | refine CsLe.cons ?_ ?_ | exact CLe.refl | exact CLe.sh rfl | exact CLe.nil (by decide) | refine cle_i ?_ | refine cle_b ?_ | exact trivial | refine And.intro ?_ ?_ | exact Or.inl rfl | exact Or.inr rfl | refine Or.inr (row_eq ?_) | (refine Or.inr (bx_eq rfl rfl ?_); (try dsimp only [C.ren, C.ren.all]); (try exact rfl)) | exact SVLe.refl | refine sle_i ?_ | refine sle_b ?_)
            all_goals first | exact (show nodupB _ = true from rfl) | exact Or.inr rfl | ((symm; unfold shRes; rw [if_pos trivial]; dsimp only; rw [decide_eq_false (show ¬ 0 + (pb - pa) = d by omega)]; simp))
          · simp only [ea, eb] at *
            have hX : (P.drop a.toNat).take ((a + b + 1).toNat - a.toNat) = Q := by
              rw [hd1, List.take_of_length_le (by omega)]
            have hQb : ∀ p ∈ Q, -1000000 ≤ p ∧ p ≤ 1000000 := fun p hp => by
              have := hB p (List.mem_of_mem_drop (hd1 ▸ hp))
              exact ⟨by omega, by omega⟩
            have hQm := foldl_bd min (fun x y => by omega) (-1000000) 1000000 Q (Q.headD 0) (by omega) (by omega) hQb
            have hQx := foldl_bd max (fun x y => by omega) (-1000000) 1000000 Q (Q.headD 0) (by omega) (by omega) hQb
            have x1 : ((((P.drop a.toNat).take ((a + b + 1).toNat - a.toNat)).length : Nat) : Int) = b + 1 := by rw [hX]; omega
            have x2 : ((P.drop a.toNat).take ((a + b + 1).toNat - a.toNat)).headD 0 = pa := by rw [hX]; exact hh1
            have x3 : -1000000 ≤ minL ((P.drop a.toNat).take ((a + b + 1).toNat - a.toNat)) := by rw [hX]; unfold minL; exact hQm.1
            have x4 : minL ((P.drop a.toNat).take ((a + b + 1).toNat - a.toNat)) ≤ 1000000 := by rw [hX]; unfold minL; exact hQm.2
            have x5 : -1000000 ≤ maxL ((P.drop a.toNat).take ((a + b + 1).toNat - a.toNat)) := by rw [hX]; unfold maxL; exact hQx.1
            have x6 : maxL ((P.drop a.toNat).take ((a + b + 1).toNat - a.toNat)) ≤ 1000000 := by rw [hX]; unfold maxL; exact hQx.2
            have x7 : behind Q d = behind ((P.drop a.toNat).take ((a + b + 1).toNat - a.toNat)) d := by rw [hX]
            have x8 : -16777216 ≤ behind Q d := by unfold behind; unfold minL maxL; split <;> omega
            have x9 : behind Q d ≤ 16777216 := by unfold behind; unfold minL maxL; split <;> omega
            rw [x7] at x8 x9
            refine g_turn (t_freeze (i := 9) rfl nowR) ?_
            repeat' first
              | refine g_seq ?_
              | refine g_skip ?_
              | refine g_exit ?_
              | refine g_block ?_
              | refine g_reg ?_
              | refine g_if_t rfl ?_
              | refine g_if_f rfl ?_
              | refine o_nil ?_
              | refine q_s ?_
              | refine q_se ?_
              | refine q_b ?_
              | refine q_be rfl ?_
              | refine q_bn rfl ?_
              | refine q_le ?_
              | refine q_ce ?_
              | (apply n3; exact a_new (gb := .bx _) rfl; exact rfl; (try dsimp only [List.map_cons, List.map_nil, scC, Nat.reduceAdd]))
              | (apply p3; (first | exact pu1 | exact puL | exact a_add rfl rfl (by omega) (by omega)); exact rfl)
              | (apply c4 3; exact callK0 (θ := []) (hD := (afterSteps_ok _ _ preB38 preB38)); exact rfl; exact rfl; exact rfl; (try dsimp only [SV.ren, C.ren, C.ren.all, tRen, GB.ren, calF, upOf, List.cons_append, List.nil_append, Nat.reduceAdd]))
              | (apply c4 3; exact callK0 (θ := []) (hD := (tracked_ok m _ hv preB38 preB38)); exact rfl; exact rfl; exact rfl; (try dsimp only [SV.ren, C.ren, C.ren.all, tRen, GB.ren, calF, upOf, List.cons_append, List.nil_append, Nat.reduceAdd]))
              | refine o_no rfl rfl rfl rfl ?_
              | refine o_noN rfl rfl rfl ?_
              | (apply py3; exact rfl; exact rfl; (first | exact pu1 | exact puL | exact a_add rfl rfl (by omega) (by omega)); exact rfl; exact rfl)
              | (apply ny3; exact rfl; exact rfl; exact a_new (gb := .bx _) rfl; exact rfl; exact rfl)
              | (apply cy4 3; exact rfl; exact rfl; exact callK0 (θ := []) (hD := (afterSteps_ok _ _ preB38 preB38)); exact rfl; exact rfl; exact rfl; exact rfl; (try dsimp only [SV.ren, C.ren, C.ren.all, tRen, GB.ren, calF, upOf, List.cons_append, List.nil_append, Nat.reduceAdd]))
              | (apply cy4 3; exact rfl; exact rfl; exact callK0 (θ := []) (hD := (tracked_ok m _ hv preB38 preB38)); exact rfl; exact rfl; exact rfl; exact rfl; (try dsimp only [SV.ren, C.ren, C.ren.all, tRen, GB.ren, calF, upOf, List.cons_append, List.nil_append, Nat.reduceAdd]))
              | (apply g_drN (id := 1) okM [[], [], [0, 1], [0, 1, 2], [0, 1, 2, 3], [0, 1, 2, 3, 4], [0, 1, 2, 3, 4, 5], [0, 1, 2, 3, 4, 5, 6], [0, 1, 2, 3, 4, 5, 6, 7], [0, 1, 2, 3, 4], [0, 1, 2, 3, 4, 9], [0, 1, 2, 3, 4, 9, 10], [0, 1, 2, 3, 4, 9, 10, 11], [0, 1, 2, 3, 4, 5, 6, 7, 8, 9, 10, 11, 12], [0, 1, 2, 3, 4, 5, 6, 7, 8, 9, 10, 11, 12, 13], [0, 1, 2, 3, 4, 5, 6, 7, 8, 9, 10, 11, 12, 13, 14], [0, 1, 2, 3, 4, 5, 6, 7, 8, 9, 10, 11, 12, 13, 14, 15], [0, 1, 2, 3, 4, 5, 6, 7, 8, 9, 10, 11, 12, 13, 14, 15, 16], [0, 1, 2, 3, 4, 5, 6, 7, 8, 9, 10, 11, 12, 13, 14, 15, 16, 17], [0, 1, 2, 3, 4, 5, 6, 7, 8, 9, 10, 11, 12, 13, 14, 15, 16, 17, 18], [0, 1, 2, 3, 4, 5, 6, 7, 8, 9, 10, 11, 12, 13, 14, 15, 16, 17, 18, 19], [0, 1, 2, 3, 4, 5, 6, 7, 8, 9, 10, 11, 12, 13, 14, 15, 16, 17, 18, 19, 20], [0, 1, 2, 3, 4, 5, 6, 7, 8, 9, 10, 11, 12, 13, 14, 15, 16, 17, 18, 19, 20, 21]] [([], []), ([], []), ([], []), ([], []), ([], []), ([], []), ([], []), ([], []), ([], []), ([], []), ([], []), ([], []), ([], []), ([], []), ([], []), ([], []), ([], []), ([], []), ([], []), ([], []), ([], []), ([], []), ([], [])] 0; (focus (all_goals refine dp 0 0 [16] [] puL ?_; all_goals refine dp 1 0 [15] [] puL ?_; all_goals refine dp 2 3 [] [] (callD1 (n := _) 0 (θ := []) (hD := (proofOf_ok _ _ _ _ preB38 preB38 preB38 preB38))) ?_; all_goals refine dp 3 7 [] [] (a_pure (sv := .one _) rfl) ?_; all_goals (refine db 4 15 [] [] pu1 ?_ ?_ <;> (intro hc; first | cases hc | (try simp only [decide_eq_true_eq, decide_eq_false_iff_not, Bool.not_eq_true', Bool.not_eq_false', Bool.not_eq_true, Bool.not_eq_false, Bool.and_eq_true, Bool.or_eq_false_iff, Bool.not_not] at hc); first | contradiction | (exfalso; omega) | skip)); all_goals (first | refine dn 5 31 [24, 25, 26, 27] [] ?_ | refine dpy 5 31 [24, 25, 26, 27] [] (a_pure (sv := .one _) rfl) ?_); all_goals (first | refine dn 6 63 [24, 25, 26, 27] [] ?_ | refine dpy 6 63 [24, 25, 26, 27] [] puL ?_); all_goals (first | refine dn 7 127 [24, 25, 26, 27] [] ?_ | refine dpy 7 127 [24, 25, 26, 27] [] puI ?_); all_goals (first | refine dn 8 255 [24, 25, 26, 27] [] ?_ | refine dpy 8 255 [24, 25, 26, 27] [] puL ?_); all_goals (first | refine dn 9 496 [20, 21, 22, 23] [] ?_ | refine dpy 9 496 [20, 21, 22, 23] [] (a_pure (sv := .one _) rfl) ?_); all_goals (first | refine dn 10 993 [20, 21, 22, 23] [] ?_ | refine dpy 10 993 [20, 21, 22, 23] [] puL ?_); all_goals (first | refine dn 11 1987 [20, 21, 22, 23] [] ?_ | refine dpy 11 1987 [20, 21, 22, 23] [] puI ?_); all_goals (first | refine dn 12 3975 [20, 21, 22, 23] [] ?_ | refine dpy 12 3975 [20, 21, 22, 23] [] puL ?_); all_goals (first | refine dn 13 8191 [] [] ?_ | refine dpy 13 8191 [] [] (callD1 (n := _) 0 (θ := []) (hD := (spanOk_ok _ _))) ?_); all_goals (first | refine dn 14 16383 [] [] ?_ | refine dpy 14 16383 [] [] (a_pure (sv := .one _) rfl) ?_); all_goals refine dp 15 32767 [] [] (a_pure (sv := .one _) rfl) ?_; all_goals (refine db 16 65535 [] [] pu1 ?_ ?_ <;> (intro hc; first | cases hc | (try simp only [decide_eq_true_eq, decide_eq_false_iff_not, Bool.not_eq_true', Bool.not_eq_false', Bool.not_eq_true, Bool.not_eq_false, Bool.and_eq_true, Bool.or_eq_false_iff, Bool.not_not] at hc); first | contradiction | (exfalso; omega) | skip)); all_goals (first | refine dn 17 131071 [] [] ?_ | refine dpy 17 131071 [] [] (a_pure (sv := .one _) rfl) ?_); all_goals (first | refine dn 18 262143 [] [] ?_ | refine dpy 18 262143 [] [] puL ?_); all_goals (first | refine dn 19 524287 [] [] ?_ | refine dpy 19 524287 [] [] puI ?_); all_goals (first | refine dn 20 1048575 [] [] ?_ | refine dpy 20 1048575 [] [] puL ?_); all_goals (first | refine dn 21 2097151 [] [] ?_ | refine dpy 21 2097151 [] [] (by first | exact puC | exact a_eqS rfl rfl rfl) ?_); all_goals refine dp 22 4194303 [] [] (a_pure (sv := .one _) rfl) ?_; all_goals (refine d_nil ?_; dsimp only [selT, selH, trues, SV.ren, C.ren, C.ren.all, tRen, GB.ren, calF, upOf, List.cons_append, List.nil_append, Nat.reduceAdd, setRow, List.map_cons, List.map_nil, scC, List.set_cons_zero, List.set_cons_succ, List.take_succ_cons, List.take_zero, List.drop_succ_cons, List.drop_zero]))); any_goals kernel_rfl)
              | (apply g_drN (id := 3) okM [[], [0], [0, 1], [0, 1, 2], [], [4], [4, 5], [4, 5, 6], [], [8], [8, 9], [8, 9, 10], [0, 1, 2, 3], [0, 1, 2, 3, 4, 5, 6, 7, 12], [0, 1, 2, 3, 4, 5, 6, 7, 8, 9, 10, 11, 12, 13]] [([], []), ([], []), ([], []), ([], []), ([], []), ([], []), ([], []), ([], []), ([], []), ([], []), ([], []), ([], []), ([], []), ([], []), ([], [])] 0; (focus (all_goals refine dp 0 0 [42, 43, 44, 45, 46, 47, 48, 49] [] (a_pure (sv := .one _) rfl) ?_; all_goals refine dp 1 1 [42, 43, 44, 45, 46, 47, 48, 49] [] puL ?_; all_goals refine dp 2 3 [42, 43, 44, 45, 46, 47, 48, 49] [] puI ?_; all_goals refine dp 3 7 [42, 43, 44, 45, 46, 47, 48, 49] [] puL ?_; all_goals refine dp 4 0 [38, 39, 40, 41, 46, 47, 48, 49, 5] [] (a_pure (sv := .one _) rfl) ?_; all_goals refine dp 5 1 [38, 39, 40, 41, 46, 47, 48, 49, 5] [] puL ?_; all_goals refine dp 6 3 [38, 39, 40, 41, 46, 47, 48, 49, 5] [] puI ?_; all_goals refine dp 7 7 [38, 39, 40, 41, 46, 47, 48, 49, 5] [] puL ?_; all_goals refine dp 8 0 [38, 39, 40, 41, 42, 43, 44, 45, 5, 6] [] (a_pure (sv := .one _) rfl) ?_; all_goals refine dp 9 1 [38, 39, 40, 41, 42, 43, 44, 45, 5, 6] [] puL ?_; all_goals refine dp 10 3 [38, 39, 40, 41, 42, 43, 44, 45, 5, 6] [] puI ?_; all_goals refine dp 11 7 [38, 39, 40, 41, 42, 43, 44, 45, 5, 6] [] puL ?_; all_goals refine dp 12 3840 [42, 43, 44, 45, 46, 47, 48, 49] [] pu1 ?_; all_goals refine dp 13 8161 [46, 47, 48, 49] [] pu1 ?_; all_goals refine dp 14 16383 [] [] pu1 ?_; all_goals (refine d_nil ?_; dsimp only [selT, selH, trues, SV.ren, C.ren, C.ren.all, tRen, GB.ren, calF, upOf, List.cons_append, List.nil_append, Nat.reduceAdd, setRow, List.map_cons, List.map_nil, scC, List.set_cons_zero, List.set_cons_succ, List.take_succ_cons, List.take_zero, List.drop_succ_cons, List.drop_zero]))); any_goals kernel_rfl)
              | (apply g_drN (id := 9) okM [[], [0], [0, 1], [0, 1, 2], [0, 1, 2, 3], [], [], [5, 6], [0, 1, 2, 3, 4, 5, 6, 7], [0, 1, 2, 3, 4, 5, 6, 7, 8], [], [10], [10, 11], [10, 11, 12], [10, 11, 12, 13], [], [10, 11, 12, 13, 14, 15], [10, 11, 12, 13, 14, 15, 16], [0, 1, 2, 3, 4, 5, 6, 7, 8, 9, 10, 11, 12, 13, 14, 15, 16, 17], [], [0, 1, 2, 3, 4, 5, 6, 7, 8, 9, 10, 11, 12, 13, 14, 15, 16, 17, 18, 19]] [([], []), ([], []), ([], []), ([], []), ([], []), ([], []), ([], []), ([], []), ([], []), ([], []), ([], []), ([], []), ([], []), ([], []), ([], []), ([], []), ([], []), ([], []), ([], []), ([], []), ([], [])] 0; (focus (all_goals refine dp 0 0 [84, 85, 86, 89, 90, 91, 92, 93, 94, 95, 96, 98] [] pu1 ?_; all_goals refine dp 1 1 [84, 85, 86, 89, 90, 91, 92, 93, 94, 95, 96, 98] [] (a_pure (sv := .one _) rfl) ?_; all_goals refine dp 2 3 [84, 85, 86, 89, 90, 91, 92, 93, 94, 95, 96, 98] [] (a_pure (sv := .one _) rfl) ?_; all_goals refine dp 3 7 [84, 85, 86, 89, 90, 91, 92, 93, 94, 95, 96, 98] [] (a_pure (sv := .one _) rfl) ?_; all_goals refine dp 4 15 [84, 85, 86, 89, 90, 91, 92, 93, 94, 95, 96, 98] [] puL ?_; all_goals refine dp 5 0 [79, 80, 81, 82, 83, 85, 89, 90, 91, 92, 93, 94, 95, 96, 98] [] pu1 ?_; all_goals refine dp 6 0 [79, 80, 81, 82, 83, 84, 89, 90, 91, 92, 93, 94, 95, 96, 98] [] pu1 ?_; all_goals refine dp 7 3 [79, 80, 81, 82, 83, 89, 90, 91, 92, 93, 94, 95, 96, 98] [] (a_add rfl rfl (by omega) (by omega)) ?_; all_goals refine dp 8 255 [89, 90, 91, 92, 93, 94, 95, 96, 98] [] puI ?_; all_goals refine dp 9 511 [89, 90, 91, 92, 93, 94, 95, 96, 98] [] puL ?_; all_goals refine dp 10 0 [79, 80, 81, 82, 83, 84, 85, 86, 87, 88, 94, 98] [] pu1 ?_; all_goals refine dp 11 1 [79, 80, 81, 82, 83, 84, 85, 86, 87, 88, 94, 98] [] (a_pure (sv := .one _) rfl) ?_; all_goals refine dp 12 3 [79, 80, 81, 82, 83, 84, 85, 86, 87, 88, 94, 98] [] (a_pure (sv := .one _) rfl) ?_; all_goals refine dp 13 7 [79, 80, 81, 82, 83, 84, 85, 86, 87, 88, 94, 98] [] (a_pure (sv := .one _) rfl) ?_; all_goals refine dp 14 15 [79, 80, 81, 82, 83, 84, 85, 86, 87, 88, 94, 98] [] puL ?_; all_goals refine dp 15 0 [79, 80, 81, 82, 83, 84, 85, 86, 87, 88, 89, 90, 91, 92, 93, 98] [] pu1 ?_; all_goals refine dp 16 63 [79, 80, 81, 82, 83, 84, 85, 86, 87, 88, 98] [] puI ?_; all_goals refine dp 17 127 [79, 80, 81, 82, 83, 84, 85, 86, 87, 88, 98] [] puL ?_; all_goals refine dp 18 262143 [98] [] (a_sub rfl rfl (by omega) (by omega)) ?_; all_goals refine dp 19 0 [79, 80, 81, 82, 83, 84, 85, 86, 87, 88, 89, 90, 91, 92, 93, 94, 95, 96, 97] [] pu1 ?_; all_goals refine dp 20 1048575 [] [] (by first | exact a_ne rfl rfl | exact a_neS rfl rfl rfl) ?_; all_goals (refine d_nil ?_; dsimp only [selT, selH, trues, SV.ren, C.ren, C.ren.all, tRen, GB.ren, calF, upOf, List.cons_append, List.nil_append, Nat.reduceAdd, setRow, List.map_cons, List.map_nil, scC, List.set_cons_zero, List.set_cons_succ, List.take_succ_cons, List.take_zero, List.drop_succ_cons, List.drop_zero]))); any_goals kernel_rfl)
              | (apply g_drN (id := 11) okM [[], [0], [], [0, 1, 2], [], [], [5], [5, 6], [5, 6, 7], [5, 6, 7, 8], [], [], [], [11, 12], [11, 12, 13], [5, 6, 7, 8, 9, 10, 11, 12, 13, 14], [], [0, 1, 2, 3, 5, 6, 7, 8, 9, 10, 11, 12, 13, 14, 15, 16], [0, 1, 2, 3, 4, 5, 6, 7, 8, 9, 10, 11, 12, 13, 14, 15, 16, 17], [0, 1, 2, 3, 4, 5, 6, 7, 8, 9, 10, 11, 12, 13, 14, 15, 16, 17, 18]] [([], []), ([], []), ([], []), ([], []), ([], []), ([], []), ([], []), ([], []), ([], []), ([], []), ([], []), ([], []), ([], []), ([], []), ([], []), ([], []), ([], []), ([], []), ([], []), ([], [])] 0; (focus (all_goals refine dp 0 0 [102, 104, 105, 106, 107, 108, 109, 110, 111, 112, 113, 114, 115, 116] [] pu1 ?_; all_goals refine dp 1 1 [102, 104, 105, 106, 107, 108, 109, 110, 111, 112, 113, 114, 115, 116] [] (callFD 0 (hD := (configC_ok _ _ preB38 preB38))) ?_; all_goals refine dp 2 0 [100, 101, 104, 105, 106, 107, 108, 109, 110, 111, 112, 113, 114, 115, 116] [] pu1 ?_; all_goals refine dp 3 7 [104, 105, 106, 107, 108, 109, 110, 111, 112, 113, 114, 115, 116] [] (callFD 0 (hD := (configC_ok _ _ preB38 preB38))) ?_; all_goals refine dp 4 0 [100, 101, 102, 103, 105, 106, 107, 108, 109, 110, 111, 112, 113, 114, 115, 116, 117] [] pu1 ?_; all_goals refine dp 5 0 [100, 101, 102, 103, 104, 110, 111, 112, 113, 114, 116] [] pu1 ?_; all_goals refine dp 6 1 [100, 101, 102, 103, 104, 110, 111, 112, 113, 114, 116] [] (a_pure (sv := .one _) rfl) ?_; all_goals refine dp 7 3 [100, 101, 102, 103, 104, 110, 111, 112, 113, 114, 116] [] (a_pure (sv := .one _) rfl) ?_; all_goals refine dp 8 7 [100, 101, 102, 103, 104, 110, 111, 112, 113, 114, 116] [] (a_pure (sv := .one _) rfl) ?_; all_goals refine dp 9 15 [100, 101, 102, 103, 104, 110, 111, 112, 113, 114, 116] [] puL ?_; all_goals refine dp 10 0 [100, 101, 102, 103, 104, 105, 106, 107, 108, 109, 111, 112, 113, 114, 116] [] pu1 ?_; all_goals refine dp 11 0 [100, 101, 102, 103, 104, 105, 106, 107, 108, 109, 110, 112, 116] [] pu1 ?_; all_goals refine dp 12 0 [100, 101, 102, 103, 104, 105, 106, 107, 108, 109, 110, 111, 116] [] pu1 ?_; all_goals refine dp 13 3 [100, 101, 102, 103, 104, 105, 106, 107, 108, 109, 110, 116] [] (a_add rfl rfl (by omega) (by omega)) ?_; all_goals refine dp 14 7 [100, 101, 102, 103, 104, 105, 106, 107, 108, 109, 110, 116] [] (a_add rfl rfl (by omega) (by omega)) ?_; all_goals refine dp 15 1023 [100, 101, 102, 103, 104, 116] [] (a_slM rfl rfl rfl rfl (fS rfl) (by omega) (by omega) (by omega) (by exact rfl)) ?_; all_goals refine dp 16 0 [100, 101, 102, 103, 104, 105, 106, 107, 108, 109, 110, 111, 112, 113, 114, 115] [] pu1 ?_; all_goals refine dp 17 126975 [104] [] (callD1 (n := _) 0 (θ := []) (hD := (behindHead_ok ((P.drop a.toNat).take ((a + b + 1).toNat - a.toNat)) d (by omega) (by omega) (by omega) (by omega) x3 x4 x5 x6))) ?_; all_goals refine dp 18 262143 [] [] (callD1 (n := _) 0 (θ := []) (hD := (shiftFits_ok _ _ _ _ preB38 preB38 preB38 preB38 preB38 preB38))) ?_; all_goals refine dp 19 524287 [] [] pu1 ?_; all_goals (refine d_nil ?_; dsimp only [selT, selH, trues, SV.ren, C.ren, C.ren.all, tRen, GB.ren, calF, upOf, List.cons_append, List.nil_append, Nat.reduceAdd, setRow, List.map_cons, List.map_nil, scC, List.set_cons_zero, List.set_cons_succ, List.take_succ_cons, List.take_zero, List.drop_succ_cons, List.drop_zero]))); any_goals kernel_rfl)
              | (refine o_gs rfl rfl (fun hc => ?_) (fun hc => ?_) <;> (try simp only [decide_eq_true_eq, decide_eq_false_iff_not, Bool.not_eq_true', Bool.not_eq_false', Bool.not_eq_true, Bool.not_eq_false, Bool.and_eq_true, Bool.or_eq_false_iff, Bool.not_not] at hc) <;> (try (first | contradiction | (exfalso; omega))))
              | (refine g_cond rfl (fun hc => ?_) (fun hc => ?_) <;> (try simp only [decide_eq_true_eq, decide_eq_false_iff_not, Bool.not_eq_true', Bool.not_eq_false', Bool.not_eq_true, Bool.not_eq_false, Bool.and_eq_true, Bool.or_eq_false_iff, Bool.not_not] at hc) <;> (try (first | contradiction | (exfalso; omega))))
            repeat (first | refine g_ret ?_ | refine q_sr ?_ | refine q_br ?_ | refine q_lr ?_ | refine q_cr ?_)
            refine ends_id ?_
            refine endK [] (h2 := ?_) (h3 := ?_) (nd := ?_)
            all_goals (repeat' first | with_reducible exact SVLe.refl | exact SVLe.any | exact SVLe.one (.sh rfl) | exact SVLe.one (.nil (by decide)) | refine SVLe.agg ?_ | refine SVLe.tup ?_ | exact TLe.nil | refine TLe.cons ?_ ?_ | exact CsLe.nil | refine CsLe.cons ?_ ?_ | exact CLe.refl | exact CLe.sh rfl | exact CLe.nil (by decide) | refine cle_i ?_ | refine cle_b ?_ | exact trivial | refine And.intro ?_ ?_ | exact Or.inl rfl | exact Or.inr rfl | refine Or.inr (row_eq ?_) | (refine Or.inr (bx_eq rfl rfl ?_); (try dsimp only [C.ren, C.ren.all]); (try exact rfl)) | exact SVLe.refl | refine sle_i ?_ | refine sle_b ?_)
            all_goals first | exact (show nodupB _ = true from rfl) | exact Or.inr rfl | ((symm; unfold shRes; rw [if_pos trivial, x7]; dsimp only; rw [decide_eq_true (show 0 + (pb - pa) = d by omega), decide_eq_true hd0]; simp))
  · have hf3 : ¬ (vMach m = true ∧ formP p 3 3 = true) := by simpa using hf
    refine does_of (k := 0) Try.func39 rfl Try.ntmps39 rfl rfl fun w F0 S0 ρ0 => ?_
    dsimp only [argT, argH]
    repeat' first
      | refine g_seq ?_
      | refine g_skip ?_
      | refine g_exit ?_
      | refine g_block ?_
      | refine g_reg ?_
      | refine g_if_t rfl ?_
      | refine g_if_f rfl ?_
      | refine o_nil ?_
      | refine q_s ?_
      | refine q_se ?_
      | refine q_b ?_
      | refine q_be rfl ?_
      | refine q_bn rfl ?_
      | refine q_le ?_
      | refine q_ce ?_
      | (apply n3; exact a_new (gb := .bx _) rfl; exact rfl; (try dsimp only [List.map_cons, List.map_nil, scC, Nat.reduceAdd]))
      | (apply p3; (first | exact pu1 | exact puL | exact a_add rfl rfl (by omega) (by omega)); exact rfl)
      | (apply c4 3; exact callK0 (θ := []) (hD := (afterSteps_ok _ _ preB38 preB38)); exact rfl; exact rfl; exact rfl; (try dsimp only [SV.ren, C.ren, C.ren.all, tRen, GB.ren, calF, upOf, List.cons_append, List.nil_append, Nat.reduceAdd]))
      | (apply c4 3; exact callK0 (θ := []) (hD := (tracked_ok m _ hv preB38 preB38)); exact rfl; exact rfl; exact rfl; (try dsimp only [SV.ren, C.ren, C.ren.all, tRen, GB.ren, calF, upOf, List.cons_append, List.nil_append, Nat.reduceAdd]))
      | refine o_no rfl rfl rfl rfl ?_
      | refine o_noN rfl rfl rfl ?_
      | (apply py3; exact rfl; exact rfl; (first | exact pu1 | exact puL | exact a_add rfl rfl (by omega) (by omega)); exact rfl; exact rfl)
      | (apply ny3; exact rfl; exact rfl; exact a_new (gb := .bx _) rfl; exact rfl; exact rfl)
      | (apply cy4 3; exact rfl; exact rfl; exact callK0 (θ := []) (hD := (afterSteps_ok _ _ preB38 preB38)); exact rfl; exact rfl; exact rfl; exact rfl; (try dsimp only [SV.ren, C.ren, C.ren.all, tRen, GB.ren, calF, upOf, List.cons_append, List.nil_append, Nat.reduceAdd]))
      | (apply cy4 3; exact rfl; exact rfl; exact callK0 (θ := []) (hD := (tracked_ok m _ hv preB38 preB38)); exact rfl; exact rfl; exact rfl; exact rfl; (try dsimp only [SV.ren, C.ren, C.ren.all, tRen, GB.ren, calF, upOf, List.cons_append, List.nil_append, Nat.reduceAdd]))
      | (apply g_drN (id := 1) okM [[], [], [0, 1], [0, 1, 2], [0, 1, 2, 3], [0, 1, 2, 3, 4], [0, 1, 2, 3, 4, 5], [0, 1, 2, 3, 4, 5, 6], [0, 1, 2, 3, 4, 5, 6, 7], [0, 1, 2, 3, 4], [0, 1, 2, 3, 4, 9], [0, 1, 2, 3, 4, 9, 10], [0, 1, 2, 3, 4, 9, 10, 11], [0, 1, 2, 3, 4, 5, 6, 7, 8, 9, 10, 11, 12], [0, 1, 2, 3, 4, 5, 6, 7, 8, 9, 10, 11, 12, 13], [0, 1, 2, 3, 4, 5, 6, 7, 8, 9, 10, 11, 12, 13, 14], [0, 1, 2, 3, 4, 5, 6, 7, 8, 9, 10, 11, 12, 13, 14, 15], [0, 1, 2, 3, 4, 5, 6, 7, 8, 9, 10, 11, 12, 13, 14, 15, 16], [0, 1, 2, 3, 4, 5, 6, 7, 8, 9, 10, 11, 12, 13, 14, 15, 16, 17], [0, 1, 2, 3, 4, 5, 6, 7, 8, 9, 10, 11, 12, 13, 14, 15, 16, 17, 18], [0, 1, 2, 3, 4, 5, 6, 7, 8, 9, 10, 11, 12, 13, 14, 15, 16, 17, 18, 19], [0, 1, 2, 3, 4, 5, 6, 7, 8, 9, 10, 11, 12, 13, 14, 15, 16, 17, 18, 19, 20], [0, 1, 2, 3, 4, 5, 6, 7, 8, 9, 10, 11, 12, 13, 14, 15, 16, 17, 18, 19, 20, 21]] [([], []), ([], []), ([], []), ([], []), ([], []), ([], []), ([], []), ([], []), ([], []), ([], []), ([], []), ([], []), ([], []), ([], []), ([], []), ([], []), ([], []), ([], []), ([], []), ([], []), ([], []), ([], []), ([], [])] 0; (focus (all_goals refine dp 0 0 [16] [] puL ?_; all_goals refine dp 1 0 [15] [] puL ?_; all_goals refine dp 2 3 [] [] (callD1 (n := _) 0 (θ := []) (hD := (proofOf_ok _ _ _ _ preB38 preB38 preB38 preB38))) ?_; all_goals refine dp 3 7 [] [] (a_pure (sv := .one _) rfl) ?_; all_goals (refine db 4 15 [] [] pu1 ?_ ?_ <;> (intro hc; first | cases hc | (try simp only [decide_eq_true_eq, decide_eq_false_iff_not, Bool.not_eq_true', Bool.not_eq_false', Bool.not_eq_true, Bool.not_eq_false, Bool.and_eq_true, Bool.or_eq_false_iff, Bool.not_not] at hc); first | contradiction | (exfalso; omega) | skip)); all_goals (first | refine dn 5 31 [24, 25, 26, 27] [] ?_ | refine dpy 5 31 [24, 25, 26, 27] [] (a_pure (sv := .one _) rfl) ?_); all_goals (first | refine dn 6 63 [24, 25, 26, 27] [] ?_ | refine dpy 6 63 [24, 25, 26, 27] [] puL ?_); all_goals (first | refine dn 7 127 [24, 25, 26, 27] [] ?_ | refine dpy 7 127 [24, 25, 26, 27] [] puI ?_); all_goals (first | refine dn 8 255 [24, 25, 26, 27] [] ?_ | refine dpy 8 255 [24, 25, 26, 27] [] puL ?_); all_goals (first | refine dn 9 496 [20, 21, 22, 23] [] ?_ | refine dpy 9 496 [20, 21, 22, 23] [] (a_pure (sv := .one _) rfl) ?_); all_goals (first | refine dn 10 993 [20, 21, 22, 23] [] ?_ | refine dpy 10 993 [20, 21, 22, 23] [] puL ?_); all_goals (first | refine dn 11 1987 [20, 21, 22, 23] [] ?_ | refine dpy 11 1987 [20, 21, 22, 23] [] puI ?_); all_goals (first | refine dn 12 3975 [20, 21, 22, 23] [] ?_ | refine dpy 12 3975 [20, 21, 22, 23] [] puL ?_); all_goals (first | refine dn 13 8191 [] [] ?_ | refine dpy 13 8191 [] [] (callD1 (n := _) 0 (θ := []) (hD := (spanOk_ok _ _))) ?_); all_goals (first | refine dn 14 16383 [] [] ?_ | refine dpy 14 16383 [] [] (a_pure (sv := .one _) rfl) ?_); all_goals refine dp 15 32767 [] [] (a_pure (sv := .one _) rfl) ?_; all_goals (refine db 16 65535 [] [] pu1 ?_ ?_ <;> (intro hc; first | cases hc | (try simp only [decide_eq_true_eq, decide_eq_false_iff_not, Bool.not_eq_true', Bool.not_eq_false', Bool.not_eq_true, Bool.not_eq_false, Bool.and_eq_true, Bool.or_eq_false_iff, Bool.not_not] at hc); first | contradiction | (exfalso; omega) | skip)); all_goals (first | refine dn 17 131071 [] [] ?_ | refine dpy 17 131071 [] [] (a_pure (sv := .one _) rfl) ?_); all_goals (first | refine dn 18 262143 [] [] ?_ | refine dpy 18 262143 [] [] puL ?_); all_goals (first | refine dn 19 524287 [] [] ?_ | refine dpy 19 524287 [] [] puI ?_); all_goals (first | refine dn 20 1048575 [] [] ?_ | refine dpy 20 1048575 [] [] puL ?_); all_goals (first | refine dn 21 2097151 [] [] ?_ | refine dpy 21 2097151 [] [] (by first | exact puC | exact a_eqS rfl rfl rfl) ?_); all_goals refine dp 22 4194303 [] [] (a_pure (sv := .one _) rfl) ?_; all_goals (refine d_nil ?_; dsimp only [selT, selH, trues, SV.ren, C.ren, C.ren.all, tRen, GB.ren, calF, upOf, List.cons_append, List.nil_append, Nat.reduceAdd, setRow, List.map_cons, List.map_nil, scC, List.set_cons_zero, List.set_cons_succ, List.take_succ_cons, List.take_zero, List.drop_succ_cons, List.drop_zero]))); any_goals kernel_rfl)
      | (apply g_drN (id := 3) okM [[], [0], [0, 1], [0, 1, 2], [], [4], [4, 5], [4, 5, 6], [], [8], [8, 9], [8, 9, 10], [0, 1, 2, 3], [0, 1, 2, 3, 4, 5, 6, 7, 12], [0, 1, 2, 3, 4, 5, 6, 7, 8, 9, 10, 11, 12, 13]] [([], []), ([], []), ([], []), ([], []), ([], []), ([], []), ([], []), ([], []), ([], []), ([], []), ([], []), ([], []), ([], []), ([], []), ([], [])] 0; (focus (all_goals refine dp 0 0 [42, 43, 44, 45, 46, 47, 48, 49] [] (a_pure (sv := .one _) rfl) ?_; all_goals refine dp 1 1 [42, 43, 44, 45, 46, 47, 48, 49] [] puL ?_; all_goals refine dp 2 3 [42, 43, 44, 45, 46, 47, 48, 49] [] puI ?_; all_goals refine dp 3 7 [42, 43, 44, 45, 46, 47, 48, 49] [] puL ?_; all_goals refine dp 4 0 [38, 39, 40, 41, 46, 47, 48, 49, 5] [] (a_pure (sv := .one _) rfl) ?_; all_goals refine dp 5 1 [38, 39, 40, 41, 46, 47, 48, 49, 5] [] puL ?_; all_goals refine dp 6 3 [38, 39, 40, 41, 46, 47, 48, 49, 5] [] puI ?_; all_goals refine dp 7 7 [38, 39, 40, 41, 46, 47, 48, 49, 5] [] puL ?_; all_goals refine dp 8 0 [38, 39, 40, 41, 42, 43, 44, 45, 5, 6] [] (a_pure (sv := .one _) rfl) ?_; all_goals refine dp 9 1 [38, 39, 40, 41, 42, 43, 44, 45, 5, 6] [] puL ?_; all_goals refine dp 10 3 [38, 39, 40, 41, 42, 43, 44, 45, 5, 6] [] puI ?_; all_goals refine dp 11 7 [38, 39, 40, 41, 42, 43, 44, 45, 5, 6] [] puL ?_; all_goals refine dp 12 3840 [42, 43, 44, 45, 46, 47, 48, 49] [] pu1 ?_; all_goals refine dp 13 8161 [46, 47, 48, 49] [] pu1 ?_; all_goals refine dp 14 16383 [] [] pu1 ?_; all_goals (refine d_nil ?_; dsimp only [selT, selH, trues, SV.ren, C.ren, C.ren.all, tRen, GB.ren, calF, upOf, List.cons_append, List.nil_append, Nat.reduceAdd, setRow, List.map_cons, List.map_nil, scC, List.set_cons_zero, List.set_cons_succ, List.take_succ_cons, List.take_zero, List.drop_succ_cons, List.drop_zero]))); any_goals kernel_rfl)
      | (apply g_drN (id := 9) okM [[], [0], [0, 1], [0, 1, 2], [0, 1, 2, 3], [], [], [5, 6], [0, 1, 2, 3, 4, 5, 6, 7], [0, 1, 2, 3, 4, 5, 6, 7, 8], [], [10], [10, 11], [10, 11, 12], [10, 11, 12, 13], [], [10, 11, 12, 13, 14, 15], [10, 11, 12, 13, 14, 15, 16], [0, 1, 2, 3, 4, 5, 6, 7, 8, 9, 10, 11, 12, 13, 14, 15, 16, 17], [], [0, 1, 2, 3, 4, 5, 6, 7, 8, 9, 10, 11, 12, 13, 14, 15, 16, 17, 18, 19]] [([], []), ([], []), ([], []), ([], []), ([], []), ([], []), ([], []), ([], []), ([], []), ([], []), ([], []), ([], []), ([], []), ([], []), ([], []), ([], []), ([], []), ([], []), ([], []), ([], []), ([], [])] 0; (focus (all_goals refine dp 0 0 [84, 85, 86, 89, 90, 91, 92, 93, 94, 95, 96, 98] [] pu1 ?_; all_goals refine dp 1 1 [84, 85, 86, 89, 90, 91, 92, 93, 94, 95, 96, 98] [] (a_pure (sv := .one _) rfl) ?_; all_goals refine dp 2 3 [84, 85, 86, 89, 90, 91, 92, 93, 94, 95, 96, 98] [] (a_pure (sv := .one _) rfl) ?_; all_goals refine dp 3 7 [84, 85, 86, 89, 90, 91, 92, 93, 94, 95, 96, 98] [] (a_pure (sv := .one _) rfl) ?_; all_goals refine dp 4 15 [84, 85, 86, 89, 90, 91, 92, 93, 94, 95, 96, 98] [] puL ?_; all_goals refine dp 5 0 [79, 80, 81, 82, 83, 85, 89, 90, 91, 92, 93, 94, 95, 96, 98] [] pu1 ?_; all_goals refine dp 6 0 [79, 80, 81, 82, 83, 84, 89, 90, 91, 92, 93, 94, 95, 96, 98] [] pu1 ?_; all_goals refine dp 7 3 [79, 80, 81, 82, 83, 89, 90, 91, 92, 93, 94, 95, 96, 98] [] (a_add rfl rfl (by omega) (by omega)) ?_; all_goals refine dp 8 255 [89, 90, 91, 92, 93, 94, 95, 96, 98] [] puI ?_; all_goals refine dp 9 511 [89, 90, 91, 92, 93, 94, 95, 96, 98] [] puL ?_; all_goals refine dp 10 0 [79, 80, 81, 82, 83, 84, 85, 86, 87, 88, 94, 98] [] pu1 ?_; all_goals refine dp 11 1 [79, 80, 81, 82, 83, 84, 85, 86, 87, 88, 94, 98] [] (a_pure (sv := .one _) rfl) ?_; all_goals refine dp 12 3 [79, 80, 81, 82, 83, 84, 85, 86, 87, 88, 94, 98] [] (a_pure (sv := .one _) rfl) ?_; all_goals refine dp 13 7 [79, 80, 81, 82, 83, 84, 85, 86, 87, 88, 94, 98] [] (a_pure (sv := .one _) rfl) ?_; all_goals refine dp 14 15 [79, 80, 81, 82, 83, 84, 85, 86, 87, 88, 94, 98] [] puL ?_; all_goals refine dp 15 0 [79, 80, 81, 82, 83, 84, 85, 86, 87, 88, 89, 90, 91, 92, 93, 98] [] pu1 ?_; all_goals refine dp 16 63 [79, 80, 81, 82, 83, 84, 85, 86, 87, 88, 98] [] puI ?_; all_goals refine dp 17 127 [79, 80, 81, 82, 83, 84, 85, 86, 87, 88, 98] [] puL ?_; all_goals refine dp 18 262143 [98] [] (a_sub rfl rfl (by omega) (by omega)) ?_; all_goals refine dp 19 0 [79, 80, 81, 82, 83, 84, 85, 86, 87, 88, 89, 90, 91, 92, 93, 94, 95, 96, 97] [] pu1 ?_; all_goals refine dp 20 1048575 [] [] (by first | exact a_ne rfl rfl | exact a_neS rfl rfl rfl) ?_; all_goals (refine d_nil ?_; dsimp only [selT, selH, trues, SV.ren, C.ren, C.ren.all, tRen, GB.ren, calF, upOf, List.cons_append, List.nil_append, Nat.reduceAdd, setRow, List.map_cons, List.map_nil, scC, List.set_cons_zero, List.set_cons_succ, List.take_succ_cons, List.take_zero, List.drop_succ_cons, List.drop_zero]))); any_goals kernel_rfl)
      | (apply g_drN (id := 11) okM [[], [0], [], [0, 1, 2], [], [], [5], [5, 6], [5, 6, 7], [5, 6, 7, 8], [], [], [], [11, 12], [11, 12, 13], [5, 6, 7, 8, 9, 10, 11, 12, 13, 14], [], [0, 1, 2, 3, 5, 6, 7, 8, 9, 10, 11, 12, 13, 14, 15, 16], [0, 1, 2, 3, 4, 5, 6, 7, 8, 9, 10, 11, 12, 13, 14, 15, 16, 17], [0, 1, 2, 3, 4, 5, 6, 7, 8, 9, 10, 11, 12, 13, 14, 15, 16, 17, 18]] [([], []), ([], []), ([], []), ([], []), ([], []), ([], []), ([], []), ([], []), ([], []), ([], []), ([], []), ([], []), ([], []), ([], []), ([], []), ([], []), ([], []), ([], []), ([], []), ([], [])] 0; (focus (all_goals refine dp 0 0 [102, 104, 105, 106, 107, 108, 109, 110, 111, 112, 113, 114, 115, 116] [] pu1 ?_; all_goals refine dp 1 1 [102, 104, 105, 106, 107, 108, 109, 110, 111, 112, 113, 114, 115, 116] [] (callFD 0 (hD := (configC_ok _ _ preB38 preB38))) ?_; all_goals refine dp 2 0 [100, 101, 104, 105, 106, 107, 108, 109, 110, 111, 112, 113, 114, 115, 116] [] pu1 ?_; all_goals refine dp 3 7 [104, 105, 106, 107, 108, 109, 110, 111, 112, 113, 114, 115, 116] [] (callFD 0 (hD := (configC_ok _ _ preB38 preB38))) ?_; all_goals refine dp 4 0 [100, 101, 102, 103, 105, 106, 107, 108, 109, 110, 111, 112, 113, 114, 115, 116, 117] [] pu1 ?_; all_goals refine dp 5 0 [100, 101, 102, 103, 104, 110, 111, 112, 113, 114, 116] [] pu1 ?_; all_goals refine dp 6 1 [100, 101, 102, 103, 104, 110, 111, 112, 113, 114, 116] [] (a_pure (sv := .one _) rfl) ?_; all_goals refine dp 7 3 [100, 101, 102, 103, 104, 110, 111, 112, 113, 114, 116] [] (a_pure (sv := .one _) rfl) ?_; all_goals refine dp 8 7 [100, 101, 102, 103, 104, 110, 111, 112, 113, 114, 116] [] (a_pure (sv := .one _) rfl) ?_; all_goals refine dp 9 15 [100, 101, 102, 103, 104, 110, 111, 112, 113, 114, 116] [] puL ?_; all_goals refine dp 10 0 [100, 101, 102, 103, 104, 105, 106, 107, 108, 109, 111, 112, 113, 114, 116] [] pu1 ?_; all_goals refine dp 11 0 [100, 101, 102, 103, 104, 105, 106, 107, 108, 109, 110, 112, 116] [] pu1 ?_; all_goals refine dp 12 0 [100, 101, 102, 103, 104, 105, 106, 107, 108, 109, 110, 111, 116] [] pu1 ?_; all_goals refine dp 13 3 [100, 101, 102, 103, 104, 105, 106, 107, 108, 109, 110, 116] [] (a_add rfl rfl (by omega) (by omega)) ?_; all_goals refine dp 14 7 [100, 101, 102, 103, 104, 105, 106, 107, 108, 109, 110, 116] [] (a_add rfl rfl (by omega) (by omega)) ?_; all_goals refine dp 15 1023 [100, 101, 102, 103, 104, 116] [] (a_slM rfl rfl rfl rfl (fS rfl) (by omega) (by omega) (by omega) (by exact rfl)) ?_; all_goals refine dp 16 0 [100, 101, 102, 103, 104, 105, 106, 107, 108, 109, 110, 111, 112, 113, 114, 115] [] pu1 ?_; all_goals refine dp 17 126975 [104] [] (callD1 (n := _) 0 (θ := []) (hD := (behindHead_ok ((P.drop a.toNat).take ((a + b + 1).toNat - a.toNat)) d (by omega) (by omega) (by omega) (by omega) x3 x4 x5 x6))) ?_; all_goals refine dp 18 262143 [] [] (callD1 (n := _) 0 (θ := []) (hD := (shiftFits_ok _ _ _ _ preB38 preB38 preB38 preB38 preB38 preB38))) ?_; all_goals refine dp 19 524287 [] [] pu1 ?_; all_goals (refine d_nil ?_; dsimp only [selT, selH, trues, SV.ren, C.ren, C.ren.all, tRen, GB.ren, calF, upOf, List.cons_append, List.nil_append, Nat.reduceAdd, setRow, List.map_cons, List.map_nil, scC, List.set_cons_zero, List.set_cons_succ, List.take_succ_cons, List.take_zero, List.drop_succ_cons, List.drop_zero]))); any_goals kernel_rfl)
      | (refine o_gs rfl rfl (fun hc => ?_) (fun hc => ?_) <;> (try simp only [decide_eq_true_eq, decide_eq_false_iff_not, Bool.not_eq_true', Bool.not_eq_false', Bool.not_eq_true, Bool.not_eq_false, Bool.and_eq_true, Bool.or_eq_false_iff, Bool.not_not] at hc) <;> (try (first | contradiction | (exfalso; omega))))
      | (refine g_cond rfl (fun hc => ?_) (fun hc => ?_) <;> (try simp only [decide_eq_true_eq, decide_eq_false_iff_not, Bool.not_eq_true', Bool.not_eq_false', Bool.not_eq_true, Bool.not_eq_false, Bool.and_eq_true, Bool.or_eq_false_iff, Bool.not_not] at hc) <;> (try (first | contradiction | (exfalso; omega))))
    repeat (first | refine g_ret ?_ | refine q_sr ?_ | refine q_br ?_ | refine q_lr ?_ | refine q_cr ?_)
    refine ends_id ?_
    refine endK [] (h2 := ?_) (h3 := ?_) (nd := ?_)
    all_goals (repeat' first | with_reducible exact SVLe.refl | exact SVLe.any | exact SVLe.one (.sh rfl) | exact SVLe.one (.nil (by decide)) | refine SVLe.agg ?_ | refine SVLe.tup ?_ | exact TLe.nil | refine TLe.cons ?_ ?_ | exact CsLe.nil | refine CsLe.cons ?_ ?_ | exact CLe.refl | exact CLe.sh rfl | exact CLe.nil (by decide) | refine cle_i ?_ | refine cle_b ?_ | exact trivial | refine And.intro ?_ ?_ | exact Or.inl rfl | exact Or.inr rfl | refine Or.inr (row_eq ?_) | (refine Or.inr (bx_eq rfl rfl ?_); (try dsimp only [C.ren, C.ren.all]); (try exact rfl)) | exact SVLe.refl | refine sle_i ?_ | refine sle_b ?_)
    all_goals first | exact (show nodupB _ = true from rfl) | exact Or.inr rfl | ((exact (hcs (by assumption)).symm))
end Go.Proofs.Ytncccjpbaeaafaa
end
