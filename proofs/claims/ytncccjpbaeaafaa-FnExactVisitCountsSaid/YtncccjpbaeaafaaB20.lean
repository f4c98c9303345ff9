/- The visits of the cells of the tape: the program's and the reference's. -/
import Derived.Test.YtncccjpbaeaafaaB19
import Derived.Test.YtncccjpbaeaafaaG22
set_option linter.unusedVariables false
set_option linter.unusedSimpArgs false
set_option maxRecDepth 100000
set_option maxHeartbeats 4000000
namespace Go.Proofs.Ytncccjpbaeaafaa
open Go Foot
@[irreducible] def vcRes (m : Mach) (c : Conf) (b : Int) : List Int := if wkCode m c b = 0 then (wkRun m c 0 b).x.vis else []
@[irreducible] def vcLe (m : Mach) (c : Conf) (b : Int) : Int := if wkCode m c b = 0 then (wkRun m c 0 b).x.le else 0
theorem preB20 {p : Prop} (h : p := by first | with_reducible assumption | omega | (simp only [List.length_append, List.length_cons, List.length_nil, List.length_set, List.length_replicate, List.length_take, List.length_drop, List.length_tail, List.length_dropLast, List.length_reverse] at *; omega) | (with_reducible refine Int.le_trans (Int.ofNat_le.2 (trimR_len _)) ?_; simp only [List.length_cons, List.length_tail]; omega) | (exact (ruAt_ok (by assumption) (by assumption) (by assumption)).2.1) | (exact (ruAt_ok (by assumption) (by assumption) (by assumption)).2.1) | (have := vMach_bd (by assumption); omega) | (with_reducible refine Int.le_trans (Int.ofNat_le.2 (pushL_len _ _)) ?_; simp only [List.length_dropLast]; omega) | exact (ask_ok (by assumption)).1 | exact (ask_ok (by assumption)).2.1 | exact (ask_ok (by assumption)).2.2.1 | exact (ask_ok (by assumption)).2.2.2 | trivial) : p := h
theorem sVisitCounts_ok (m : Mach) (c : Conf) (b : Int) (hm : (m.ru.length : Int) ≤ 16777216) (hx : (c.le.length : Int) ≤ 16777216) (hy : (c.ri.length : Int) ≤ 16777216) : Does Try.prog 34 [.agg (maC m), .agg (coC c), .one (int b)] [] (.tup [(false, [.gv 0]), (false, [int (vcLe m c b)]), (false, [int (wkCode m c b)])]) [roI (vcRes m c b)] := by
  have hcode : wkCode m c b = if askC m c b = 0 then if (wkRun m c 0 b).full then 5 else 0 else askC m c b := by unfold wkCode; rfl
  have hres : vcRes m c b = if wkCode m c b = 0 then (wkRun m c 0 b).x.vis else [] := by unfold vcRes; rfl
  have hle : vcLe m c b = if wkCode m c b = 0 then (wkRun m c 0 b).x.le else 0 := by unfold vcLe; rfl
  refine does_of (k := 0) Try.func34 rfl Try.ntmps34 rfl rfl fun w F0 S0 ρ0 => ?_
  dsimp only [argT, argH]
  repeat' first
    | refine g_seq ?_
    | refine g_skip ?_
    | refine g_exit ?_
    | refine g_block ?_
    | refine g_reg ?_
    | refine g_if_t rfl ?_
    | refine g_if_f rfl ?_
    | refine o_nil ?_
    | refine q_s ?_
    | refine q_se ?_
    | refine q_b ?_
    | refine q_be rfl ?_
    | refine q_bn rfl ?_
    | refine q_le ?_
    | refine q_ce ?_
    | (apply n3; exact a_nilO eI rfl; exact rfl)
    | (apply n3; (first | exact a_new (gb := .bx _) rfl); exact rfl; (try dsimp only [List.map_cons, List.map_nil, scC, Nat.reduceAdd]))
    | (apply p3; (first | exact a_pure (sv := .one _) rfl | exact a_pure (sv := .agg _) rfl | exact a_pure (sv := .tup _) rfl | exact a_ne rfl rfl | exact a_neS rfl rfl rfl | exact a_ld_rowI rfl rfl rfl (fC rfl) bnd); exact rfl)
    | (apply c4 0; exact callK1 (θ := []) (hD := (l20Ask_ok _ _ _ preB20 preB20 preB20)); exact rfl; exact rfl; exact rfl; (try dsimp only [SV.ren, C.ren, C.ren.all, tRen, GB.ren, calF, upOf, List.cons_append, List.nil_append, Nat.reduceAdd]))
    | (apply c4 5; exact callK1 (θ := []) (hD := (l20RunA_ok _ _ _ _ preB20 preB20)); exact rfl; exact rfl; exact rfl; (try dsimp only [SV.ren, C.ren, C.ren.all, tRen, GB.ren, calF, upOf, List.cons_append, List.nil_append, Nat.reduceAdd]))
    | (apply g_drN okM [[], [0], [0, 1], [0, 1, 2], [], [4], [4, 5], [4, 5, 6], [4, 5, 6, 7], [0, 1, 2, 3], [0, 1, 2, 3, 4, 5, 6, 7, 8, 9], [0, 1, 2, 3, 4, 5, 6, 7, 8, 9, 10]] [([], []), ([], []), ([], []), ([], []), ([], []), ([], []), ([], []), ([], []), ([], []), ([], []), ([], []), ([], [])] 0; (focus (all_goals (apply d_pN (i := 0) (fs := []) (u := [26, 27, 28, 29, 30]) (o := []); (first | exact a_pure (sv := .one _) rfl | exact a_pure (sv := .agg _) rfl | exact a_pure (sv := .tup _) rfl); exact rfl; kernel_rfl; kernel_rfl; kernel_rfl; exact rfl; exact rfl); all_goals (apply d_pN (i := 1) (fs := [true]) (u := [26, 27, 28, 29, 30]) (o := []); (first | exact a_pure (sv := .one _) rfl); exact rfl; kernel_rfl; kernel_rfl; kernel_rfl; exact rfl; exact rfl); all_goals (apply d_pN (i := 2) (fs := [true, true]) (u := [26, 27, 28, 29, 30]) (o := []); (first | exact a_pure (sv := .one _) rfl); exact rfl; kernel_rfl; kernel_rfl; kernel_rfl; exact rfl; exact rfl); all_goals (apply d_pN (i := 3) (fs := [true, true, true]) (u := [26, 27, 28, 29, 30]) (o := []); (first | exact a_pure (sv := .one _) rfl | exact a_pure (sv := .agg _) rfl | exact a_ld_rowI rfl rfl rfl (fC rfl) bnd); exact rfl; kernel_rfl; kernel_rfl; kernel_rfl; exact rfl; exact rfl); all_goals (apply d_pN (i := 4) (fs := [false, false, false, false]) (u := [22, 23, 24, 25, 6]) (o := []); (first | exact a_pure (sv := .one _) rfl | exact a_pure (sv := .agg _) rfl | exact a_pure (sv := .tup _) rfl); exact rfl; kernel_rfl; kernel_rfl; kernel_rfl; exact rfl; exact rfl); all_goals (apply d_pN (i := 5) (fs := [true, false, false, false, false]) (u := [22, 23, 24, 25, 6]) (o := []); (first | exact a_pure (sv := .one _) rfl); exact rfl; kernel_rfl; kernel_rfl; kernel_rfl; exact rfl; exact rfl); all_goals (apply d_pN (i := 6) (fs := [true, true, false, false, false, false]) (u := [22, 23, 24, 25, 6]) (o := []); (first | exact a_pure (sv := .one _) rfl); exact rfl; kernel_rfl; kernel_rfl; kernel_rfl; exact rfl; exact rfl); all_goals (apply d_pN (i := 7) (fs := [true, true, true, false, false, false, false]) (u := [22, 23, 24, 25, 6]) (o := []); (first | exact a_pure (sv := .one _) rfl); exact rfl; kernel_rfl; kernel_rfl; kernel_rfl; exact rfl; exact rfl); all_goals (apply d_pN (i := 8) (fs := [true, true, true, true, false, false, false, false]) (u := [22, 23, 24, 25, 6]) (o := []); (first | exact a_pure (sv := .one _) rfl | exact a_pure (sv := .agg _) rfl | exact a_ld_rowI rfl rfl rfl (fC rfl) bnd); exact rfl; kernel_rfl; kernel_rfl; kernel_rfl; exact rfl; exact rfl); all_goals (apply d_pN (i := 9) (fs := [false, false, false, false, false, true, true, true, true]) (u := [26, 27, 28, 29, 30]) (o := []); (first | exact a_pure (sv := .one _) rfl | exact a_pure (sv := .agg _) rfl | exact a_pure (sv := .tup _) rfl); exact rfl; kernel_rfl; kernel_rfl; kernel_rfl; exact rfl; exact rfl); all_goals (apply d_pN (i := 10) (fs := [true, true, true, true, true, true, true, true, true, true]) (u := []) (o := []); (first | exact a_pure (sv := .one _) rfl | exact a_pure (sv := .agg _) rfl | exact a_pure (sv := .tup _) rfl); exact rfl; kernel_rfl; kernel_rfl; kernel_rfl; exact rfl; exact rfl); all_goals (apply d_pN (i := 11) (fs := [true, true, true, true, true, true, true, true, true, true, true]) (u := []) (o := []); (first | exact a_pure (sv := .one _) rfl); exact rfl; kernel_rfl; kernel_rfl; kernel_rfl; exact rfl; exact rfl); all_goals (refine d_nil ?_; dsimp only [selT, selH, trues, SV.ren, C.ren, C.ren.all, tRen, GB.ren, calF, upOf, List.cons_append, List.nil_append, Nat.reduceAdd, setRow, List.map_cons, List.map_nil, scC, List.set_cons_zero, List.set_cons_succ, List.take_succ_cons, List.take_zero, List.drop_succ_cons, List.drop_zero]))); any_goals kernel_rfl)
    | (refine o_gs rfl rfl (fun hc => ?_) (fun hc => ?_) <;> (try simp only [decide_eq_true_eq, decide_eq_false_iff_not, Bool.not_eq_true', Bool.not_eq_false', Bool.not_eq_true, Bool.not_eq_false, Bool.and_eq_true, Bool.or_eq_false_iff, Bool.not_not] at hc) <;> (try (exfalso; omega)))
    | (refine g_cond rfl (fun hc => ?_) (fun hc => ?_) <;> (try simp only [decide_eq_true_eq, decide_eq_false_iff_not, Bool.not_eq_true', Bool.not_eq_false', Bool.not_eq_true, Bool.not_eq_false, Bool.and_eq_true, Bool.or_eq_false_iff, Bool.not_not] at hc) <;> (try (exfalso; omega)))
  all_goals
    repeat (first | refine g_ret ?_ | refine q_sr ?_ | refine q_br ?_ | refine q_lr ?_ | refine q_cr ?_)
    refine ends_id ?_
    exact endK [_] (h2 := (by first | (with_reducible exact SVLe.refl) | exact SVLe.any | exact SVLe.one (.sh rfl) | exact SVLe.one (.nil (by decide)) | (refine SVLe.agg ?_; repeat (first | exact CsLe.nil | refine CsLe.cons ?_ ?_ | exact CLe.refl | exact CLe.sh rfl | exact CLe.nil (by decide) | (refine cle_i ?_; (simp_all)) | (refine cle_b ?_; (simp_all)))) | (refine SVLe.tup ?_; repeat (first | exact TLe.nil | refine TLe.cons ?_ ?_ | exact CsLe.nil | refine CsLe.cons ?_ ?_ | exact CLe.refl | exact CLe.sh rfl | exact CLe.nil (by decide) | (refine cle_i ?_; (simp_all)) | (refine cle_b ?_; (simp_all)))) | exact SVLe.refl | (refine sle_i ?_; (simp_all)) | (refine sle_b ?_; (simp_all)))) (h3 := (by repeat (first | exact trivial | refine And.intro ?_ ?_ | exact Or.inl rfl | exact Or.inr rfl | (refine Or.inr (row_eq ?_); (simp_all)) | (refine Or.inr (bx_eq rfl rfl ?_); (try dsimp only [C.ren, C.ren.all]); (simp_all)))))
theorem iVisitCounts_ok (m : Mach) (c : Conf) (b : Int) (hm : (m.ru.length : Int) ≤ 16777216) (hx : (c.le.length : Int) ≤ 16777216) (hy : (c.ri.length : Int) ≤ 16777216) : Does Try.prog 35 [.agg (maC m), .agg (coC c), .one (int b)] [] (.tup [(false, [.gv 0]), (false, [int (vcLe m c b)]), (false, [int (wkCode m c b)])]) [roI (vcRes m c b)] := by
  have hcode : wkCode m c b = if askC m c b = 0 then if (wkRun m c 0 b).full then 5 else 0 else askC m c b := by unfold wkCode; rfl
  have hres : vcRes m c b = if wkCode m c b = 0 then (wkRun m c 0 b).x.vis else [] := by unfold vcRes; rfl
  have hle : vcLe m c b = if wkCode m c b = 0 then (wkRun m c 0 b).x.le else 0 := by unfold vcLe; rfl
  obtain ⟨e1, e2⟩ := ct_wk m c b
  by_cases ha : askC m c b ≠ 0
  · refine does_of (k := 0) Try.func35 rfl Try.ntmps35 rfl rfl fun w F0 S0 ρ0 => ?_
    dsimp only [argT, argH]
    repeat' first
      | refine g_seq ?_
      | refine g_skip ?_
      | refine g_exit ?_
      | refine g_block ?_
      | refine g_reg ?_
      | refine g_if_t rfl ?_
      | refine g_if_f rfl ?_
      | refine o_nil ?_
      | refine q_s ?_
      | refine q_se ?_
      | refine q_b ?_
      | refine q_be rfl ?_
      | refine q_bn rfl ?_
      | refine q_le ?_
      | refine q_ce ?_
      | (apply n3; exact a_nilO eI rfl; exact rfl)
      | (apply n3; (first | exact a_new (gb := .bx _) rfl | exact a_litE eI [] rfl rfl rfl rfl rfl rfl rfl rfl | exact a_litE eI [_] rfl rfl rfl rfl rfl rfl rfl rfl | exact a_appN (fP rfl) rfl rfl rfl nowR (by first | omega | (simp; omega)) (by decide) (by exact rfl)); exact rfl; (try dsimp only [List.map_cons, List.map_nil, scC, Nat.reduceAdd]))
      | (apply p3; (first | exact a_pure (sv := .one _) rfl | exact a_pure (sv := .agg _) rfl | exact a_ld_rowI rfl rfl rfl (fC rfl) bnd | exact a_pure (sv := .tup _) rfl | exact a_ne rfl rfl | exact a_neS rfl rfl rfl | exact a_entry (M := mII) rfl rfl | exact a_min rfl rfl | exact a_lenMap (M := mII) rfl rfl Try.underlying78 | exact a_cmp rfl rfl rfl trivial rfl | exact a_add rfl rfl (by omega) (by omega) | exact a_look (M := mII) 0 rfl rfl rfl Try.underlying78 (by kernel_rfl) (by kernel_rfl)); exact rfl)
      | (apply s3; (first | exact a_appE (fP rfl) rfl rfl rfl rfl nowR (by first | omega | (simp; omega)) (by decide) (by decide) (by exact rfl)); exact rfl; exact rfl)
      | (apply c4 0; exact callK1 (θ := []) (hD := (countedBad_ok _ _ _ preB20 preB20 preB20 preB20)); exact rfl; exact rfl; exact rfl; (try dsimp only [SV.ren, C.ren, C.ren.all, tRen, GB.ren, calF, upOf, List.cons_append, List.nil_append, Nat.reduceAdd]))
      | (apply c4 4; exact callK1 (θ := []) (hD := (counted_ok _ _ _ preB20 preB20 preB20 preB20)); exact rfl; exact rfl; exact rfl; (try dsimp only [SV.ren, C.ren, C.ren.all, tRen, GB.ren, calF, upOf, List.cons_append, List.nil_append, Nat.reduceAdd]))
      | (refine o_range (M := mII) rfl rfl Try.underlying78 rfl (fun bb => ?_))
      | (refine o_next (M := mII) rfl rfl rfl (fun hnx => ?_) (fun p l1 l2 hnx => ?_))
      | (refine o_gs rfl rfl (fun hc => ?_) (fun hc => ?_) <;> (try simp only [decide_eq_true_eq, decide_eq_false_iff_not, Bool.not_eq_true', Bool.not_eq_false', Bool.not_eq_true, Bool.not_eq_false, Bool.and_eq_true, Bool.or_eq_false_iff, Bool.not_not] at hc) <;> (try (exfalso; omega)))
      | (refine g_cond rfl (fun hc => ?_) (fun hc => ?_) <;> (try simp only [decide_eq_true_eq, decide_eq_false_iff_not, Bool.not_eq_true', Bool.not_eq_false', Bool.not_eq_true, Bool.not_eq_false, Bool.and_eq_true, Bool.or_eq_false_iff, Bool.not_not] at hc) <;> (try (exfalso; omega)))
    all_goals
      repeat (first | refine g_ret ?_ | refine q_sr ?_ | refine q_br ?_ | refine q_lr ?_ | refine q_cr ?_)
      refine ends_id ?_
      exact endK [_] (h2 := (by first | (with_reducible exact SVLe.refl) | exact SVLe.any | exact SVLe.one (.sh rfl) | exact SVLe.one (.nil (by decide)) | (refine SVLe.agg ?_; repeat (first | exact CsLe.nil | refine CsLe.cons ?_ ?_ | exact CLe.refl | exact CLe.sh rfl | exact CLe.nil (by decide) | (refine cle_i ?_; (simp_all)) | (refine cle_b ?_; (simp_all)))) | (refine SVLe.tup ?_; repeat (first | exact TLe.nil | refine TLe.cons ?_ ?_ | exact CsLe.nil | refine CsLe.cons ?_ ?_ | exact CLe.refl | exact CLe.sh rfl | exact CLe.nil (by decide) | (refine cle_i ?_; (simp_all)) | (refine cle_b ?_; (simp_all)))) | exact SVLe.refl | (refine sle_i ?_; (simp_all)) | (refine sle_b ?_; (simp_all)))) (h3 := (by repeat (first | exact trivial | refine And.intro ?_ ?_ | exact Or.inl rfl | exact Or.inr rfl | (refine Or.inr (row_eq ?_); (simp_all)) | (refine Or.inr (bx_eq rfl rfl ?_); (try dsimp only [C.ren, C.ren.all]); (simp_all)))))
  · have ha : askC m c b = 0 := by omega
    refine does_of (k := 0) Try.func35 rfl Try.ntmps35 rfl rfl fun w F0 S0 ρ0 => ?_
    dsimp only [argT, argH]
    repeat' first
      | refine g_seq ?_
      | refine g_skip ?_
      | refine g_exit ?_
      | refine g_block ?_
      | refine g_reg ?_
      | refine g_if_t rfl ?_
      | refine g_if_f rfl ?_
      | refine o_nil ?_
      | refine q_s ?_
      | refine q_se ?_
      | refine q_b ?_
      | refine q_be rfl ?_
      | refine q_bn rfl ?_
      | refine q_le ?_
      | refine q_ce ?_
      | (apply n3; exact a_nilO eI rfl; exact rfl)
      | (apply n3; (first | exact a_new (gb := .bx _) rfl | exact a_litE eI [] rfl rfl rfl rfl rfl rfl rfl rfl | exact a_litE eI [_] rfl rfl rfl rfl rfl rfl rfl rfl | exact a_appN (fP rfl) rfl rfl rfl nowR (by first | omega | (simp; omega)) (by decide) (by exact rfl)); exact rfl; (try dsimp only [List.map_cons, List.map_nil, scC, Nat.reduceAdd]))
      | (apply p3; (first | exact a_pure (sv := .one _) rfl | exact a_pure (sv := .agg _) rfl | exact a_ld_rowI rfl rfl rfl (fC rfl) bnd | exact a_pure (sv := .tup _) rfl | exact a_ne rfl rfl | exact a_neS rfl rfl rfl | exact a_entry (M := mII) rfl rfl | exact a_min rfl rfl | exact a_lenMap (M := mII) rfl rfl Try.underlying78 | exact a_cmp rfl rfl rfl trivial rfl | exact a_add rfl rfl (by omega) (by omega) | exact a_look (M := mII) 0 rfl rfl rfl Try.underlying78 (by kernel_rfl) (by kernel_rfl)); exact rfl)
      | (apply s3; (first | exact a_appE (fP rfl) rfl rfl rfl rfl nowR (by first | omega | (simp; omega)) (by decide) (by decide) (by exact rfl)); exact rfl; exact rfl)
      | (apply c4 0; exact callK1 (θ := []) (hD := (countedBad_ok _ _ _ preB20 preB20 preB20 preB20)); exact rfl; exact rfl; exact rfl; (try dsimp only [SV.ren, C.ren, C.ren.all, tRen, GB.ren, calF, upOf, List.cons_append, List.nil_append, Nat.reduceAdd]))
      | (apply c4 4; exact callK1 (θ := []) (hD := (counted_ok _ _ _ preB20 preB20 preB20 preB20)); exact rfl; exact rfl; exact rfl; (try dsimp only [SV.ren, C.ren, C.ren.all, tRen, GB.ren, calF, upOf, List.cons_append, List.nil_append, Nat.reduceAdd]))
      | (refine o_range (M := mII) rfl rfl Try.underlying78 rfl (fun bb => ?_))
      | (refine o_next (M := mII) rfl rfl rfl (fun hnx => ?_) (fun p l1 l2 hnx => ?_))
      | (refine o_gs rfl rfl (fun hc => ?_) (fun hc => ?_) <;> (try simp only [decide_eq_true_eq, decide_eq_false_iff_not, Bool.not_eq_true', Bool.not_eq_false', Bool.not_eq_true, Bool.not_eq_false, Bool.and_eq_true, Bool.or_eq_false_iff, Bool.not_not] at hc) <;> (try (exfalso; omega)))
      | (refine g_cond rfl (fun hc => ?_) (fun hc => ?_) <;> (try simp only [decide_eq_true_eq, decide_eq_false_iff_not, Bool.not_eq_true', Bool.not_eq_false', Bool.not_eq_true, Bool.not_eq_false, Bool.and_eq_true, Bool.or_eq_false_iff, Bool.not_not] at hc) <;> (try (exfalso; omega)))
    · repeat (first | refine g_ret ?_ | refine q_sr ?_ | refine q_br ?_ | refine q_lr ?_ | refine q_cr ?_)
      refine ends_id ?_
      exact endK [_] (h2 := (by first | (with_reducible exact SVLe.refl) | exact SVLe.any | exact SVLe.one (.sh rfl) | exact SVLe.one (.nil (by decide)) | (refine SVLe.agg ?_; repeat (first | exact CsLe.nil | refine CsLe.cons ?_ ?_ | exact CLe.refl | exact CLe.sh rfl | exact CLe.nil (by decide) | (refine cle_i ?_; (simp_all)) | (refine cle_b ?_; (simp_all)))) | (refine SVLe.tup ?_; repeat (first | exact TLe.nil | refine TLe.cons ?_ ?_ | exact CsLe.nil | refine CsLe.cons ?_ ?_ | exact CLe.refl | exact CLe.sh rfl | exact CLe.nil (by decide) | (refine cle_i ?_; (simp_all)) | (refine cle_b ?_; (simp_all)))) | exact SVLe.refl | (refine sle_i ?_; (simp_all)) | (refine sle_b ?_; (simp_all)))) (h3 := (by repeat (first | exact trivial | refine And.intro ?_ ?_ | exact Or.inl rfl | exact Or.inr rfl | (refine Or.inr (row_eq ?_); (simp_all)) | (refine Or.inr (bx_eq rfl rfl ?_); (try dsimp only [C.ren, C.ren.all]); (simp_all)))))
    · have hf : (ctRun m c b).full = false := by simp_all
      have hF := vc_run m c b (ask_ok ha).1 (ask_ok ha).2.1 (e1 ▸ hf)
      refine g_loop_id ?_
      refine loopK [6, 7, 8, 9, 29] [4, 7] (fun y : Int × List (Int × Int) × Option (Int × Int) => y.1 ≤ 0 ∧ (∀ p ∈ (ctRun m c b).x.cel, p ∈ y.2.1 ∨ y.1 ≤ p.1) ∧ (∀ p ∈ y.2.1, p ∈ (ctRun m c b).x.cel) ∧ (y.1 = 0 ∨ ∃ p ∈ (ctRun m c b).x.cel, y.1 = p.1)) (fun y => [(11, .one (int y.1))]) (fun y => [(4, .isv (.map (some bb))), (7, itOf mII bb (ctRun m c b).x.cel y.2.1 y.2.2)]) (fun y => y.2.1.length) ((0 : Int), (ctRun m c b).x.cel, none) [0, 1, 2, 3, 4, 5, 6, 7] (hI := ?_) (hr := ?_)
      · exact ⟨by simp, fun p h => .inl h, fun p h => h, .inl rfl⟩
      · rintro ⟨lo, todo, cur⟩ ⟨k1, k2, k3, k4⟩
        dsimp only [List.cons_append, List.nil_append] at *
        skip
        repeat' first
          | refine g_seq ?_
          | refine g_skip ?_
          | refine g_exit ?_
          | refine g_block ?_
          | refine g_reg (id := 6) ?_
          | refine g_reg (id := 7) ?_
          | refine g_reg (id := 8) ?_
          | refine g_reg (id := 10) ?_
          | refine g_reg (id := 11) ?_
          | refine g_reg (id := 12) ?_
          | refine g_reg (id := 13) ?_
          | refine g_reg (id := 14) ?_
          | refine g_reg (id := 15) ?_
          | refine g_if_t rfl ?_
          | refine g_if_f rfl ?_
          | refine o_nil ?_
          | refine q_s ?_
          | refine q_se ?_
          | refine q_b ?_
          | refine q_be rfl ?_
          | refine q_bn rfl ?_
          | refine q_le ?_
          | refine q_ce ?_
          | (apply n3; (first | exact a_litE eI [] rfl rfl rfl rfl rfl rfl rfl rfl | exact a_litE eI [_] rfl rfl rfl rfl rfl rfl rfl rfl | exact a_appN (fP rfl) rfl rfl rfl nowR (by first | omega | (simp; omega)) (by decide) (by exact rfl)); exact rfl; (try dsimp only [List.map_cons, List.map_nil, scC, Nat.reduceAdd]))
          | (apply p3; (first | exact a_pure (sv := .one _) rfl | exact a_pure (sv := .agg _) rfl | exact a_entry (M := mII) rfl rfl | exact a_pure (sv := .tup _) rfl | exact a_min rfl rfl | exact a_ld_rowI rfl rfl rfl (fC rfl) bnd | exact a_lenMap (M := mII) rfl rfl Try.underlying78 | exact a_cmp rfl rfl rfl trivial rfl | exact a_add rfl rfl (by omega) (by omega) | exact a_look (M := mII) 0 rfl rfl rfl Try.underlying78 (by kernel_rfl) (by kernel_rfl)); exact rfl)
          | (apply s3; (first | exact a_appE (fP rfl) rfl rfl rfl rfl nowR (by first | omega | (simp; omega)) (by decide) (by decide) (by exact rfl)); exact rfl; exact rfl)
          | (refine o_next (M := mII) rfl rfl rfl (fun hnx => ?_) (fun p l1 l2 hnx => ?_))
          | (refine o_gs rfl rfl (fun hc => ?_) (fun hc => ?_) <;> (try simp only [decide_eq_true_eq, decide_eq_false_iff_not, Bool.not_eq_true', Bool.not_eq_false', Bool.not_eq_true, Bool.not_eq_false, Bool.and_eq_true, Bool.or_eq_false_iff, Bool.not_not] at hc) <;> (try (exfalso; omega)))
          | (refine g_cond rfl (fun hc => ?_) (fun hc => ?_) <;> (try simp only [decide_eq_true_eq, decide_eq_false_iff_not, Bool.not_eq_true', Bool.not_eq_false', Bool.not_eq_true, Bool.not_eq_false, Bool.and_eq_true, Bool.or_eq_false_iff, Bool.not_not] at hc) <;> (try (exfalso; omega)))
        · subst hnx
          obtain rfl := hF.low k1 (fun p hp => (k2 p hp).resolve_left (by simp)) k4
          refine g_conv (t_itEnd (i := 4) (m := 7) rfl rfl) ?_
          have hbd := wk_bds m c b ha
          have hn := hF.n
          have hz := hF.z
          repeat' first
            | refine g_seq ?_
            | refine g_skip ?_
            | refine g_exit ?_
            | refine g_block ?_
            | refine g_reg ?_
            | refine g_if_t rfl ?_
            | refine g_if_f rfl ?_
            | refine o_nil ?_
            | refine q_s ?_
            | refine q_se ?_
            | refine q_b ?_
            | refine q_be rfl ?_
            | refine q_bn rfl ?_
            | refine q_le ?_
            | refine q_ce ?_
            | (apply n3; (first | exact a_litE eI [] rfl rfl rfl rfl rfl rfl rfl rfl | exact a_litE eI [_] rfl rfl rfl rfl rfl rfl rfl rfl | exact a_appN (fP rfl) rfl rfl rfl nowR (by first | omega | (simp; omega)) (by decide) (by exact rfl)); exact rfl; (try dsimp only [List.map_cons, List.map_nil, scC, Nat.reduceAdd]))
            | (apply p3; (first | exact a_pure (sv := .one _) rfl | exact a_pure (sv := .agg _) rfl | exact a_entry (M := mII) rfl rfl | exact a_pure (sv := .tup _) rfl | exact a_min rfl rfl | exact a_ld_rowI rfl rfl rfl (fC rfl) bnd | exact a_lenMap (M := mII) rfl rfl Try.underlying78 | exact a_cmp rfl rfl rfl trivial rfl | exact a_add rfl rfl (by omega) (by omega) | exact a_look (M := mII) 0 rfl rfl rfl Try.underlying78 (by kernel_rfl) (by kernel_rfl)); exact rfl)
            | (apply s3; (first | exact a_appE (fP rfl) rfl rfl rfl rfl nowR (by first | omega | (simp; omega)) (by decide) (by decide) (by exact rfl)); exact rfl; exact rfl)
            | (refine o_next (M := mII) rfl rfl rfl (fun hnx => ?_) (fun p l1 l2 hnx => ?_))
            | (refine o_gs rfl rfl (fun hc => ?_) (fun hc => ?_) <;> (try simp only [decide_eq_true_eq, decide_eq_false_iff_not, Bool.not_eq_true', Bool.not_eq_false', Bool.not_eq_true, Bool.not_eq_false, Bool.and_eq_true, Bool.or_eq_false_iff, Bool.not_not] at hc) <;> (try (exfalso; omega)))
            | (refine g_cond rfl (fun hc => ?_) (fun hc => ?_) <;> (try simp only [decide_eq_true_eq, decide_eq_false_iff_not, Bool.not_eq_true', Bool.not_eq_false', Bool.not_eq_true, Bool.not_eq_false, Bool.and_eq_true, Bool.or_eq_false_iff, Bool.not_not] at hc) <;> (try (exfalso; omega)))
          refine g_loop_id ?_
          refine loopK [6, 7, 8, 9, 11, 42] [8] (fun i : Int => 0 ≤ i ∧ i ≤ (ctRun m c b).x.cel.length) (fun i => [(43, .one (int i)), (13, .one (.gv 8))]) (fun i => [(8, roI ((List.range i.toNat).map fun (j : Nat) => (getA (ctRun m c b).x.cel ((wkRun m c 0 b).x.le + (j : Int))).getD 0))]) (fun i => ((ctRun m c b).x.cel.length - i).toNat) (0 : Int) [0, 1, 2, 3, 4, 5, 6, 7, 8] (hI := ?_) (hr := ?_)
          · exact ⟨by omega, by omega⟩
          · rintro i ⟨j1, j2⟩
            dsimp only [List.cons_append, List.nil_append] at *
            skip
            repeat' first
              | refine g_seq ?_
              | refine g_skip ?_
              | refine g_exit ?_
              | refine g_block ?_
              | refine g_reg ?_
              | refine g_if_t rfl ?_
              | refine g_if_f rfl ?_
              | refine o_nil ?_
              | refine q_s ?_
              | refine q_se ?_
              | refine q_b ?_
              | refine q_be rfl ?_
              | refine q_bn rfl ?_
              | refine q_le ?_
              | refine q_ce ?_
              | (apply n3; (first | exact a_litE eI [_] rfl rfl rfl rfl rfl rfl rfl rfl | exact a_appN (fP rfl) rfl rfl rfl nowR (by first | omega | (simp; omega)) (by decide) (by exact rfl)); exact rfl; (try dsimp only [List.map_cons, List.map_nil, scC, Nat.reduceAdd]))
              | (apply p3; (first | exact a_cmp rfl rfl rfl trivial rfl | exact a_pure (sv := .one _) rfl | exact a_pure (sv := .agg _) rfl | exact a_pure (sv := .tup _) rfl | exact a_ld_rowI rfl rfl rfl (fC rfl) bnd | exact a_add rfl rfl (by omega) (by omega) | exact a_look (M := mII) 0 rfl rfl rfl Try.underlying78 (by kernel_rfl) (by kernel_rfl)); exact rfl)
              | (apply s3; (first | exact a_appE (fP rfl) rfl rfl rfl rfl nowR (by first | omega | (simp; omega)) (by decide) (by decide) (by exact rfl)); exact rfl; exact rfl)
              | (refine o_gs rfl rfl (fun hc => ?_) (fun hc => ?_) <;> (try simp only [decide_eq_true_eq, decide_eq_false_iff_not, Bool.not_eq_true', Bool.not_eq_false', Bool.not_eq_true, Bool.not_eq_false, Bool.and_eq_true, Bool.or_eq_false_iff, Bool.not_not] at hc) <;> (try (exfalso; omega)))
              | (refine g_cond rfl (fun hc => ?_) (fun hc => ?_) <;> (try simp only [decide_eq_true_eq, decide_eq_false_iff_not, Bool.not_eq_true', Bool.not_eq_false', Bool.not_eq_true, Bool.not_eq_false, Bool.and_eq_true, Bool.or_eq_false_iff, Bool.not_not] at hc) <;> (try (exfalso; omega)))
            · have hrep : ((List.range i.toNat).map fun (j : Nat) => (getA (ctRun m c b).x.cel ((wkRun m c 0 b).x.le + (j : Int))).getD 0) ++ [(getA (ctRun m c b).x.cel ((wkRun m c 0 b).x.le + i)).getD 0] = (List.range (i + 1).toNat).map fun (j : Nat) => (getA (ctRun m c b).x.cel ((wkRun m c 0 b).x.le + (j : Int))).getD 0 := by
                rw [show (i + 1).toNat = i.toNat + 1 by omega, List.range_succ, List.map_append, List.map_cons, List.map_nil, show ((i.toNat : Nat) : Int) = i by omega]
              simp only [hrep] at *
              refine q_again (i + 1) [0, 1, 2, 3, 4, 5, 6, 7, 10] (by exact stk) ?_ ?_
              · exact ⟨by omega, by omega⟩
              · omega
            · have hi : i.toNat = (ctRun m c b).x.cel.length := by omega
              have hcode0 : wkCode m c b = 0 := by simp_all
              have hL := hF.list
              rw [hi, hL]
              rw [hle, hres, hcode0]
              repeat (first | refine g_ret ?_ | refine q_sr ?_ | refine q_br ?_ | refine q_lr ?_ | refine q_cr ?_)
              refine ends_id ?_
              exact endK [_] (h2 := (by first | (with_reducible exact SVLe.refl) | exact SVLe.any | exact SVLe.one (.sh rfl) | exact SVLe.one (.nil (by decide)) | (refine SVLe.agg ?_; repeat (first | exact CsLe.nil | refine CsLe.cons ?_ ?_ | exact CLe.refl | exact CLe.sh rfl | exact CLe.nil (by decide) | (refine cle_i ?_; rfl) | (refine cle_b ?_; rfl))) | (refine SVLe.tup ?_; repeat (first | exact TLe.nil | refine TLe.cons ?_ ?_ | exact CsLe.nil | refine CsLe.cons ?_ ?_ | exact CLe.refl | exact CLe.sh rfl | exact CLe.nil (by decide) | (refine cle_i ?_; rfl) | (refine cle_b ?_; rfl))) | exact SVLe.refl | (refine sle_i ?_; rfl) | (refine sle_b ?_; rfl))) (h3 := (by repeat (first | exact trivial | refine And.intro ?_ ?_ | exact Or.inl rfl | exact Or.inr rfl | (refine Or.inr (row_eq ?_); rfl) | (refine Or.inr (bx_eq rfl rfl ?_); (try dsimp only [C.ren, C.ren.all]); rfl))))
        · refine q_again (min lo p.1, l1 ++ l2, some p) [0, 1, 2, 3, 4, 5, 6, 7] (by exact stk) ?_ ?_
          · refine ⟨by dsimp only; omega, fun q hq => ?_, fun q hq => k3 q (by rw [hnx]; simp only [List.mem_append, List.mem_cons] at hq ⊢; exact hq.imp id .inr), ?_⟩
            · dsimp only
              rcases k2 q hq with h | h
              · rw [hnx] at h
                simp only [List.mem_append, List.mem_cons] at h
                rcases h with h | h | h
                · exact .inl (List.mem_append.2 (.inl h))
                · subst h; exact .inr (by omega)
                · exact .inl (List.mem_append.2 (.inr h))
              · exact .inr (by omega)
            · dsimp only
              by_cases hlt : p.1 ≤ lo
              · exact .inr ⟨p, k3 p (by rw [hnx]; simp), by omega⟩
              · rw [show min lo p.1 = lo by omega]; exact k4
          · dsimp only; rw [hnx]; simp
theorem vcRes_len (m : Mach) (c : Conf) (b : Int) : ((vcRes m c b).length : Int) ≤ 50000 := by
  unfold vcRes
  split
  · rename_i h
    have ha := wk_ask h
    have hf : (wkRun m c 0 b).full = false := by
      unfold wkCode at h
      rw [if_pos ha] at h
      split at h
      · cases h
      · rename_i hn; simpa using hn
    have hF := vc_run m c b (ask_ok ha).1 (ask_ok ha).2.1 hf
    have := hF.l
    have := wk_bds m c b ha
    omega
  · simp
end Go.Proofs.Ytncccjpbaeaafaa
