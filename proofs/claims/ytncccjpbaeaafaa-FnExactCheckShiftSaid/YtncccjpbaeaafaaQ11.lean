/- Parts of the proof (11 of 14). -/
import Derived.Test.YtncccjpbaeaafaaQ10
section
set_option linter.unusedVariables false
set_option linter.unusedSimpArgs false
set_option maxRecDepth 100000
set_option maxHeartbeats 4000000
namespace Go.Proofs.Ytncccjpbaeaafaa
open Go Foot
@[irreducible] def stepL (u : Rule') (l r : List Int) : List Int := if 0 < u.m then pushL l u.w else l.dropLast
@[irreducible] def stepR (u : Rule') (l r : List Int) : List Int := if 0 < u.m then r.dropLast else pushL (pushL r.dropLast u.w) (l.getLastD 0)
theorem pushL_len (l : List Int) (x : Int) : (pushL l x).length ≤ l.length + 1 := by unfold pushL; split <;> simp
theorem preB5 {p : Prop} (h : p := by first | with_reducible assumption | omega | (simp only [List.length_append, List.length_cons, List.length_nil, List.length_set, List.length_replicate, List.length_take, List.length_drop, List.length_tail, List.length_dropLast, List.length_reverse] at *; omega) | exact mem_len (by assumption) (by omega) | (with_reducible refine Int.le_trans (Int.ofNat_le.2 (trimR_len _)) ?_; simp only [List.length_cons, List.length_tail]; omega) | (have := vMach_bd (by assumption); omega) | (with_reducible refine Int.le_trans (Int.ofNat_le.2 (pushL_len _ _)) ?_; simp only [List.length_dropLast]; omega) | trivial) : p := h
theorem step_ok (m : Mach) (s : Int) (l r : List Int) (u : Rule') (hx : (r.length : Int) ≤ 1000) (hy : (l.length : Int) ≤ 1000) (h1 : 0 ≤ s * m.sy) (h2 : s * m.sy < 9223372036854775) (h3 : 0 ≤ r.getLastD 0) (h4 : r.getLastD 0 < 9223372036854775) (h5 : s * m.sy + r.getLastD 0 < m.ru.length) (h6 : m.ru[(s * m.sy + r.getLastD 0).toNat]? = some u) : Does Try.prog 98 [.one (.gv 0)] [ruBx m s 1 2, roI l, roI r] (.one (boo (decide ((stepL u l r).length ≤ 200 ∧ (stepR u l r).length ≤ 200)))) [ruBx m u.n 3 4, .dead, .dead, roI (stepL u l r), roI (stepR u l r)] := by
  have h6' := (List.getElem?_eq_some_iff.1 h6).2
  refine does_of (k := 3) Try.func98 rfl Try.ntmps98 rfl rfl fun w F0 S0 ρ0 => ?_
  dsimp only [argT, argH]
  repeat' first
    | refine g_seq ?_
    | refine g_skip ?_
    | refine g_exit ?_
    | refine g_block ?_
    | refine g_reg ?_
    | refine g_if_t rfl ?_
    | refine g_if_f rfl ?_
    | refine o_nil ?_
    | refine q_s ?_
    | refine q_se ?_
    | refine q_b ?_
    | refine q_be rfl ?_
    | refine q_bn rfl ?_
    | refine q_le ?_
    | refine q_ce ?_
    | (apply n3; exact a_new (gb := .bx _) rfl; exact rfl; (try dsimp only [List.map_cons, List.map_nil, scC, Nat.reduceAdd]))
    | (apply p3; (first | exact pu1 | exact puL | exact puC | exact puN | exact a_len_str rfl (fT rfl)); exact rfl)
    | (apply w3; (first | exact a_st_bx rfl rfl rfl rfl (fN rfl rfl) (Nat.le_of_ble_eq_true rfl) rfl | exact a_stE (E := eR) ⟨_, _, _⟩ rfl rfl rfl rfl (fN rfl rfl) bnd (by exact rfl) | exact a_stE (E := eW) _ rfl rfl rfl rfl (fN rfl rfl) bnd (by exact rfl) | exact a_st_rowI rfl rfl rfl rfl (fN rfl rfl) bnd | exact a_stE (E := eI) _ rfl rfl rfl rfl (fN rfl rfl) bnd (by exact rfl)); exact rfl; (try dsimp only [setRow, List.map_cons, List.map_nil, scC, List.set_cons_zero, List.set_cons_succ, List.take_succ_cons, List.take_zero, List.drop_succ_cons, List.drop_zero, Nat.reduceAdd]))
    | (apply c4 0; exact callK1 (θ := []) (hD := (rule_ok _ _ _ _ preB5 preB5 preB5 preB5 preB5 preB5)); exact rfl; exact rfl; exact rfl; (try dsimp only [SV.ren, C.ren, C.ren.all, tRen, GB.ren, calF, upOf, List.cons_append, List.nil_append, Nat.reduceAdd]))
    | (apply c4 0; exact callK1 (θ := []) (hD := (ruleC_ok _ _ preB5 preB5)); exact rfl; exact rfl; exact rfl; (try dsimp only [SV.ren, C.ren, C.ren.all, tRen, GB.ren, calF, upOf, List.cons_append, List.nil_append, Nat.reduceAdd]))
    | (apply c4 1; exact callK1 (θ := [_]) (hD := (pop_ok _ preB5)); exact rfl; exact rfl; exact rfl; (try dsimp only [SV.ren, C.ren, C.ren.all, tRen, GB.ren, calF, upOf, List.cons_append, List.nil_append, Nat.reduceAdd]))
    | refine o_no rfl rfl rfl rfl ?_
    | refine o_noN rfl rfl rfl ?_
    | (apply py3; exact rfl; exact rfl; (first | exact pu1 | exact puL | exact puC | exact puN | exact a_len_str rfl (fT rfl)); exact rfl; exact rfl)
    | (apply ny3; exact rfl; exact rfl; exact a_new (gb := .bx _) rfl; exact rfl; exact rfl)
    | (apply cy4 0; exact rfl; exact rfl; exact callK1 (θ := []) (hD := (rule_ok _ _ _ _ preB5 preB5 preB5 preB5 preB5 preB5)); exact rfl; exact rfl; exact rfl; exact rfl; (try dsimp only [SV.ren, C.ren, C.ren.all, tRen, GB.ren, calF, upOf, List.cons_append, List.nil_append, Nat.reduceAdd]))
    | (apply cy4 0; exact rfl; exact rfl; exact callK1 (θ := []) (hD := (ruleC_ok _ _ preB5 preB5)); exact rfl; exact rfl; exact rfl; exact rfl; (try dsimp only [SV.ren, C.ren, C.ren.all, tRen, GB.ren, calF, upOf, List.cons_append, List.nil_append, Nat.reduceAdd]))
    | (apply cy4 1; exact rfl; exact rfl; exact callK1 (θ := [_]) (hD := (pop_ok _ preB5)); exact rfl; exact rfl; exact rfl; exact rfl; (try dsimp only [SV.ren, C.ren, C.ren.all, tRen, GB.ren, calF, upOf, List.cons_append, List.nil_append, Nat.reduceAdd]))
    | (apply g_drN (id := 4) okM [[], [], [1], [1, 2], [1, 2, 3], [], [5], [1, 2, 3, 4, 5, 6], [0, 1, 2, 3, 4, 5, 6, 7], [0, 1, 2, 3, 4, 5, 6, 7, 8], [0, 1, 2, 3, 4, 5, 6, 7, 8, 9]] [([], []), ([], []), ([], []), ([], []), ([], []), ([], []), ([], []), ([0], [1]), ([], []), ([], []), ([], [0])] 1; (focus (all_goals refine dp 0 0 [18, 19, 20, 21, 22, 23, 24] [(true, 0), (false, 1)] pu1 ?_; all_goals refine dp 1 0 [17, 22, 23] [] pu1 ?_; all_goals refine dp 2 1 [17, 22, 23] [] (a_pure (sv := .one _) rfl) ?_; all_goals refine dp 3 3 [17, 22, 23] [] (a_pure (sv := .one _) rfl) ?_; all_goals refine dp 4 7 [17, 22, 23] [] puL ?_; all_goals refine dp 5 0 [17, 18, 19, 20, 21] [] (a_pure (sv := .one _) rfl) ?_; all_goals refine dp 6 1 [17, 18, 19, 20, 21] [] puL ?_; all_goals refine duN 7 63 [17] [] (callD1 (n := _) 0 (θ := [_]) (hD := (push_ok _ _ preB5))) (by exact rfl) (by exact rfl) ?_; all_goals refine dp 8 255 [] [] (a_pure (sv := .one _) rfl) ?_; all_goals refine dp 9 511 [] [] (a_pure (sv := .one _) rfl) ?_; all_goals refine duE 10 1023 [] [] (by first | exact a_st_bx rfl rfl rfl rfl (fN rfl rfl) (Nat.le_of_ble_eq_true rfl) rfl | exact a_stE (E := eW) _ rfl rfl rfl rfl (fN rfl rfl) bnd (by exact rfl)) (by exact rfl) (by exact rfl) ?_; all_goals (refine d_nil ?_; dsimp only [selT, selH, trues, SV.ren, C.ren, C.ren.all, tRen, GB.ren, calF, upOf, List.cons_append, List.nil_append, Nat.reduceAdd, setRow, List.map_cons, List.map_nil, scC, List.set_cons_zero, List.set_cons_succ, List.take_succ_cons, List.take_zero, List.drop_succ_cons, List.drop_zero]))); any_goals kernel_rfl)
    | (apply g_drN (id := 5) okM [[], [], [1], [1, 2], [1, 2, 3], [], [5], [1, 2, 3, 4, 5, 6], [], [8], [8, 9], [8, 9, 10], [1, 2, 3, 4, 5, 6, 7, 8, 9, 10, 11], [1, 2, 3, 4, 5, 6, 7, 8, 9, 10, 11, 12], [0, 1, 2, 3, 4, 5, 6, 7, 8, 9, 10, 11, 12, 13], [0, 1, 2, 3, 4, 5, 6, 7, 8, 9, 10, 11, 12, 13, 14], [0, 1, 2, 3, 4, 5, 6, 7, 8, 9, 10, 11, 12, 13, 14, 15]] [([], []), ([], []), ([], []), ([], []), ([], []), ([], []), ([], []), ([0], [4]), ([], []), ([], []), ([], []), ([], []), ([], []), ([1], [5]), ([], []), ([], []), ([], [0])] 2; (focus (all_goals refine dp 0 0 [28, 29, 30, 31, 32, 33, 34, 35, 36, 37, 38, 39, 40] [(true, 0), (false, 4), (true, 1), (false, 5)] pu1 ?_; all_goals refine dp 1 0 [27, 32, 33, 35, 36, 37, 38] [] pu1 ?_; all_goals refine dp 2 1 [27, 32, 33, 35, 36, 37, 38] [] (a_pure (sv := .one _) rfl) ?_; all_goals refine dp 3 3 [27, 32, 33, 35, 36, 37, 38] [] (a_pure (sv := .one _) rfl) ?_; all_goals refine dp 4 7 [27, 32, 33, 35, 36, 37, 38] [] puL ?_; all_goals refine dp 5 0 [27, 28, 29, 30, 31, 35, 36, 37, 38] [] (a_pure (sv := .one _) rfl) ?_; all_goals refine dp 6 1 [27, 28, 29, 30, 31, 35, 36, 37, 38] [] puL ?_; all_goals refine duN 7 63 [27, 35, 36, 37, 38] [] (callD1 (n := _) 0 (θ := [_]) (hD := (push_ok _ _ preB5))) (by exact rfl) (by exact rfl) ?_; all_goals refine dp 8 0 [27, 28, 29, 30, 31, 32, 33, 34] [(true, 0), (false, 4)] pu1 ?_; all_goals refine dp 9 1 [27, 28, 29, 30, 31, 32, 33, 34] [(true, 0), (false, 4)] (a_pure (sv := .one _) rfl) ?_; all_goals refine dp 10 3 [27, 28, 29, 30, 31, 32, 33, 34] [(true, 0), (false, 4)] (a_pure (sv := .one _) rfl) ?_; all_goals refine dp 11 7 [27, 28, 29, 30, 31, 32, 33, 34] [(true, 0), (false, 4)] puL ?_; all_goals refine dp 12 2047 [27] [] (callD1 (n := _) 1 (θ := []) (hD := (nearest_ok _ preB5))) ?_; all_goals refine duN 13 4095 [27] [] (callD1 (n := _) 1 (θ := [_]) (hD := (push_ok _ _ preB5))) (by exact rfl) (by exact rfl) ?_; all_goals refine dp 14 16383 [] [] (a_pure (sv := .one _) rfl) ?_; all_goals refine dp 15 32767 [] [] (a_pure (sv := .one _) rfl) ?_; all_goals refine duE 16 65535 [] [] (by first | exact a_st_bx rfl rfl rfl rfl (fN rfl rfl) (Nat.le_of_ble_eq_true rfl) rfl | exact a_stE (E := eW) _ rfl rfl rfl rfl (fN rfl rfl) bnd (by exact rfl)) (by exact rfl) (by exact rfl) ?_; all_goals (refine d_nil ?_; dsimp only [selT, selH, trues, SV.ren, C.ren, C.ren.all, tRen, GB.ren, calF, upOf, List.cons_append, List.nil_append, Nat.reduceAdd, setRow, List.map_cons, List.map_nil, scC, List.set_cons_zero, List.set_cons_succ, List.take_succ_cons, List.take_zero, List.drop_succ_cons, List.drop_zero]))); any_goals kernel_rfl)
    | (refine o_gs rfl rfl (fun hc => ?_) (fun hc => ?_) <;> (try simp only [decide_eq_true_eq, decide_eq_false_iff_not, Bool.not_eq_true', Bool.not_eq_false', Bool.not_eq_true, Bool.not_eq_false, Bool.and_eq_true, Bool.or_eq_false_iff, Bool.not_not] at hc) <;> (try (first | contradiction | (exfalso; omega))))
    | (refine g_cond rfl (fun hc => ?_) (fun hc => ?_) <;> (try simp only [decide_eq_true_eq, decide_eq_false_iff_not, Bool.not_eq_true', Bool.not_eq_false', Bool.not_eq_true, Bool.not_eq_false, Bool.and_eq_true, Bool.or_eq_false_iff, Bool.not_not] at hc) <;> (try (first | contradiction | (exfalso; omega))))
  all_goals (simp only [h6'] at *)
  all_goals
    repeat (first | refine g_ret ?_ | refine q_sr ?_ | refine q_br ?_ | refine q_lr ?_ | refine q_cr ?_)
    refine ends_id ?_
    refine endK [?_, ?_] (h2 := ?_) (h3 := ?_) (nd := ?_)
    rotate_left 2
    all_goals (repeat' first | with_reducible exact SVLe.refl | exact SVLe.any | exact SVLe.one (.sh rfl) | exact SVLe.one (.nil (by decide)) | refine SVLe.agg ?_ | refine SVLe.tup ?_ | exact TLe.nil | refine TLe.cons ?_ ?_ | exact CsLe.nil | refine CsLe.cons ?_ ?_ | exact CLe.refl | exact CLe.sh rfl | exact CLe.nil (by decide) | refine cle_i ?_ | refine cle_b ?_ | exact trivial | refine And.intro ?_ ?_ | exact Or.inl rfl | exact Or.inr rfl | refine Or.inr (row_eq ?_) | (refine Or.inr (bx_eq rfl rfl ?_); (try dsimp only [C.ren, C.ren.all]); (try exact rfl)) | exact SVLe.refl | refine sle_i ?_ | refine sle_b ?_)
    all_goals first | exact (show nodupB _ = true from rfl) | exact Or.inr rfl | (((first | rw [decide_eq_decide] | (symm; rw [decide_eq_false_iff_not]) | skip); simp only [stepL, stepR, if_true, if_false, *]; try omega))
theorem config_ok (m : Mach) (s : Int) (l r : List Int) (hx : (r.length : Int) ≤ 16777216) (hy : (l.length : Int) ≤ 16777216) : Does Try.prog 77 [.one (ruD m s l r)] [] (.agg [int s, .gv 0, .gv 1]) [roI l.reverse, roI r.reverse] := by
  refine does_of (k := 0) Try.func77 rfl Try.ntmps77 rfl rfl fun w F0 S0 ρ0 => ?_
  dsimp only [argT, argH]
  repeat' first
    | refine g_seq ?_
    | refine g_skip ?_
    | refine g_exit ?_
    | refine g_block ?_
    | refine g_reg ?_
    | refine g_if_t rfl ?_
    | refine g_if_f rfl ?_
    | refine o_nil ?_
    | refine q_s ?_
    | refine q_se ?_
    | refine q_b ?_
    | refine q_be rfl ?_
    | refine q_bn rfl ?_
    | refine q_le ?_
    | refine q_ce ?_
    | (apply n3; exact a_new (gb := .bx _) rfl; exact rfl; (try dsimp only [List.map_cons, List.map_nil, scC, Nat.reduceAdd]))
    | (apply g_drN (id := 1) okM [[], [0], [0, 1], [0, 1, 2], [], [4], [4, 5], [4, 5, 6], [4, 5, 6, 7], [], [9], [9, 10], [9, 10, 11], [4, 5, 6, 7, 8, 9, 10, 11, 12], [0, 1, 2, 3, 4, 5, 6, 7, 8, 9, 10, 11, 12, 13], [0, 1, 2, 3, 4, 5, 6, 7, 8, 9, 10, 11, 12, 13, 14]] [([], []), ([], []), ([], []), ([], []), ([], []), ([], []), ([], []), ([], []), ([0], []), ([], []), ([], []), ([], []), ([], []), ([1], []), ([], []), ([], [0])] 2; (focus (all_goals refine dp 0 0 [7, 8, 9, 10, 11, 12, 13, 14, 15, 16] [(true, 0), (true, 1)] pu1 ?_; all_goals refine dp 1 1 [7, 8, 9, 10, 11, 12, 13, 14, 15, 16] [(true, 0), (true, 1)] (a_pure (sv := .one _) rfl) ?_; all_goals refine dp 2 3 [7, 8, 9, 10, 11, 12, 13, 14, 15, 16] [(true, 0), (true, 1)] (a_pure (sv := .one _) rfl) ?_; all_goals refine dp 3 7 [7, 8, 9, 10, 11, 12, 13, 14, 15, 16] [(true, 0), (true, 1)] puL ?_; all_goals refine dp 4 0 [3, 4, 5, 6, 12, 13, 14, 15] [] pu1 ?_; all_goals refine dp 5 1 [3, 4, 5, 6, 12, 13, 14, 15] [] (a_pure (sv := .one _) rfl) ?_; all_goals refine dp 6 3 [3, 4, 5, 6, 12, 13, 14, 15] [] (a_pure (sv := .one _) rfl) ?_; all_goals refine dp 7 7 [3, 4, 5, 6, 12, 13, 14, 15] [] puL ?_; all_goals refine duN 8 15 [3, 4, 5, 6, 12, 13, 14, 15] [] (callD1 (n := _) 0 (θ := []) (hD := (reversed_ok _ preB5))) (by exact rfl) (by exact rfl) ?_; all_goals refine dp 9 0 [3, 4, 5, 6, 7, 8, 9, 10, 11] [(true, 0)] pu1 ?_; all_goals refine dp 10 1 [3, 4, 5, 6, 7, 8, 9, 10, 11] [(true, 0)] (a_pure (sv := .one _) rfl) ?_; all_goals refine dp 11 3 [3, 4, 5, 6, 7, 8, 9, 10, 11] [(true, 0)] (a_pure (sv := .one _) rfl) ?_; all_goals refine dp 12 7 [3, 4, 5, 6, 7, 8, 9, 10, 11] [(true, 0)] puL ?_; all_goals refine duN 13 511 [3, 4, 5, 6] [] (callD1 (n := _) 1 (θ := []) (hD := (reversed_ok _ preB5))) (by exact rfl) (by exact rfl) ?_; all_goals refine dp 14 16383 [] [] (a_pure (sv := .agg _) rfl) ?_; all_goals refine duE 15 32767 [] [] (a_st_bx rfl rfl rfl rfl (fN rfl rfl) (Nat.le_of_ble_eq_true rfl) rfl) (by exact rfl) (by exact rfl) ?_; all_goals (refine d_nil ?_; dsimp only [selT, selH, trues, SV.ren, C.ren, C.ren.all, tRen, GB.ren, calF, upOf, List.cons_append, List.nil_append, Nat.reduceAdd, setRow, List.map_cons, List.map_nil, scC, List.set_cons_zero, List.set_cons_succ, List.take_succ_cons, List.take_zero, List.drop_succ_cons, List.drop_zero]))); any_goals kernel_rfl)
    | (refine o_gs rfl rfl (fun hc => ?_) (fun hc => ?_) <;> (try simp only [decide_eq_true_eq, decide_eq_false_iff_not, Bool.not_eq_true', Bool.not_eq_false', Bool.not_eq_true, Bool.not_eq_false, Bool.and_eq_true, Bool.or_eq_false_iff, Bool.not_not] at hc) <;> (try (first | contradiction | (exfalso; omega))))
    | (refine g_cond rfl (fun hc => ?_) (fun hc => ?_) <;> (try simp only [decide_eq_true_eq, decide_eq_false_iff_not, Bool.not_eq_true', Bool.not_eq_false', Bool.not_eq_true, Bool.not_eq_false, Bool.and_eq_true, Bool.or_eq_false_iff, Bool.not_not] at hc) <;> (try (first | contradiction | (exfalso; omega))))
  repeat (first | refine g_ret ?_ | refine q_sr ?_ | refine q_br ?_ | refine q_lr ?_ | refine q_cr ?_)
  refine ends_id ?_
  refine endK [?_, ?_] (h2 := ?_) (h3 := ?_) (nd := ?_)
  rotate_left 2
  all_goals (repeat' first | with_reducible exact SVLe.refl | exact SVLe.any | exact SVLe.one (.sh rfl) | exact SVLe.one (.nil (by decide)) | refine SVLe.agg ?_ | refine SVLe.tup ?_ | exact TLe.nil | refine TLe.cons ?_ ?_ | exact CsLe.nil | refine CsLe.cons ?_ ?_ | exact CLe.refl | exact CLe.sh rfl | exact CLe.nil (by decide) | refine cle_i ?_ | refine cle_b ?_ | exact trivial | refine And.intro ?_ ?_ | exact Or.inl rfl | exact Or.inr rfl | refine Or.inr (row_eq ?_) | (refine Or.inr (bx_eq rfl rfl ?_); (try dsimp only [C.ren, C.ren.all]); (try exact rfl)) | exact SVLe.refl | refine sle_i ?_ | refine sle_b ?_)
  all_goals first | exact (show nodupB _ = true from rfl) | exact Or.inr rfl | (rfl)
theorem l05Halts_ok (m : Mach) (c : Conf) (hc : (c.ri.length : Int) ≤ 16777216) (h1 : 0 ≤ c.st * m.sy) (h2 : c.st * m.sy < 9223372036854775) (h3 : 0 ≤ c.ri.headD 0) (h4 : c.ri.headD 0 < 9223372036854775) (h5 : c.st * m.sy + c.ri.headD 0 < m.ru.length) : Does Try.prog 87 [.one (maB m), .one (coB c)] [] (.one (boo (decide (m.ru[(c.st * m.sy + c.ri.headD 0).toNat]'(by omega) = ⟨0, 0, -1⟩)))) [] := by
  refine does_of (k := 0) Try.func87 rfl Try.ntmps87 rfl rfl fun w F0 S0 ρ0 => ?_
  dsimp only [argT, argH]
  repeat' first
    | refine g_seq ?_
    | refine g_skip ?_
    | refine g_exit ?_
    | refine g_block ?_
    | refine g_reg ?_
    | refine g_if_t rfl ?_
    | refine g_if_f rfl ?_
    | refine o_nil ?_
    | refine q_s ?_
    | refine q_se ?_
    | refine q_b ?_
    | refine q_be rfl ?_
    | refine q_bn rfl ?_
    | refine q_le ?_
    | refine q_ce ?_
    | (apply p3; exact a_pure (sv := .one _) rfl; exact rfl)
    | (apply g_drN (id := 1) okM [[], [0], [0, 1], [0, 1, 2], [], [], [4, 5], [0, 1, 2, 3, 4, 5, 6], [0, 1, 2, 3, 4, 5, 6, 7], [4, 5, 6], [0, 1, 2, 3, 4, 5, 6, 7, 8, 9], [0, 1, 2, 3, 4, 5, 6, 7, 8, 9, 10]] [([], []), ([], []), ([], []), ([], []), ([], []), ([], []), ([], []), ([], []), ([], []), ([], []), ([], []), ([], [])] 0; (focus (all_goals refine dp 0 0 [9, 10, 11, 14] [] pu1 ?_; all_goals refine dp 1 1 [9, 10, 11, 14] [] (a_pure (sv := .one _) rfl) ?_; all_goals refine dp 2 3 [9, 10, 11, 14] [] (a_pure (sv := .one _) rfl) ?_; all_goals refine dp 3 7 [9, 10, 11, 14] [] puL ?_; all_goals refine dp 4 0 [5, 6, 7, 8, 10] [] pu1 ?_; all_goals refine dp 5 0 [5, 6, 7, 8, 9] [] pu1 ?_; all_goals refine dp 6 3 [5, 6, 7, 8] [] (by first | exact callD1 (n := _) 0 (θ := []) (hD := (l05At_ok _ _ preB5 preB5 preB5 preB5 preB5)) | exact callD1 (n := _) 0 (θ := []) (hD := (l05AtC_ok _ _ preB5 preB5))) ?_; all_goals refine dp 7 127 [14] [] puI ?_; all_goals refine dp 8 255 [14] [] puL ?_; all_goals refine dp 9 28 [5, 6, 7, 8, 12, 13] [] (callD1 (n := _) 0 (θ := []) (hD := l05None_ok)) ?_; all_goals refine dp 10 1023 [] [] (by first | exact a_eqRule rfl rfl | exact a_eqRule (s := ⟨_, _, _⟩) rfl rfl | exact a_eqRule (r := ⟨_, _, _⟩) rfl rfl | exact a_eqRule (r := ⟨_, _, _⟩) (s := ⟨_, _, _⟩) rfl rfl) ?_; all_goals refine dp 11 2047 [] [] pu1 ?_; all_goals (refine d_nil ?_; dsimp only [selT, selH, trues, SV.ren, C.ren, C.ren.all, tRen, GB.ren, calF, upOf, List.cons_append, List.nil_append, Nat.reduceAdd, setRow, List.map_cons, List.map_nil, scC, List.set_cons_zero, List.set_cons_succ, List.take_succ_cons, List.take_zero, List.drop_succ_cons, List.drop_zero]))); any_goals kernel_rfl)
    | (refine o_gs rfl rfl (fun hc => ?_) (fun hc => ?_) <;> (try simp only [decide_eq_true_eq, decide_eq_false_iff_not, Bool.not_eq_true', Bool.not_eq_false', Bool.not_eq_true, Bool.not_eq_false, Bool.and_eq_true, Bool.or_eq_false_iff, Bool.not_not] at hc) <;> (try (first | contradiction | (exfalso; omega))))
    | (refine g_cond rfl (fun hc => ?_) (fun hc => ?_) <;> (try simp only [decide_eq_true_eq, decide_eq_false_iff_not, Bool.not_eq_true', Bool.not_eq_false', Bool.not_eq_true, Bool.not_eq_false, Bool.and_eq_true, Bool.or_eq_false_iff, Bool.not_not] at hc) <;> (try (first | contradiction | (exfalso; omega))))
  repeat (first | refine g_ret ?_ | refine q_sr ?_ | refine q_br ?_ | refine q_lr ?_ | refine q_cr ?_)
  refine ends_id ?_
  refine endK [] (h2 := ?_) (h3 := ?_) (nd := ?_)
  all_goals (repeat' first | with_reducible exact SVLe.refl | exact SVLe.any | exact SVLe.one (.sh rfl) | exact SVLe.one (.nil (by decide)) | refine SVLe.agg ?_ | refine SVLe.tup ?_ | exact TLe.nil | refine TLe.cons ?_ ?_ | exact CsLe.nil | refine CsLe.cons ?_ ?_ | exact CLe.refl | exact CLe.sh rfl | exact CLe.nil (by decide) | refine cle_i ?_ | refine cle_b ?_ | exact trivial | refine And.intro ?_ ?_ | exact Or.inl rfl | exact Or.inr rfl | refine Or.inr (row_eq ?_) | (refine Or.inr (bx_eq rfl rfl ?_); (try dsimp only [C.ren, C.ren.all]); (try exact rfl)) | exact SVLe.refl | refine sle_i ?_ | refine sle_b ?_)
  all_goals first | exact (show nodupB _ = true from rfl) | exact Or.inr rfl | (rfl)
theorem l05OwnConfig_ok (c : Conf) (hx : (c.le.length : Int) ≤ 16777216) (hy : (c.ri.length : Int) ≤ 16777216) : Does Try.prog 101 [.one (coB c)] [] (.agg [int c.st, .gv 0, .gv 1]) [roI c.le, roI c.ri] := by
  refine does_of (k := 0) Try.func101 rfl Try.ntmps101 rfl rfl fun w F0 S0 ρ0 => ?_
  dsimp only [argT, argH]
  repeat' first
    | refine g_seq ?_
    | refine g_skip ?_
    | refine g_exit ?_
    | refine g_block ?_
    | refine g_reg ?_
    | refine g_if_t rfl ?_
    | refine g_if_f rfl ?_
    | refine o_nil ?_
    | refine q_s ?_
    | refine q_se ?_
    | refine q_b ?_
    | refine q_be rfl ?_
    | refine q_bn rfl ?_
    | refine q_le ?_
    | refine q_ce ?_
    | (apply n3; exact a_new (gb := .bx _) rfl; exact rfl; (try dsimp only [List.map_cons, List.map_nil, scC, Nat.reduceAdd]))
    | (apply g_drN (id := 1) okM [[], [0], [0, 1], [0, 1, 2], [], [4], [4, 5], [4, 5, 6], [4, 5, 6, 7], [], [9], [9, 10], [9, 10, 11], [4, 5, 6, 7, 8, 9, 10, 11, 12], [0, 1, 2, 3, 4, 5, 6, 7, 8, 9, 10, 11, 12, 13], [0, 1, 2, 3, 4, 5, 6, 7, 8, 9, 10, 11, 12, 13, 14]] [([], []), ([], []), ([], []), ([], []), ([], []), ([], []), ([], []), ([], []), ([0], []), ([], []), ([], []), ([], []), ([], []), ([1], []), ([], []), ([], [0])] 2; (focus (all_goals refine dp 0 0 [7, 8, 9, 10, 11, 12, 13, 14, 15, 16] [(true, 0), (true, 1)] pu1 ?_; all_goals refine dp 1 1 [7, 8, 9, 10, 11, 12, 13, 14, 15, 16] [(true, 0), (true, 1)] (a_pure (sv := .one _) rfl) ?_; all_goals refine dp 2 3 [7, 8, 9, 10, 11, 12, 13, 14, 15, 16] [(true, 0), (true, 1)] (a_pure (sv := .one _) rfl) ?_; all_goals refine dp 3 7 [7, 8, 9, 10, 11, 12, 13, 14, 15, 16] [(true, 0), (true, 1)] puL ?_; all_goals refine dp 4 0 [3, 4, 5, 6, 12, 13, 14, 15] [] pu1 ?_; all_goals refine dp 5 1 [3, 4, 5, 6, 12, 13, 14, 15] [] (a_pure (sv := .one _) rfl) ?_; all_goals refine dp 6 3 [3, 4, 5, 6, 12, 13, 14, 15] [] (a_pure (sv := .one _) rfl) ?_; all_goals refine dp 7 7 [3, 4, 5, 6, 12, 13, 14, 15] [] puL ?_; all_goals refine duN 8 15 [3, 4, 5, 6, 12, 13, 14, 15] [] (callD1 (n := _) 0 (θ := []) (hD := (l00Own_ok _ preB5))) (by exact rfl) (by exact rfl) ?_; all_goals refine dp 9 0 [3, 4, 5, 6, 7, 8, 9, 10, 11] [(true, 0)] pu1 ?_; all_goals refine dp 10 1 [3, 4, 5, 6, 7, 8, 9, 10, 11] [(true, 0)] (a_pure (sv := .one _) rfl) ?_; all_goals refine dp 11 3 [3, 4, 5, 6, 7, 8, 9, 10, 11] [(true, 0)] (a_pure (sv := .one _) rfl) ?_; all_goals refine dp 12 7 [3, 4, 5, 6, 7, 8, 9, 10, 11] [(true, 0)] puL ?_; all_goals refine duN 13 511 [3, 4, 5, 6] [] (callD1 (n := _) 1 (θ := []) (hD := (l00Own_ok _ preB5))) (by exact rfl) (by exact rfl) ?_; all_goals refine dp 14 16383 [] [] (a_pure (sv := .agg _) rfl) ?_; all_goals refine duE 15 32767 [] [] (a_st_bx rfl rfl rfl rfl (fN rfl rfl) (Nat.le_of_ble_eq_true rfl) rfl) (by exact rfl) (by exact rfl) ?_; all_goals (refine d_nil ?_; dsimp only [selT, selH, trues, SV.ren, C.ren, C.ren.all, tRen, GB.ren, calF, upOf, List.cons_append, List.nil_append, Nat.reduceAdd, setRow, List.map_cons, List.map_nil, scC, List.set_cons_zero, List.set_cons_succ, List.take_succ_cons, List.take_zero, List.drop_succ_cons, List.drop_zero]))); any_goals kernel_rfl)
    | (refine o_gs rfl rfl (fun hc => ?_) (fun hc => ?_) <;> (try simp only [decide_eq_true_eq, decide_eq_false_iff_not, Bool.not_eq_true', Bool.not_eq_false', Bool.not_eq_true, Bool.not_eq_false, Bool.and_eq_true, Bool.or_eq_false_iff, Bool.not_not] at hc) <;> (try (first | contradiction | (exfalso; omega))))
    | (refine g_cond rfl (fun hc => ?_) (fun hc => ?_) <;> (try simp only [decide_eq_true_eq, decide_eq_false_iff_not, Bool.not_eq_true', Bool.not_eq_false', Bool.not_eq_true, Bool.not_eq_false, Bool.and_eq_true, Bool.or_eq_false_iff, Bool.not_not] at hc) <;> (try (first | contradiction | (exfalso; omega))))
  repeat (first | refine g_ret ?_ | refine q_sr ?_ | refine q_br ?_ | refine q_lr ?_ | refine q_cr ?_)
  refine ends_id ?_
  refine endK [?_, ?_] (h2 := ?_) (h3 := ?_) (nd := ?_)
  rotate_left 2
  all_goals (repeat' first | with_reducible exact SVLe.refl | exact SVLe.any | exact SVLe.one (.sh rfl) | exact SVLe.one (.nil (by decide)) | refine SVLe.agg ?_ | refine SVLe.tup ?_ | exact TLe.nil | refine TLe.cons ?_ ?_ | exact CsLe.nil | refine CsLe.cons ?_ ?_ | exact CLe.refl | exact CLe.sh rfl | exact CLe.nil (by decide) | refine cle_i ?_ | refine cle_b ?_ | exact trivial | refine And.intro ?_ ?_ | exact Or.inl rfl | exact Or.inr rfl | refine Or.inr (row_eq ?_) | (refine Or.inr (bx_eq rfl rfl ?_); (try dsimp only [C.ren, C.ren.all]); (try exact rfl)) | exact SVLe.refl | refine sle_i ?_ | refine sle_b ?_)
  all_goals first | exact (show nodupB _ = true from rfl) | exact Or.inr rfl | (rfl)
end Go.Proofs.Ytncccjpbaeaafaa
end
section
set_option linter.unusedVariables false
set_option linter.unusedSimpArgs false
set_option maxRecDepth 100000
set_option maxHeartbeats 4000000
namespace Go.Proofs.Ytncccjpbaeaafaa
open Go Foot
theorem vSide_bd {sy : Int} {l : List Int} (h : vSide sy l = true) : (l.length : Int) ≤ 200 ∧ (∀ x ∈ l, 0 ≤ x ∧ x ≤ sy - 1) ∧ l.getLastD 1 ≠ 0 := by
  unfold vSide at h
  simp only [Bool.and_eq_true, List.all_eq_true, decide_eq_true_eq] at h
  exact ⟨h.2.1, h.1, h.2.2⟩
theorem vSide_mk {sy : Int} {l : List Int} (h1 : (l.length : Int) ≤ 200) (h2 : ∀ x ∈ l, 0 ≤ x ∧ x ≤ sy - 1) (h3 : l.getLastD 1 ≠ 0) : vSide sy l = true := by
  unfold vSide
  simp only [Bool.and_eq_true, List.all_eq_true, decide_eq_true_eq]
  exact ⟨h2, h1, h3⟩
theorem vConf_bd {m : Mach} {c : Conf} (h : vConf m c = true) : (0 ≤ c.st ∧ c.st ≤ m.st - 1) ∧ vSide m.sy c.le = true ∧ vSide m.sy c.ri = true := by
  unfold vConf at h
  simp only [Bool.and_eq_true, decide_eq_true_eq] at h
  exact ⟨h.1.1, h.1.2, h.2⟩
theorem vConf_mk {m : Mach} {c : Conf} (h : (0 ≤ c.st ∧ c.st ≤ m.st - 1) ∧ vSide m.sy c.le = true ∧ vSide m.sy c.ri = true) : vConf m c = true := by
  unfold vConf
  simp only [Bool.and_eq_true, decide_eq_true_eq]
  exact ⟨⟨h.1, h.2.1⟩, h.2.2⟩
abbrev noR : Rule' := ⟨0, 0, -1⟩
/-- The rule for a configuration. -/
@[irreducible] def ruAt (m : Mach) (c : Conf) : Rule' := m.ru.getD (c.st * m.sy + c.ri.headD 0).toNat noR
theorem headD_bd {sy : Int} {l : List Int} (hs : 2 ≤ sy) (h : vSide sy l = true) : 0 ≤ l.headD 0 ∧ l.headD 0 ≤ sy - 1 := by
  have := (vSide_bd h).2.1
  cases l with
  | nil => simp; omega
  | cons a l => exact this a (by simp)
theorem at_bd {m : Mach} {c : Conf} (hm : vMach m = true) (hc : vConf m c = true) : 0 ≤ c.st * m.sy ∧ 0 ≤ c.ri.headD 0 ∧ c.ri.headD 0 ≤ 5 ∧ c.st * m.sy + c.ri.headD 0 < m.ru.length ∧ (m.ru.length : Int) ≤ 6000 ∧ c.st ≤ 999 ∧ 0 ≤ c.st ∧ (c.le.length : Int) ≤ 200 ∧ (c.ri.length : Int) ≤ 200 := by
  obtain ⟨⟨h1, h2⟩, ⟨h3, h4⟩, h5⟩ := vMach_bd hm
  obtain ⟨⟨h6, h7⟩, h8, h9⟩ := vConf_bd hc
  obtain ⟨h10, h11⟩ := headD_bd h1 h9
  have a1 : c.st * m.sy ≤ (m.st - 1) * m.sy := Int.mul_le_mul_of_nonneg_right h7 (by omega)
  have a2 : (m.st - 1) * m.sy = m.sy * m.st - m.sy := by rw [Int.sub_mul, Int.mul_comm]; omega
  have a3 : m.sy * m.st ≤ 6 * m.st := Int.mul_le_mul_of_nonneg_right h2 (by omega)
  exact ⟨Int.mul_nonneg h6 (by omega), h10, by omega, by omega, by omega, by omega, h6, (vSide_bd h8).1, (vSide_bd h9).1⟩
theorem ruAt_get {m : Mach} {c : Conf} (hm : vMach m = true) (hc : vConf m c = true) : m.ru[(c.st * m.sy + c.ri.headD 0).toNat]? = some (ruAt m c) := by
  have h := at_bd hm hc
  rw [ruAt, List.getD_eq_getElem?_getD, List.getElem?_eq_getElem (by omega)]
  rfl
theorem ruAt_ge {m : Mach} {c : Conf} (hm : vMach m = true) (hc : vConf m c = true) (h : (c.st * m.sy + c.ri.headD 0).toNat < m.ru.length) : m.ru[(c.st * m.sy + c.ri.headD 0).toNat] = ruAt m c :=
  (List.getElem?_eq_some_iff.1 (ruAt_get hm hc)).2
theorem ruAt_ok {m : Mach} {c : Conf} (hm : vMach m = true) (hc : vConf m c = true) (hn : ruAt m c ≠ noR) : (0 ≤ (ruAt m c).w ∧ (ruAt m c).w ≤ m.sy - 1) ∧ ((ruAt m c).m = 1 ∨ (ruAt m c).m = -1) ∧ 0 ≤ (ruAt m c).n ∧ (ruAt m c).n ≤ m.st - 1 := by
  have hg := ruAt_get hm hc
  have := hm
  unfold vMach at this
  rw [Bool.and_eq_true, List.all_eq_true] at this
  have := this.2 _ (List.mem_of_getElem? hg)
  unfold okRule at this
  rw [decide_eq_true_eq] at this
  exact this.resolve_left hn
theorem trimR_id {l : List Int} (h : l.getLastD 1 ≠ 0) : trimR l = l := by
  unfold trimR
  cases hl : l.reverse with
  | nil => rw [List.reverse_eq_nil_iff] at hl; subst hl; rfl
  | cons a r =>
    have : l = r.reverse ++ [a] := by rw [← List.reverse_reverse l, hl, List.reverse_cons]
    subst this
    rw [List.getLastD_concat] at h
    rw [List.dropWhile_cons_of_neg (by simpa using h)]
    simp
theorem trimR_norm (l : List Int) : (trimR l).getLastD 1 ≠ 0 := by
  unfold trimR
  rw [List.getLastD_eq_getLast?, List.getLast?_reverse]
  cases h : l.reverse.dropWhile (· == 0) with
  | nil => decide
  | cons a r =>
    have := List.head?_dropWhile_not (· == (0 : Int)) l.reverse
    rw [h] at this
    simp at this
    simpa using this
theorem trimR_mem {l : List Int} {x : Int} (h : x ∈ trimR l) : x ∈ l := by
  unfold trimR at h
  rw [List.mem_reverse] at h
  exact List.mem_reverse.1 ((List.dropWhile_sublist _).mem h)
theorem trimR_cons {x : Int} {l : List Int} (h : l.getLastD 1 ≠ 0) : trimR (x :: l) = if x = 0 ∧ l = [] then [] else x :: l := by
  split
  · rename_i e
    obtain ⟨rfl, rfl⟩ := e
    decide +kernel
  · rename_i hn
    apply trimR_id
    cases l with
    | nil => simpa using hn
    | cons a l => simpa using h
theorem norm_tail {l : List Int} (h : l.getLastD 1 ≠ 0) : l.tail.getLastD 1 ≠ 0 := by
  cases l with
  | nil => simp
  | cons a l =>
    cases l with
    | nil => simp
    | cons b l => simpa using h
theorem pushL_rev {x : Int} {l : List Int} (h : l.getLastD 1 ≠ 0) : pushL l.reverse x = (trimR (x :: l)).reverse := by
  rw [trimR_cons h]
  unfold pushL
  split
  · rename_i e
    rw [List.reverse_eq_nil_iff] at e
    rw [if_pos e, e.2]
  · rename_i e
    rw [List.reverse_eq_nil_iff] at e
    rw [if_neg e, List.reverse_cons]
theorem getLastD_rev (l : List Int) (d : Int) : l.reverse.getLastD d = l.headD d := by
  rw [List.getLastD_eq_getLast?, List.getLast?_reverse]
  cases l <;> rfl
theorem dropLast_rev (l : List Int) : l.reverse.dropLast = l.tail.reverse := List.dropLast_reverse
theorem stepL_rev {m : Mach} {c : Conf} (hc : vConf m c = true) (u : Rule') : stepL u c.le.reverse c.ri.reverse = (stepS u c).le.reverse := by
  obtain ⟨_, h1, h2⟩ := vConf_bd hc
  unfold stepL stepS
  split
  · exact pushL_rev (vSide_bd h1).2.2
  · exact dropLast_rev _
theorem stepR_rev {m : Mach} {c : Conf} (hc : vConf m c = true) (u : Rule') : stepR u c.le.reverse c.ri.reverse = (stepS u c).ri.reverse := by
  obtain ⟨_, h1, h2⟩ := vConf_bd hc
  unfold stepR stepS
  split
  · exact dropLast_rev _
  · rw [dropLast_rev, pushL_rev (norm_tail (vSide_bd h2).2.2), pushL_rev (trimR_norm _), getLastD_rev]
theorem stepS_n (u : Rule') (c : Conf) : (stepS u c).st = u.n := by unfold stepS; split <;> rfl
theorem stepS_ok {m : Mach} {c : Conf} (hm : vMach m = true) (hc : vConf m c = true) (hn : ruAt m c ≠ noR) (hr : roomS (stepS (ruAt m c) c) = true) : vConf m (stepS (ruAt m c) c) = true := by
  obtain ⟨hw, hmv, hst⟩ := ruAt_ok hm hc hn
  obtain ⟨_, h1, h2⟩ := vConf_bd hc
  have hb := (vMach_bd hm).1
  obtain ⟨a1, a2, a3⟩ := vSide_bd h1
  obtain ⟨b1, b2, b3⟩ := vSide_bd h2
  unfold roomS at hr
  rw [decide_eq_true_eq] at hr
  apply vConf_mk
  rw [stepS_n]
  refine ⟨hst, vSide_mk (by omega) ?_ ?_, vSide_mk (by omega) ?_ ?_⟩
  · unfold stepS
    split
    · intro x hx
      rcases List.mem_cons.1 (trimR_mem hx) with rfl | hx
      · exact hw
      · exact a2 x hx
    · intro x hx
      exact a2 x (List.mem_of_mem_tail hx)
  · unfold stepS
    split
    · exact trimR_norm _
    · exact norm_tail a3
  · unfold stepS
    split
    · intro x hx
      exact b2 x (List.mem_of_mem_tail hx)
    · intro x hx
      rcases List.mem_cons.1 (trimR_mem hx) with rfl | hx
      · exact headD_bd hb.1 h1
      · rcases List.mem_cons.1 (trimR_mem hx) with rfl | hx
        · exact hw
        · exact b2 x (List.mem_of_mem_tail hx)
  · unfold stepS
    split
    · exact norm_tail b3
    · exact trimR_norm _
theorem stepC_ok (m : Mach) (c : Conf) (hm : vMach m = true) (hc : vConf m c = true) : Does Try.prog 98 [.one (.gv 0)] [ruBx m c.st 1 2, roI c.le.reverse, roI c.ri.reverse] (.one (boo (roomS (stepS (ruAt m c) c)))) [ruBx m (stepS (ruAt m c) c).st 3 4, .dead, .dead, roI (stepS (ruAt m c) c).le.reverse, roI (stepS (ruAt m c) c).ri.reverse] := by
  have hb := at_bd hm hc
  have := step_ok m c.st c.le.reverse c.ri.reverse (ruAt m c) (by simp; omega) (by simp; omega) (by omega) (by omega) (by rw [getLastD_rev]; omega) (by rw [getLastD_rev]; omega) (by rw [getLastD_rev]; omega) (by rw [getLastD_rev]; exact ruAt_get hm hc)
  rw [stepL_rev hc, stepR_rev hc, List.length_reverse, List.length_reverse, ← stepS_n (ruAt m c) c] at this
  unfold roomS
  exact this
theorem ruleC_ok (m : Mach) (c : Conf) (hm : vMach m = true) (hc : vConf m c = true) : Does Try.prog 97 [.one (ruD m c.st c.le.reverse c.ri.reverse)] [] (.agg (ruC (ruAt m c))) [] := by
  have hb := at_bd hm hc
  have := rule_ok m c.st c.le.reverse c.ri.reverse (by simp; omega) (by omega) (by omega) (by rw [getLastD_rev]; omega) (by rw [getLastD_rev]; omega) (by rw [getLastD_rev]; omega)
  simp only [getLastD_rev, ruAt_ge hm hc] at this
  exact this
theorem haltsC_ok (m : Mach) (c : Conf) (hm : vMach m = true) (hc : vConf m c = true) : Does Try.prog 96 [.one (ruD m c.st c.le.reverse c.ri.reverse)] [] (.one (boo (decide (ruAt m c = noR)))) [] := by
  have hb := at_bd hm hc
  have := halts_ok m c.st c.le.reverse c.ri.reverse (by simp; omega) (by omega) (by omega) (by rw [getLastD_rev]; omega) (by rw [getLastD_rev]; omega) (by rw [getLastD_rev]; omega)
  simp only [getLastD_rev, ruAt_ge hm hc] at this
  exact this
theorem atC_ok (m : Mach) (c : Conf) (hm : vMach m = true) (hc : vConf m c = true) : Does Try.prog 129 [.one (ruD m c.st c.le.reverse c.ri.reverse)] [] (.one (int (c.st * m.sy + c.ri.headD 0))) [] := by
  have hb := at_bd hm hc
  have := at_ok m c.st c.le.reverse c.ri.reverse (by simp; omega) (by omega) (by omega) (by rw [getLastD_rev]; omega) (by rw [getLastD_rev]; omega)
  simp only [getLastD_rev] at this
  exact this
theorem configC_ok (m : Mach) (c : Conf) (hx : (c.le.length : Int) ≤ 16777216) (hy : (c.ri.length : Int) ≤ 16777216) : Does Try.prog 77 [.one (ruD m c.st c.le.reverse c.ri.reverse)] [] (.agg [int c.st, .gv 0, .gv 1]) [roI c.le, roI c.ri] := by
  have := config_ok m c.st c.le.reverse c.ri.reverse (by simpa using hy) (by simpa using hx)
  rw [List.reverse_reverse, List.reverse_reverse] at this
  exact this
theorem l05HaltsC_ok (m : Mach) (c : Conf) (hm : vMach m = true) (hc : vConf m c = true) : Does Try.prog 87 [.one (maB m), .one (coB c)] [] (.one (boo (decide (ruAt m c = noR)))) [] := by
  have hb := at_bd hm hc
  have := l05Halts_ok m c (by omega) (by omega) (by omega) (by omega) (by omega) (by omega)
  simp only [ruAt_ge hm hc] at this
  exact this
theorem l05AtC_ok (m : Mach) (c : Conf) (hm : vMach m = true) (hc : vConf m c = true) : Does Try.prog 88 [.one (maB m), .one (coB c)] [] (.one (int (c.st * m.sy + c.ri.headD 0))) [] := by
  have hb := at_bd hm hc
  exact l05At_ok m c (by omega) (by omega) (by omega) (by omega) (by omega)
theorem l05StepC_ok (m : Mach) (c : Conf) (hm : vMach m = true) (hc : vConf m c = true) : Does Try.prog 91 [.one (maB m), .one (coB c)] [] (.tup [(true, [int (stepS (ruAt m c) c).st, .gv 0, .gv 1]), (false, [boo (roomS (stepS (ruAt m c) c))])]) [roI (stepS (ruAt m c) c).le, roI (stepS (ruAt m c) c).ri] := by
  have hb := at_bd hm hc
  exact l05Step_ok m c (ruAt m c) (by omega) (by omega) (by omega) (by omega) (by omega) (by omega) (by omega) (ruAt_get hm hc)
end Go.Proofs.Ytncccjpbaeaafaa
end
section
set_option linter.unusedVariables false
set_option linter.unusedSimpArgs false
set_option maxRecDepth 100000
set_option maxHeartbeats 4000000
namespace Go.Proofs.Ytncccjpbaeaafaa
open Go Foot
/-- What a run that is watched comes to. -/
structure Out (σ : Type) where
  x : σ
  n : Int
  c : Conf
  hd : Int
  halts : Bool
  full : Bool
/-- A run that is watched, from a configuration on: fc sees the configurations, fs the steps. -/
def runG {σ : Type} (m : Mach) (fc : Conf → Int → σ → σ) (fs : Conf → Int → Rule' → σ → σ) : Nat → Int → Conf → Int → σ → Out σ
  | k, n, c, hd, x =>
    if ruAt m c = noR then ⟨fc c hd x, n, c, hd, true, false⟩ else
    match k with
    | 0 => ⟨fc c hd x, n, c, hd, false, false⟩
    | k + 1 => if roomS (stepS (ruAt m c) c) then runG m fc fs k (n + 1) (stepS (ruAt m c) c) (hd + (ruAt m c).m) (fs c hd (ruAt m c) (fc c hd x)) else ⟨fs c hd (ruAt m c) (fc c hd x), n, c, hd, false, true⟩
section
variable {σ : Type} {m : Mach} {fc : Conf → Int → σ → σ} {fs : Conf → Int → Rule' → σ → σ} {b n hd : Int} {c : Conf} {x : σ} {O : Out σ}
theorem run_halt {k : Nat} (h : ruAt m c = noR) (hO : runG m fc fs k n c hd x = O) : O = ⟨fc c hd x, n, c, hd, true, false⟩ := by
  rw [← hO]; unfold runG; rw [if_pos h]
theorem run_end (h : ¬ ruAt m c = noR) (hn : n = b) (hO : runG m fc fs (b - n).toNat n c hd x = O) : O = ⟨fc c hd x, n, c, hd, false, false⟩ := by
  subst hn
  rw [← hO, show (n - n).toNat = 0 by omega]; unfold runG; rw [if_neg h]
theorem run_full (h : ¬ ruAt m c = noR) (hn : n < b) (hr : roomS (stepS (ruAt m c) c) = false) (hO : runG m fc fs (b - n).toNat n c hd x = O) : O = ⟨fs c hd (ruAt m c) (fc c hd x), n, c, hd, false, true⟩ := by
  rw [← hO, show (b - n).toNat = (b - (n + 1)).toNat + 1 by omega]; unfold runG; rw [if_neg h]; simp [hr]
theorem run_next (h : ¬ ruAt m c = noR) (hn : n < b) (hr : roomS (stepS (ruAt m c) c) = true) (hO : runG m fc fs (b - n).toNat n c hd x = O) : runG m fc fs (b - (n + 1)).toNat (n + 1) (stepS (ruAt m c) c) (hd + (ruAt m c).m) (fs c hd (ruAt m c) (fc c hd x)) = O := by
  rw [← hO, show (b - n).toNat = (b - (n + 1)).toNat + 1 by omega]; conv => rhs; unfold runG
  rw [if_neg h]; simp [hr]
end
theorem ask_ok {m : Mach} {c : Conf} {b : Int} (h : askC m c b = 0) : vMach m = true ∧ vConf m c = true ∧ 1 ≤ b ∧ b ≤ 20000 := by
  unfold askC at h
  split at h
  · rename_i h1
    split at h
    · rename_i h2; exact ⟨h1.1, h1.2, h2.1, h2.2⟩
    · cases h
  · cases h
end Go.Proofs.Ytncccjpbaeaafaa
end
section
set_option linter.unusedVariables false
set_option linter.unusedSimpArgs false
set_option maxRecDepth 100000
namespace Go.Proofs.Ytncccjpbaeaafaa
open Go Foot
/-- New slices taken as1 slices that nobody writes. -/
def C.frz (H : List GB) : C → C
  | .d x => .d x
  | .gv j => match H[j]? with | some (.row z xs) => .d (.sl false z xs) | _ => .d .junk
  | .gp _ _ => .d .junk
  | .gs _ _ _ _ => .d .junk
  | .ifc t ag cs => .ifc t ag (all cs)
  | .fn k cs => .fn k (all cs)
where
  all : List C → List C
  | [] => []
  | c :: cs => c.frz H :: all cs
def tFrz (H : List GB) : List (Bool × List C) → List (Bool × List C)
  | [] => []
  | (ag, cs) :: l => (ag, C.frz.all H cs) :: tFrz H l
def SV.frz (H : List GB) : SV → SV
  | .one c => .one (c.frz H)
  | .agg cs => .agg (C.frz.all H cs)
  | .tup l => .tup (tFrz H l)
  | .any => .any
def GB.rowNo : GB → Prop
  | .row _ xs => D.noOwn.all xs
  | .dead => True
  | _ => False
def rowsNo : List GB → Prop
  | [] => True
  | gb :: l => gb.rowNo ∧ rowsNo l
theorem rowsNo_get : ∀ {H : List GB} {i : Nat} {gb : GB}, rowsNo H → H[i]? = some gb → gb.rowNo
  | [], i, gb, _, h => by simp at h
  | g0 :: l, 0, gb, h, hi => by simp at hi; subst hi; exact h.1
  | g0 :: l, i + 1, gb, h, hi => rowsNo_get h.2 (by simpa using hi)
section
variable {w : World} {S S' : Foot} {ρ ρ' : Env} {N : Nat} {H : List GB}
/-- What is known of the new slices. -/
structure Frz (w : World) (S S' : Foot) (ρ ρ' : Env) (N : Nat) (H : List GB) : Prop where
  le : Foot.le S S'
  row : ∀ j z xs v, H[j]? = some (.row z xs) → ρ (N + j) = some v → Rep w S' (.sl false z xs) v no
mutual
theorem RepC.frz (hF : Frz w S S' ρ ρ' N H) : ∀ {c : C} {v : Value}, RepC w S ρ (c.ren (calF [] N)) v → RepC w S' ρ' (c.frz H) v
  | .d x, v, h => Rep.keep h Agree.no (Agree.refl _ _) hF.le (le_refl _)
  | .gv j, v, h => by
    have h1 : RepC w S ρ (.gv (N + j)) v := h
    unfold C.frz
    split
    · rename_i z xs e
      exact hF.row j z xs v e h1.1
    · exact h1.2
  | .gp j o, v, h => RepC.one (c := .gp (calF [] N j) o) h
  | .gs j z lo hi, v, h => RepC.one (c := .gs (calF [] N j) z lo hi) h
  | .ifc t ag cs, v, h => by
    simp only [C.ren, RepC] at h
    simp only [C.frz, RepC]
    obtain ⟨u, rfl, h⟩ := h
    refine ⟨u, rfl, ?_⟩
    cases ag with
    | true => simp only [if_true] at h ⊢; obtain ⟨vs, rfl, h⟩ := h; exact ⟨vs, rfl, RepCs.frz hF h⟩
    | false => simp only [Bool.false_eq_true, if_false] at h ⊢; exact RepCs.frz hF h
  | .fn k cs, v, h => by
    simp only [C.ren, RepC] at h
    simp only [C.frz, RepC]
    obtain ⟨vs, rfl, h⟩ := h
    exact ⟨vs, rfl, RepCs.frz hF h⟩
theorem RepCs.frz (hF : Frz w S S' ρ ρ' N H) : ∀ {cs : List C} {vs : List Value}, RepCs w S ρ (C.ren.all (calF [] N) cs) vs → RepCs w S' ρ' (C.frz.all H cs) vs
  | [], vs, h => h
  | c :: cs, vs, h => by
    simp only [C.ren.all, RepCs] at h
    simp only [C.frz.all, RepCs]
    obtain ⟨v, us, rfl, h1, h2⟩ := h
    exact ⟨v, us, rfl, RepC.frz hF h1, RepCs.frz hF h2⟩
end
theorem RepT.frz (hF : Frz w S S' ρ ρ' N H) : ∀ {l : List (Bool × List C)} {vs : List Value}, RepT w S ρ (tRen (calF [] N) l) vs → RepT w S' ρ' (tFrz H l) vs
  | [], vs, h => h
  | (ag, cs) :: l, vs, h => by
    simp only [tRen, RepT] at h
    simp only [tFrz, RepT]
    obtain ⟨v, us, rfl, h1, h2⟩ := h
    refine ⟨v, us, rfl, ?_, RepT.frz hF h2⟩
    unfold RepU at *
    cases ag with
    | true => simp only [if_true] at *; obtain ⟨vs, rfl, h⟩ := h1; exact ⟨vs, rfl, RepCs.frz hF h⟩
    | false => simp only [Bool.false_eq_true, if_false] at *; exact RepCs.frz hF h1
theorem RepS.frz (hF : Frz w S S' ρ ρ' N H) {sv : SV} {v : Value} (h : RepS w S ρ (sv.ren (calF [] N)) v) : RepS w S' ρ' (sv.frz H) v := by
  cases sv with
  | one c => exact RepC.frz hF h
  | agg cs => obtain ⟨vs, rfl, h⟩ := h; exact ⟨vs, rfl, RepCs.frz hF h⟩
  | tup l => obtain ⟨us, rfl, h⟩ := h; exact ⟨us, rfl, RepT.frz hF h⟩
  | any => trivial
end
section
variable {P : Program} {g : Gh} {st : St} {dst : Option Tmp} {ty : TypeId} {pos : String} {after : Array Edge} {guard : Option (Nat × Bool)} {x : Operand}
theorem a_callF {f : Nat} {c0 : C} {cap : List C} {xs : List Operand} {Ts : Array TypeId} {ags : List SV} {H' : List GB} {res : SV} {ld : List Nat}
    (hD : Does P f ags [] res H') (hc : opd st x = .one c0) (hv : fnv c0 = some (.func f, cap)) (hE : entB P f = true)
    (ha : ASLe st.h ld (xs.map (opd st) ++ cap.map .one) ags) (hcl : ∀ f, ags.map (SV.ren f) = ags) (hlt : ltA 0 ags = true) (hp : res.plain) (hpH : plainH H') (hno : rowsNo H') (hltr : res.lt H'.length = true) (hltH' : allG H'.length H' = true) :
    Acts P g ⟨dst, .call { callee := .value x, args := xs.toArray, argTypes := Ts }, ty, pos, after, guard⟩ st (res.frz H') [] [] := by
  refine ⟨fun a w S ρ F h hfr K Q hK => ?_⟩
  obtain ⟨N, hN⟩ := h.fin
  have hA : Acts P g ⟨dst, .call { callee := .value x, args := xs.toArray, argTypes := Ts }, ty, pos, after, guard⟩ st (res.ren (calF [] N)) [] (upOf (calF [] N) 0 H') :=
    a_call (θ := []) (m := N) (ld := ld) hD hc hv hE (by rw [hcl]; exact ha) trivial rfl rfl rfl (List.all_eq_true.2 fun i _ => rfl) (.inr ⟨hp, hpH⟩) hlt rfl hltr hltH' rfl rfl
  have hkey : ∀ i gb, (i, gb) ∈ upOf (calF [] N) 0 H' → N ≤ i := fun i gb hm => by
    obtain ⟨k, gb', q1, q2⟩ := upOf_mem hm
    obtain ⟨e1, _⟩ := Prod.mk.inj q2
    rw [e1]
    show N ≤ N + (0 + k)
    omega
  refine hA.run a w S ρ F h (fun x hx => .inr (hN _ (hkey _ _ hx))) K Q fun v w' S1 ρ' F' hd hv => ?_
  let S2 : Foot := fun b o => S1 b o ∨ ∃ j gb, H'[j]? = some gb ∧ GB.lives gb = true ∧ F' (N + j) b o
  have hmem : ∀ j gb, H'[j]? = some gb → (N + j, gb.ren (calF [] N)) ∈ upOf (calF [] N) 0 H' := fun j gb hj => by
    have key : ∀ (l : List GB) (k j : Nat), l[j]? = some gb → (N + (k + j), gb.ren (calF [] N)) ∈ upOf (calF [] N) k l := by
      intro l
      induction l with
      | nil => intro k j hj; simp at hj
      | cons g0 l ih =>
        intro k j hj
        cases j with
        | zero => simp at hj; subst hj; simp [upOf, calF]
        | succ j =>
          have := ih (k + 1) j (by simpa using hj)
          rw [show k + (j + 1) = k + 1 + j by omega]
          simp [upOf, this]
    have := key H' 0 j hj
    rwa [Nat.zero_add] at this
  have hdone : Done w w' S S2 ρ ρ F F [] [] := by
    refine ⟨fun g hg => by simp at hg, hd.keeps, ?_, ?_, Env.le.refl _, fun i hi _ => hi, fun x hx => by simp at hx, fun x hx => by simp at hx, fun x hx => by simp at hx, fun x hx => by simp at hx, fun x hx => by simp at hx⟩
    · rintro b o (hb | ⟨j, gb, hj, _, hb⟩)
      · exact hd.newS b o hb
      · exact hd.own _ (hmem j gb hj) b o hb
    · rintro b o (hb | ⟨j, gb, hj, _, hb⟩)
      · exact hd.exS b o hb
      · exact hd.ex _ (hmem j gb hj) b o hb
  refine hK v w' S2 ρ F hdone (RepS.frz (S := S.or S1) (ρ := ρ') (N := N) ⟨?_, ?_⟩ hv)
  · rintro b o (hb | hb)
    · exact .inl hb
    · exact .inr (.inl hb)
  · intro j z xs v' hj hv'
    rcases hd.rep _ (hmem j _ hj) with e | ⟨u, e1, e2⟩
    · cases e
    · simp only at e1 e2
      rw [hv'] at e1
      cases e1
      have e3 : Rep w' (S.or S1) (.sl true z xs) v' (F' (N + j)) := e2
      have hno' : D.noOwn.all xs := rowsNo_get hno hj
      refine (sl_freeze e3 hno').keep Agree.no (Agree.refl _ _) ?_ (le_refl _)
      rintro b o (hb | hb)
      · rcases hb with hb | hb
        · exact .inl hb
        · exact .inr (.inl hb)
      · exact .inr (.inr ⟨j, _, hj, rfl, hb⟩)
end
section
variable {g : Gh} {t : List (Nat × SV)} {h : List (Nat × GB)} {n : Nat} {dst : Option Tmp} {ty : TypeId} {pos : String} {after : Array Edge} {guard : Option (Nat × Bool)} {x : Operand} {f : Nat} {c0 : C} {cap : List C} {xs : List Operand} {Ts : Array TypeId} {ags : List SV} {H' : List GB} {res : SV} {sv : SV}
theorem callF (hc : opd ⟨t, h, n⟩ x = .one c0 := by exact rfl) (hv : fnv c0 = some (.func f, cap) := by exact rfl) (hE : entB Try.prog f = true := by exact fQ rfl) (ha : ASLe h (rest n []) (xs.map (opd ⟨t, h, n⟩) ++ cap.map .one) ags := by (repeat (first | exact ASLe.nil | refine ASLe.cons ?_ ?_ | exact SVLe.refl | exact SVLe.any | refine SVLe.one ?_ | refine SVLe.agg ?_ | exact CsLe.nil | refine CsLe.cons ?_ ?_ | exact CLe.refl | exact CLe.sh rfl | exact CLe.nil (by decide) | refine CLe.fn ?_ | refine CLe.fnD ?_ | refine CLe.ifc ?_ | refine CLe.ifcD ?_ | exact CLe.lendA rfl rfl nowR | refine CLe.lendVA rfl rfl ?_ | refine CLe.lendPA rfl rfl rfl ?_)); first | done | fail) (hD : Does Try.prog f ags [] res H')
    (hcl : ∀ f, ags.map (SV.ren f) = ags := by (intro f; exact rfl)) (hlt : ltA 0 ags = true := by exact rfl) (hp : res.plain := by repeat (first | exact trivial | exact plain_rows (fun _ => by repeat (first | exact trivial | refine And.intro ?_ ?_)) | refine And.intro ?_ ?_)) (hpH : plainH H' := by repeat (first | exact trivial | exact plain_rows (fun _ => by repeat (first | exact trivial | refine And.intro ?_ ?_)) | refine And.intro ?_ ?_)) (hno : rowsNo H' := by repeat (first | exact trivial | exact nowR | refine And.intro ?_ ?_))
    (hltr : res.lt H'.length = true := by exact rfl) (hltH' : allG H'.length H' = true := by exact rfl) (hsv : res.frz H' = sv := by exact rfl) :
    Acts Try.prog g ⟨dst, .call { callee := .value x, args := xs.toArray, argTypes := Ts }, ty, pos, after, guard⟩ ⟨t, h, n⟩ sv [] [] :=
  hsv ▸ a_callF (ld := rest n []) hD hc hv hE ha hcl hlt hp hpH hno hltr hltH'
end
section
variable {g : Gh} {t : List (Nat × SV)} {h : List (Nat × GB)} {n : Nat} {rs : List Rs} {fs : List Bool} {u uk : List Nat} {dst : Option Tmp} {ty : TypeId} {pos : String} {after : Array Edge} {guard : Option (Nat × Bool)} {x : Operand} {f : Nat} {c0 : C} {cap : List C} {xs : List Operand} {Ts : Array TypeId} {ags : List SV} {H' : List GB} {res : SV} {sv : SV}
theorem callFD (m : Nat) (hc : opd (visSt ⟨t, h, n⟩ rs fs u uk) x = .one c0 := by exact rfl) (hv : fnv c0 = some (.func f, cap) := by exact rfl) (hE : entB Try.prog f = true := by exact fQ rfl) (ha : ASLe (visSt ⟨t, h, n⟩ rs fs u uk).h (rest (n + m) []) (xs.map (opd (visSt ⟨t, h, n⟩ rs fs u uk)) ++ cap.map .one) ags := by (repeat (first | exact ASLe.nil | refine ASLe.cons ?_ ?_ | exact SVLe.refl | exact SVLe.any | refine SVLe.one ?_ | refine SVLe.agg ?_ | exact CsLe.nil | refine CsLe.cons ?_ ?_ | exact CLe.refl | exact CLe.sh rfl | exact CLe.nil (by decide) | refine CLe.fn ?_ | refine CLe.fnD ?_ | refine CLe.ifc ?_ | refine CLe.ifcD ?_ | exact CLe.lendA rfl rfl nowR | refine CLe.lendVA rfl rfl ?_ | refine CLe.lendPA rfl rfl rfl ?_)); first | done | fail) (hD : Does Try.prog f ags [] res H')
    (hcl : ∀ f, ags.map (SV.ren f) = ags := by (intro f; exact rfl)) (hlt : ltA 0 ags = true := by exact rfl) (hp : res.plain := by repeat (first | exact trivial | exact plain_rows (fun _ => by repeat (first | exact trivial | refine And.intro ?_ ?_)) | refine And.intro ?_ ?_)) (hpH : plainH H' := by repeat (first | exact trivial | exact plain_rows (fun _ => by repeat (first | exact trivial | refine And.intro ?_ ?_)) | refine And.intro ?_ ?_)) (hno : rowsNo H' := by repeat (first | exact trivial | exact nowR | refine And.intro ?_ ?_))
    (hltr : res.lt H'.length = true := by exact rfl) (hltH' : allG H'.length H' = true := by exact rfl) (hsv : res.frz H' = sv := by exact rfl) :
    Acts Try.prog g ⟨dst, .call { callee := .value x, args := xs.toArray, argTypes := Ts }, ty, pos, after, guard⟩ (visSt ⟨t, h, n⟩ rs fs u uk) sv [] [] :=
  hsv ▸ a_callF (ld := rest (n + m) []) hD hc hv hE ha hcl hlt hp hpH hno hltr hltH'
end
end Go.Proofs.Ytncccjpbaeaafaa
end
section
set_option linter.unusedVariables false
set_option linter.unusedSimpArgs false
set_option maxRecDepth 100000
set_option maxHeartbeats 4000000
namespace Go.Proofs.Ytncccjpbaeaafaa
open Go Foot
abbrev eW : Enc (List Int) := ⟨1, fun l => [.sl false 1 (rows eI l)], fun _ => rfl, by decide⟩
abbrev eWo : Enc (Option (List Int)) := ⟨1, fun o => [match o with | none => .sc (.slice none 0 0) | some l => .sl false 1 (rows eI l)], fun _ => rfl, by decide⟩
theorem rows_wo (l : List (List Int)) : rows eWo (l.map some) = rows eW l := by
  induction l with
  | nil => rfl
  | cons a l ih => simp only [List.map_cons, rows] at *; simp_all
abbrev shW (l : List (List Int)) : C := .d (.sl false 1 (rows eW l))
abbrev roW (l : List (List Int)) : GB := .row 1 (rows eW l)
theorem mem_len {α : Type} {xs : List (List α)} {n : Int} (h : ∀ x ∈ xs, (x.length : Int) ≤ n) {i : Nat} (hi : i < xs.length) : ((xs[i]).length : Int) ≤ n := h _ (List.getElem_mem hi)
/-- What is left behind lists of lists. -/
@[irreducible] def szW : List (List Int) → Int → Int
  | [], l => l
  | x :: xs, l => if szL x.length l < 0 then -1 else szW xs (szL x.length l)
theorem szW_step {xs : List (List Int)} {i l : Int} (h0 : 0 ≤ i) (h : i.toNat < xs.length) : szW (xs.drop i.toNat) l = if szL (xs[i.toNat]).length l < 0 then -1 else szW (xs.drop (i + 1).toNat) (szL (xs[i.toNat]).length l) := by
  rw [List.drop_eq_getElem_cons h, show (i + 1).toNat = i.toNat + 1 by omega]
  conv => lhs; unfold szW
@[irreducible] def szWW (xs : List (List Int)) (left : Int) : Int := if left - xs.length < 0 then -1 else szW xs (left - xs.length)
theorem preA3 {p : Prop} (h : p := by first | with_reducible assumption | omega | (simp only [List.length_append, List.length_cons, List.length_nil, List.length_set, List.length_replicate, List.length_take, List.length_drop, List.length_tail, List.length_dropLast, List.length_reverse] at *; omega) | exact mem_len (by assumption) (by omega) | trivial) : p := h
theorem szInt64SS_ok (xs : List (List Int)) (left : Int) (h1 : left ≤ 1048576) (h2 : 0 ≤ left) (hx : (xs.length : Int) ≤ 9223372036854775807) (hxs : ∀ x ∈ xs, (x.length : Int) ≤ 9223372036854775807) : Does Try.prog 65 [.one (shW xs), .one (int left)] [] (.one (int (szWW xs left))) [] := by
  refine does_of (k := 0) Try.func65 rfl Try.ntmps65 rfl rfl fun w F0 S0 ρ0 => ?_
  dsimp only [argT, argH]
  repeat' first
    | refine g_seq ?_
    | refine g_skip ?_
    | refine g_exit ?_
    | refine g_block ?_
    | refine g_reg ?_
    | refine g_if_t rfl ?_
    | refine g_if_f rfl ?_
    | refine o_nil ?_
    | refine q_s ?_
    | refine q_se ?_
    | refine q_b ?_
    | refine q_be rfl ?_
    | refine q_bn rfl ?_
    | refine q_le ?_
    | refine q_ce ?_
    | (apply p3; (first | exact pu1 | exact puL | exact puN | exact a_len_str rfl (fT rfl) | exact a_sub rfl rfl (by omega) (by omega) | exact puC | exact a_add rfl rfl (by omega) (by omega) | exact puI); exact rfl)
    | (apply c4 0; exact callK1 (θ := []) (hD := (szInt64S_ok _ _ preA3 preA3 preA3)); exact rfl; exact rfl; exact rfl; (try dsimp only [SV.ren, C.ren, C.ren.all, tRen, GB.ren, calF, upOf, List.cons_append, List.nil_append, Nat.reduceAdd]))
    | (refine o_gs rfl rfl (fun hc => ?_) (fun hc => ?_) <;> (try simp only [decide_eq_true_eq, decide_eq_false_iff_not, Bool.not_eq_true', Bool.not_eq_false', Bool.not_eq_true, Bool.not_eq_false, Bool.and_eq_true, Bool.or_eq_false_iff, Bool.not_not] at hc) <;> (try (first | contradiction | (exfalso; omega))))
    | (refine g_cond rfl (fun hc => ?_) (fun hc => ?_) <;> (try simp only [decide_eq_true_eq, decide_eq_false_iff_not, Bool.not_eq_true', Bool.not_eq_false', Bool.not_eq_true, Bool.not_eq_false, Bool.and_eq_true, Bool.or_eq_false_iff, Bool.not_not] at hc) <;> (try (first | contradiction | (exfalso; omega))))
  · repeat (first | refine g_ret ?_ | refine q_sr ?_ | refine q_br ?_ | refine q_lr ?_ | refine q_cr ?_)
    refine ends_id ?_
    refine endK [] (h2 := ?_) (h3 := ?_) (nd := ?_)
    all_goals (repeat' first | with_reducible exact SVLe.refl | exact SVLe.any | exact SVLe.one (.sh rfl) | exact SVLe.one (.nil (by decide)) | refine SVLe.agg ?_ | refine SVLe.tup ?_ | exact TLe.nil | refine TLe.cons ?_ ?_ | exact CsLe.nil | refine CsLe.cons ?_ ?_ | exact CLe.refl | exact CLe.sh rfl | exact CLe.nil (by decide) | refine cle_i ?_ | refine cle_b ?_ | exact trivial | refine And.intro ?_ ?_ | exact Or.inl rfl | exact Or.inr rfl | refine Or.inr (row_eq ?_) | (refine Or.inr (bx_eq rfl rfl ?_); (try dsimp only [C.ren, C.ren.all]); (try exact rfl)) | exact SVLe.refl | refine sle_i ?_ | refine sle_b ?_)
    all_goals first | exact (show nodupB _ = true from rfl) | exact Or.inr rfl | ((unfold szWW; simp [*]))
  · have e0 : szWW xs left = szW xs (left - xs.length) := by unfold szWW; rw [if_neg hc]
    refine g_loop_id ?_
    refine loopK [0, 4] [] (fun y : Int × Int => 0 ≤ y.1 ∧ y.1 ≤ xs.length ∧ 0 ≤ y.2 ∧ y.2 ≤ 1048576 ∧ szW (xs.drop y.1.toNat) y.2 = szWW xs left) (fun y => [(5, .one (int y.1)), (1, .one (int y.2))]) (fun _ => []) (fun y => (xs.length - y.1).toNat) ((0 : Int), left - xs.length) [] (hI := ?_) (hr := ?_)
    · exact ⟨by simp, by simp, by dsimp only; omega, by dsimp only; omega, by rw [e0]; rfl⟩
    · rintro ⟨i, l⟩ ⟨k1, k2, k3, k4, k5⟩
      dsimp only [List.cons_append, List.nil_append] at *
      skip
      repeat' first
        | refine g_seq ?_
        | refine g_skip ?_
        | refine g_exit ?_
        | refine g_block ?_
        | refine g_reg ?_
        | refine g_if_t rfl ?_
        | refine g_if_f rfl ?_
        | refine o_nil ?_
        | refine q_s ?_
        | refine q_se ?_
        | refine q_b ?_
        | refine q_be rfl ?_
        | refine q_bn rfl ?_
        | refine q_le ?_
        | refine q_ce ?_
        | (apply p3; (first | exact pu1 | exact puL | exact puN | exact a_len_str rfl (fT rfl) | exact puC | exact a_add rfl rfl (by omega) (by omega) | exact puI); exact rfl)
        | (apply c4 0; exact callK1 (θ := []) (hD := (szInt64S_ok _ _ preA3 preA3 preA3)); exact rfl; exact rfl; exact rfl; (try dsimp only [SV.ren, C.ren, C.ren.all, tRen, GB.ren, calF, upOf, List.cons_append, List.nil_append, Nat.reduceAdd]))
        | (refine o_gs rfl rfl (fun hc => ?_) (fun hc => ?_) <;> (try simp only [decide_eq_true_eq, decide_eq_false_iff_not, Bool.not_eq_true', Bool.not_eq_false', Bool.not_eq_true, Bool.not_eq_false, Bool.and_eq_true, Bool.or_eq_false_iff, Bool.not_not] at hc) <;> (try (first | contradiction | (exfalso; omega))))
        | (refine g_cond rfl (fun hc => ?_) (fun hc => ?_) <;> (try simp only [decide_eq_true_eq, decide_eq_false_iff_not, Bool.not_eq_true', Bool.not_eq_false', Bool.not_eq_true, Bool.not_eq_false, Bool.and_eq_true, Bool.or_eq_false_iff, Bool.not_not] at hc) <;> (try (first | contradiction | (exfalso; omega))))
      · rw [szW_step k1 (by omega), if_pos hc] at k5
        repeat (first | refine g_ret ?_ | refine q_sr ?_ | refine q_br ?_ | refine q_lr ?_ | refine q_cr ?_)
        refine ends_id ?_
        refine endK [] (h2 := ?_) (h3 := ?_) (nd := ?_)
        all_goals (repeat' first | with_reducible exact SVLe.refl | exact SVLe.any | exact SVLe.one (.sh rfl) | exact SVLe.one (.nil (by decide)) | refine SVLe.agg ?_ | refine SVLe.tup ?_ | exact TLe.nil | refine TLe.cons ?_ ?_ | exact CsLe.nil | refine CsLe.cons ?_ ?_ | exact CLe.refl | exact CLe.sh rfl | exact CLe.nil (by decide) | refine cle_i ?_ | refine cle_b ?_ | exact trivial | refine And.intro ?_ ?_ | exact Or.inl rfl | exact Or.inr rfl | refine Or.inr (row_eq ?_) | (refine Or.inr (bx_eq rfl rfl ?_); (try dsimp only [C.ren, C.ren.all]); (try exact rfl)) | exact SVLe.refl | refine sle_i ?_ | refine sle_b ?_)
        all_goals first | exact (show nodupB _ = true from rfl) | exact Or.inr rfl | (exact k5)
      · rw [szW_step k1 (by omega), if_neg hc] at k5
        have := szL_le (n := (xs[i.toNat]'(by omega)).length) k4
        refine q_again (i + 1, _) [] (by exact stk) ?_ ?_
        · exact ⟨by dsimp only; omega, by dsimp only; omega, by dsimp only; omega, by dsimp only; omega, k5⟩
        · dsimp only; omega
      · rw [List.drop_eq_nil_of_le (by omega)] at k5
        unfold szW at k5
        repeat (first | refine g_ret ?_ | refine q_sr ?_ | refine q_br ?_ | refine q_lr ?_ | refine q_cr ?_)
        refine ends_id ?_
        refine endK [] (h2 := ?_) (h3 := ?_) (nd := ?_)
        all_goals (repeat' first | with_reducible exact SVLe.refl | exact SVLe.any | exact SVLe.one (.sh rfl) | exact SVLe.one (.nil (by decide)) | refine SVLe.agg ?_ | refine SVLe.tup ?_ | exact TLe.nil | refine TLe.cons ?_ ?_ | exact CsLe.nil | refine CsLe.cons ?_ ?_ | exact CLe.refl | exact CLe.sh rfl | exact CLe.nil (by decide) | refine cle_i ?_ | refine cle_b ?_ | exact trivial | refine And.intro ?_ ?_ | exact Or.inl rfl | exact Or.inr rfl | refine Or.inr (row_eq ?_) | (refine Or.inr (bx_eq rfl rfl ?_); (try dsimp only [C.ren, C.ren.all]); (try exact rfl)) | exact SVLe.refl | refine sle_i ?_ | refine sle_b ?_)
        all_goals first | exact (show nodupB _ = true from rfl) | exact Or.inr rfl | (exact k5)
theorem toInt64SS_ok (xs : List (List Int)) (hx : (xs.length : Int) ≤ 1048576) (hxs : ∀ x ∈ xs, (x.length : Int) ≤ 1048576) : Does Try.prog 71 [.one (shW xs)] [] (.one (.gv 0)) [roW xs] := by
  refine does_of (k := 0) Try.func71 rfl Try.ntmps71 rfl rfl fun w F0 S0 ρ0 => ?_
  dsimp only [argT, argH]
  repeat' first
    | refine g_seq ?_
    | refine g_skip ?_
    | refine g_exit ?_
    | refine g_block ?_
    | refine g_reg ?_
    | refine g_if_t rfl ?_
    | refine g_if_f rfl ?_
    | refine o_nil ?_
    | refine q_s ?_
    | refine q_se ?_
    | refine q_b ?_
    | refine q_be rfl ?_
    | refine q_bn rfl ?_
    | refine q_le ?_
    | refine q_ce ?_
    | (apply n3; exact a_make (fE rfl) (fZ rfl) (fP rfl) (by decide) rfl rfl (by omega) rfl (by omega) (by omega) (rows_rep eWo none _); exact rfl; (try dsimp only [List.map_cons, List.map_nil, scC, Nat.reduceAdd]))
    | (apply p3; (first | exact pu1 | exact puL | exact puN | exact a_len_str rfl (fT rfl) | exact puC | exact a_add rfl rfl (by omega) (by omega) | exact puI); exact rfl)
    | (apply w3; (first | exact a_st_bx rfl rfl rfl rfl (fN rfl rfl) (Nat.le_of_ble_eq_true rfl) rfl | exact a_stE (E := eWo) (some _) rfl rfl rfl rfl (fN rfl rfl) bnd (by exact rfl)); exact rfl; (try dsimp only [setRow, List.map_cons, List.map_nil, scC, List.set_cons_zero, List.set_cons_succ, List.take_succ_cons, List.take_zero, List.drop_succ_cons, List.drop_zero, Nat.reduceAdd]))
    | (apply c4 0; exact callF (hD := (toInt64S_ok _ preA3)); exact rfl; exact rfl; exact rfl; (try dsimp only [SV.ren, C.ren, C.ren.all, tRen, GB.ren, calF, upOf, List.cons_append, List.nil_append, Nat.reduceAdd]))
    | (refine o_gs rfl rfl (fun hc => ?_) (fun hc => ?_) <;> (try simp only [decide_eq_true_eq, decide_eq_false_iff_not, Bool.not_eq_true', Bool.not_eq_false', Bool.not_eq_true, Bool.not_eq_false, Bool.and_eq_true, Bool.or_eq_false_iff, Bool.not_not] at hc) <;> (try (first | contradiction | (exfalso; omega))))
    | (refine g_cond rfl (fun hc => ?_) (fun hc => ?_) <;> (try simp only [decide_eq_true_eq, decide_eq_false_iff_not, Bool.not_eq_true', Bool.not_eq_false', Bool.not_eq_true, Bool.not_eq_false, Bool.and_eq_true, Bool.or_eq_false_iff, Bool.not_not] at hc) <;> (try (first | contradiction | (exfalso; omega))))
  refine g_loop_id ?_
  refine loopK [0, 2, 3] [0] (fun x : Int × List (Option (List Int)) => 0 ≤ x.1 ∧ x.1 ≤ xs.length ∧ x.2.length = xs.length ∧ ∀ k (h : k < xs.length), k < x.1 → x.2[k]? = some (some xs[k])) (fun x => [(4, .one (int x.1))]) (fun x => [(0, .row 1 (rows eWo x.2))]) (fun x => (xs.length - x.1).toNat) ((0 : Int), List.replicate xs.length (none : Option (List Int))) [0] (hI := ?_) (hr := ?_)
  · exact ⟨by simp, by simp, by simp, by intro k h h'; simp at h'; omega⟩
  · rintro ⟨i, l⟩ ⟨h0, h1, h2, h3⟩
    dsimp only [List.cons_append, List.nil_append] at *
    skip
    repeat' first
      | refine g_seq ?_
      | refine g_skip ?_
      | refine g_exit ?_
      | refine g_block ?_
      | refine g_reg ?_
      | refine g_if_t rfl ?_
      | refine g_if_f rfl ?_
      | refine o_nil ?_
      | refine q_s ?_
      | refine q_se ?_
      | refine q_b ?_
      | refine q_be rfl ?_
      | refine q_bn rfl ?_
      | refine q_le ?_
      | refine q_ce ?_
      | (apply p3; (first | exact pu1 | exact puL | exact puN | exact a_len_str rfl (fT rfl) | exact puC | exact a_add rfl rfl (by omega) (by omega) | exact puI); exact rfl)
      | (apply w3; (first | exact a_st_bx rfl rfl rfl rfl (fN rfl rfl) (Nat.le_of_ble_eq_true rfl) rfl | exact a_stE (E := eWo) (some _) rfl rfl rfl rfl (fN rfl rfl) bnd (by exact rfl)); exact rfl; (try dsimp only [setRow, List.map_cons, List.map_nil, scC, List.set_cons_zero, List.set_cons_succ, List.take_succ_cons, List.take_zero, List.drop_succ_cons, List.drop_zero, Nat.reduceAdd]))
      | (apply c4 0; exact callF (hD := (toInt64S_ok _ preA3)); exact rfl; exact rfl; exact rfl; (try dsimp only [SV.ren, C.ren, C.ren.all, tRen, GB.ren, calF, upOf, List.cons_append, List.nil_append, Nat.reduceAdd]))
      | (refine o_gs rfl rfl (fun hc => ?_) (fun hc => ?_) <;> (try simp only [decide_eq_true_eq, decide_eq_false_iff_not, Bool.not_eq_true', Bool.not_eq_false', Bool.not_eq_true, Bool.not_eq_false, Bool.and_eq_true, Bool.or_eq_false_iff, Bool.not_not] at hc) <;> (try (first | contradiction | (exfalso; omega))))
      | (refine g_cond rfl (fun hc => ?_) (fun hc => ?_) <;> (try simp only [decide_eq_true_eq, decide_eq_false_iff_not, Bool.not_eq_true', Bool.not_eq_false', Bool.not_eq_true, Bool.not_eq_false, Bool.and_eq_true, Bool.or_eq_false_iff, Bool.not_not] at hc) <;> (try (first | contradiction | (exfalso; omega))))
    · refine q_again (i + 1, l.set i.toNat (some (xs[i.toNat]'(by omega)))) [0] (by exact stk) ?_ ?_
      · refine ⟨by dsimp only; omega, by dsimp only; omega, by simp [h2], fun k h h' => ?_⟩
        dsimp only at h' ⊢
        rw [List.getElem?_set]
        split
        · rename_i e
          subst e
          rw [if_pos (by omega)]
        · exact h3 k h (by omega)
      · dsimp only; omega
    · have hl : l = xs.map some := by
        apply List.ext_getElem?
        intro k
        by_cases hk : k < xs.length
        · rw [h3 k hk (by omega), List.getElem?_map, List.getElem?_eq_getElem hk]; rfl
        · rw [List.getElem?_eq_none (by omega), List.getElem?_eq_none (by rw [List.length_map]; omega)]
      subst hl
      rw [rows_wo]
      repeat (first | refine g_ret ?_ | refine q_sr ?_ | refine q_br ?_ | refine q_lr ?_ | refine q_cr ?_)
      refine ends_id ?_
      refine endK [?_] (h2 := ?_) (h3 := ?_) (nd := ?_)
      rotate_left 1
      all_goals (repeat' first | with_reducible exact SVLe.refl | exact SVLe.any | exact SVLe.one (.sh rfl) | exact SVLe.one (.nil (by decide)) | refine SVLe.agg ?_ | refine SVLe.tup ?_ | exact TLe.nil | refine TLe.cons ?_ ?_ | exact CsLe.nil | refine CsLe.cons ?_ ?_ | exact CLe.refl | exact CLe.sh rfl | exact CLe.nil (by decide) | refine cle_i ?_ | refine cle_b ?_ | exact trivial | refine And.intro ?_ ?_ | exact Or.inl rfl | exact Or.inr rfl | refine Or.inr (row_eq ?_) | (refine Or.inr (bx_eq rfl rfl ?_); (try dsimp only [C.ren, C.ren.all]); (try exact rfl)) | exact SVLe.refl | refine sle_i ?_ | refine sle_b ?_)
      all_goals first | exact (show nodupB _ = true from rfl) | exact Or.inr rfl | (rfl)
@[irreducible] def eqWs (a b : List (List Int)) : Bool := decide (a = b)
theorem eqInt64SS_ok (xs ys : List (List Int)) (hx : (xs.length : Int) ≤ 1048576) (hy : (ys.length : Int) ≤ 1048576) (hxs : ∀ x ∈ xs, (x.length : Int) ≤ 1048576) (hys : ∀ x ∈ ys, (x.length : Int) ≤ 1048576) : Does Try.prog 79 [.one (shW xs), .one (shW ys)] [] (.one (boo (eqWs xs ys))) [] := by
  refine does_of (k := 0) Try.func79 rfl Try.ntmps79 rfl rfl fun w F0 S0 ρ0 => ?_
  dsimp only [argT, argH]
  repeat' first
    | refine g_seq ?_
    | refine g_skip ?_
    | refine g_exit ?_
    | refine g_block ?_
    | refine g_reg ?_
    | refine g_if_t rfl ?_
    | refine g_if_f rfl ?_
    | refine o_nil ?_
    | refine q_s ?_
    | refine q_se ?_
    | refine q_b ?_
    | refine q_be rfl ?_
    | refine q_bn rfl ?_
    | refine q_le ?_
    | refine q_ce ?_
    | (apply p3; (first | exact pu1 | exact puN | exact a_len_str rfl (fT rfl) | exact a_ne rfl rfl | exact a_neS rfl rfl rfl | exact puC | exact a_add rfl rfl (by omega) (by omega)); exact rfl)
    | (apply g_drN (id := 6) okM [[], [], [0, 1], [0, 1, 2], [], [], [4, 5], [4, 5, 6], [0, 1, 2, 3, 4, 5, 6, 7], [0, 1, 2, 3, 4, 5, 6, 7, 8]] [([], []), ([], []), ([], []), ([], []), ([], []), ([], []), ([], []), ([], []), ([], []), ([], [])] 0; (focus (all_goals refine dp 0 0 [18, 21, 22, 23, 24] [] pu1 ?_; all_goals refine dp 1 0 [17, 21, 22, 23, 24] [] pu1 ?_; all_goals refine dp 2 3 [21, 22, 23, 24] [] puI ?_; all_goals refine dp 3 7 [21, 22, 23, 24] [] puL ?_; all_goals refine dp 4 0 [17, 18, 19, 20, 22] [] pu1 ?_; all_goals refine dp 5 0 [17, 18, 19, 20, 21] [] pu1 ?_; all_goals refine dp 6 3 [17, 18, 19, 20] [] puI ?_; all_goals refine dp 7 7 [17, 18, 19, 20] [] puL ?_; all_goals refine dp 8 255 [] [] (callD1 (n := _) 0 (θ := []) (hD := (eqInt64S_ok _ _ preA3 preA3))) ?_; all_goals refine dp 9 511 [] [] (a_pure (sv := .one _) rfl) ?_; all_goals (refine d_nil ?_; dsimp only [selT, selH, trues, SV.ren, C.ren, C.ren.all, tRen, GB.ren, calF, upOf, List.cons_append, List.nil_append, Nat.reduceAdd, setRow, List.map_cons, List.map_nil, scC, List.set_cons_zero, List.set_cons_succ, List.take_succ_cons, List.take_zero, List.drop_succ_cons, List.drop_zero]))); any_goals kernel_rfl)
    | (refine o_gs rfl rfl (fun hc => ?_) (fun hc => ?_) <;> (try simp only [decide_eq_true_eq, decide_eq_false_iff_not, Bool.not_eq_true', Bool.not_eq_false', Bool.not_eq_true, Bool.not_eq_false, Bool.and_eq_true, Bool.or_eq_false_iff, Bool.not_not] at hc) <;> (try (first | contradiction | (exfalso; omega))))
    | (refine g_cond rfl (fun hc => ?_) (fun hc => ?_) <;> (try simp only [decide_eq_true_eq, decide_eq_false_iff_not, Bool.not_eq_true', Bool.not_eq_false', Bool.not_eq_true, Bool.not_eq_false, Bool.and_eq_true, Bool.or_eq_false_iff, Bool.not_not] at hc) <;> (try (first | contradiction | (exfalso; omega))))
  · repeat (first | refine g_ret ?_ | refine q_sr ?_ | refine q_br ?_ | refine q_lr ?_ | refine q_cr ?_)
    refine ends_id ?_
    refine endK [] (h2 := ?_) (h3 := ?_) (nd := ?_)
    all_goals (repeat' first | with_reducible exact SVLe.refl | exact SVLe.any | exact SVLe.one (.sh rfl) | exact SVLe.one (.nil (by decide)) | refine SVLe.agg ?_ | refine SVLe.tup ?_ | exact TLe.nil | refine TLe.cons ?_ ?_ | exact CsLe.nil | refine CsLe.cons ?_ ?_ | exact CLe.refl | exact CLe.sh rfl | exact CLe.nil (by decide) | refine cle_i ?_ | refine cle_b ?_ | exact trivial | refine And.intro ?_ ?_ | exact Or.inl rfl | exact Or.inr rfl | refine Or.inr (row_eq ?_) | (refine Or.inr (bx_eq rfl rfl ?_); (try dsimp only [C.ren, C.ren.all]); (try exact rfl)) | exact SVLe.refl | refine sle_i ?_ | refine sle_b ?_)
    all_goals first | exact (show nodupB _ = true from rfl) | exact Or.inr rfl | ((symm; unfold eqWs; rw [decide_eq_false_iff_not]; rintro rfl; omega))
  refine g_loop_id ?_
  refine loopK [0, 1, 4] [] (fun i : Int => 0 ≤ i ∧ i ≤ xs.length ∧ xs.take i.toNat = ys.take i.toNat) (fun i => [(5, .one (int i))]) (fun _ => []) (fun i => (xs.length - i).toNat) (0 : Int) [] (hI := ?_) (hr := ?_)
  · exact ⟨by simp, by simp, by simp⟩
  · rintro i ⟨h0, h1, h2⟩
    dsimp only [List.cons_append, List.nil_append] at *
    skip
    repeat' first
      | refine g_seq ?_
      | refine g_skip ?_
      | refine g_exit ?_
      | refine g_block ?_
      | refine g_reg ?_
      | refine g_if_t rfl ?_
      | refine g_if_f rfl ?_
      | refine o_nil ?_
      | refine q_s ?_
      | refine q_se ?_
      | refine q_b ?_
      | refine q_be rfl ?_
      | refine q_bn rfl ?_
      | refine q_le ?_
      | refine q_ce ?_
      | (apply p3; (first | exact pu1 | exact puN | exact a_len_str rfl (fT rfl) | exact puC | exact a_add rfl rfl (by omega) (by omega)); exact rfl)
      | (apply g_drN (id := 6) okM [[], [], [0, 1], [0, 1, 2], [], [], [4, 5], [4, 5, 6], [0, 1, 2, 3, 4, 5, 6, 7], [0, 1, 2, 3, 4, 5, 6, 7, 8]] [([], []), ([], []), ([], []), ([], []), ([], []), ([], []), ([], []), ([], []), ([], []), ([], [])] 0; (focus (all_goals refine dp 0 0 [18, 21, 22, 23, 24] [] pu1 ?_; all_goals refine dp 1 0 [17, 21, 22, 23, 24] [] pu1 ?_; all_goals refine dp 2 3 [21, 22, 23, 24] [] puI ?_; all_goals refine dp 3 7 [21, 22, 23, 24] [] puL ?_; all_goals refine dp 4 0 [17, 18, 19, 20, 22] [] pu1 ?_; all_goals refine dp 5 0 [17, 18, 19, 20, 21] [] pu1 ?_; all_goals refine dp 6 3 [17, 18, 19, 20] [] puI ?_; all_goals refine dp 7 7 [17, 18, 19, 20] [] puL ?_; all_goals refine dp 8 255 [] [] (callD1 (n := _) 0 (θ := []) (hD := (eqInt64S_ok _ _ preA3 preA3))) ?_; all_goals refine dp 9 511 [] [] (a_pure (sv := .one _) rfl) ?_; all_goals (refine d_nil ?_; dsimp only [selT, selH, trues, SV.ren, C.ren, C.ren.all, tRen, GB.ren, calF, upOf, List.cons_append, List.nil_append, Nat.reduceAdd, setRow, List.map_cons, List.map_nil, scC, List.set_cons_zero, List.set_cons_succ, List.take_succ_cons, List.take_zero, List.drop_succ_cons, List.drop_zero]))); any_goals kernel_rfl)
      | (refine o_gs rfl rfl (fun hc => ?_) (fun hc => ?_) <;> (try simp only [decide_eq_true_eq, decide_eq_false_iff_not, Bool.not_eq_true', Bool.not_eq_false', Bool.not_eq_true, Bool.not_eq_false, Bool.and_eq_true, Bool.or_eq_false_iff, Bool.not_not] at hc) <;> (try (first | contradiction | (exfalso; omega))))
      | (refine g_cond rfl (fun hc => ?_) (fun hc => ?_) <;> (try simp only [decide_eq_true_eq, decide_eq_false_iff_not, Bool.not_eq_true', Bool.not_eq_false', Bool.not_eq_true, Bool.not_eq_false, Bool.and_eq_true, Bool.or_eq_false_iff, Bool.not_not] at hc) <;> (try (first | contradiction | (exfalso; omega))))
    · repeat (first | refine g_ret ?_ | refine q_sr ?_ | refine q_br ?_ | refine q_lr ?_ | refine q_cr ?_)
      refine ends_id ?_
      refine endK [] (h2 := ?_) (h3 := ?_) (nd := ?_)
      all_goals (repeat' first | with_reducible exact SVLe.refl | exact SVLe.any | exact SVLe.one (.sh rfl) | exact SVLe.one (.nil (by decide)) | refine SVLe.agg ?_ | refine SVLe.tup ?_ | exact TLe.nil | refine TLe.cons ?_ ?_ | exact CsLe.nil | refine CsLe.cons ?_ ?_ | exact CLe.refl | exact CLe.sh rfl | exact CLe.nil (by decide) | refine cle_i ?_ | refine cle_b ?_ | exact trivial | refine And.intro ?_ ?_ | exact Or.inl rfl | exact Or.inr rfl | refine Or.inr (row_eq ?_) | (refine Or.inr (bx_eq rfl rfl ?_); (try dsimp only [C.ren, C.ren.all]); (try exact rfl)) | exact SVLe.refl | refine sle_i ?_ | refine sle_b ?_)
      all_goals first | exact (show nodupB _ = true from rfl) | exact Or.inr rfl | ((symm; unfold eqWs; rw [decide_eq_false_iff_not]; rintro rfl; unfold eqI at *; simp_all))
    · refine q_again (i + 1) [] (by exact stk) ?_ ?_
      · exact ⟨by omega, by omega, take_next h0 (by omega) (by omega) h2 (by unfold eqI at *; simp_all)⟩
      · omega
    · have hl := take_end (by omega) (by omega) h2
      repeat (first | refine g_ret ?_ | refine q_sr ?_ | refine q_br ?_ | refine q_lr ?_ | refine q_cr ?_)
      refine ends_id ?_
      refine endK [] (h2 := ?_) (h3 := ?_) (nd := ?_)
      all_goals (repeat' first | with_reducible exact SVLe.refl | exact SVLe.any | exact SVLe.one (.sh rfl) | exact SVLe.one (.nil (by decide)) | refine SVLe.agg ?_ | refine SVLe.tup ?_ | exact TLe.nil | refine TLe.cons ?_ ?_ | exact CsLe.nil | refine CsLe.cons ?_ ?_ | exact CLe.refl | exact CLe.sh rfl | exact CLe.nil (by decide) | refine cle_i ?_ | refine cle_b ?_ | exact trivial | refine And.intro ?_ ?_ | exact Or.inl rfl | exact Or.inr rfl | refine Or.inr (row_eq ?_) | (refine Or.inr (bx_eq rfl rfl ?_); (try dsimp only [C.ren, C.ren.all]); (try exact rfl)) | exact SVLe.refl | refine sle_i ?_ | refine sle_b ?_)
      all_goals first | exact (show nodupB _ = true from rfl) | exact Or.inr rfl | ((symm; unfold eqWs; rw [decide_eq_true_eq]; exact hl))
end Go.Proofs.Ytncccjpbaeaafaa
end
section
set_option linter.unusedVariables false
set_option linter.unusedSimpArgs false
set_option maxRecDepth 100000
set_option maxHeartbeats 4000000
namespace Go.Proofs.Ytncccjpbaeaafaa
open Go Foot
/-- A proof: its kind, its numbers, its words. -/
structure Prf where
  k : Int
  nu : List Int
  wo : List (List Int)
abbrev prC (p : Prf) : List C := [int p.k, shI p.nu, shW p.wo]
abbrev prB (p : Prf) : C := .d (.bx false [.sc (.int .i64 p.k), .sl false 1 (rows eI p.nu), .sl false 1 (rows eW p.wo)])
@[irreducible] def szP (p : Prf) (left : Int) : Int := if szL p.nu.length left < 0 then -1 else szWW p.wo (szL p.nu.length left)
theorem szW_neg : ∀ {xs : List (List Int)} {l : Int}, 0 ≤ l → szW xs l < 0 → szW xs l = -1
  | [], l, h0, h => by unfold szW at h; omega
  | x :: xs, l, h0, h => by
    unfold szW at h ⊢
    split at h
    · rename_i e; rw [if_pos e]
    · rename_i e; rw [if_neg e]; exact szW_neg (by omega) h
theorem szWW_neg {xs : List (List Int)} {l : Int} (h : szWW xs l < 0) : szWW xs l = -1 := by
  unfold szWW at h ⊢
  split at h
  · rename_i e; rw [if_pos e]
  · rename_i e; rw [if_neg e]; exact szW_neg (by omega) h
theorem preA4 {p : Prop} (h : p := by first | with_reducible assumption | omega | (simp only [List.length_append, List.length_cons, List.length_nil, List.length_set, List.length_replicate, List.length_take, List.length_drop, List.length_tail, List.length_dropLast, List.length_reverse] at *; omega) | exact mem_len (by assumption) (by omega) | trivial) : p := h
theorem szProof_ok (p : Prf) (left : Int) (h1 : left ≤ 1048576) (h2 : 0 ≤ left) (hx : (p.nu.length : Int) ≤ 9223372036854775807) (hy : (p.wo.length : Int) ≤ 9223372036854775807) (hys : ∀ x ∈ p.wo, (x.length : Int) ≤ 9223372036854775807) : Does Try.prog 36 [.agg (prC p), .one (int left)] [] (.one (int (szP p left))) [] := by
  have h3 := szL_le (n := p.nu.length) h1
  refine does_of (k := 0) Try.func36 rfl Try.ntmps36 rfl rfl fun w F0 S0 ρ0 => ?_
  dsimp only [argT, argH]
  repeat' first
    | refine g_seq ?_
    | refine g_skip ?_
    | refine g_exit ?_
    | refine g_block ?_
    | refine g_reg ?_
    | refine g_if_t rfl ?_
    | refine g_if_f rfl ?_
    | refine o_nil ?_
    | refine q_s ?_
    | refine q_se ?_
    | refine q_b ?_
    | refine q_be rfl ?_
    | refine q_bn rfl ?_
    | refine q_le ?_
    | refine q_ce ?_
    | (apply n3; exact a_new (gb := .bx _) rfl; exact rfl; (try dsimp only [List.map_cons, List.map_nil, scC, Nat.reduceAdd]))
    | (apply p3; (first | exact pu1 | exact puL | exact puC); exact rfl)
    | (apply c4 0; exact callK1 (θ := []) (hD := (szInt64S_ok _ _ preA4 preA4 preA4)); exact rfl; exact rfl; exact rfl; (try dsimp only [SV.ren, C.ren, C.ren.all, tRen, GB.ren, calF, upOf, List.cons_append, List.nil_append, Nat.reduceAdd]))
    | (apply c4 0; exact callK1 (θ := []) (hD := (szInt64SS_ok _ _ preA4 preA4 preA4 preA4)); exact rfl; exact rfl; exact rfl; (try dsimp only [SV.ren, C.ren, C.ren.all, tRen, GB.ren, calF, upOf, List.cons_append, List.nil_append, Nat.reduceAdd]))
    | (refine o_gs rfl rfl (fun hc => ?_) (fun hc => ?_) <;> (try simp only [decide_eq_true_eq, decide_eq_false_iff_not, Bool.not_eq_true', Bool.not_eq_false', Bool.not_eq_true, Bool.not_eq_false, Bool.and_eq_true, Bool.or_eq_false_iff, Bool.not_not] at hc) <;> (try (first | contradiction | (exfalso; omega))))
    | (refine g_cond rfl (fun hc => ?_) (fun hc => ?_) <;> (try simp only [decide_eq_true_eq, decide_eq_false_iff_not, Bool.not_eq_true', Bool.not_eq_false', Bool.not_eq_true, Bool.not_eq_false, Bool.and_eq_true, Bool.or_eq_false_iff, Bool.not_not] at hc) <;> (try (first | contradiction | (exfalso; omega))))
  · repeat (first | refine g_ret ?_ | refine q_sr ?_ | refine q_br ?_ | refine q_lr ?_ | refine q_cr ?_)
    refine ends_id ?_
    refine endK [] (h2 := ?_) (h3 := ?_) (nd := ?_)
    all_goals (repeat' first | with_reducible exact SVLe.refl | exact SVLe.any | exact SVLe.one (.sh rfl) | exact SVLe.one (.nil (by decide)) | refine SVLe.agg ?_ | refine SVLe.tup ?_ | exact TLe.nil | refine TLe.cons ?_ ?_ | exact CsLe.nil | refine CsLe.cons ?_ ?_ | exact CLe.refl | exact CLe.sh rfl | exact CLe.nil (by decide) | refine cle_i ?_ | refine cle_b ?_ | exact trivial | refine And.intro ?_ ?_ | exact Or.inl rfl | exact Or.inr rfl | refine Or.inr (row_eq ?_) | (refine Or.inr (bx_eq rfl rfl ?_); (try dsimp only [C.ren, C.ren.all]); (try exact rfl)) | exact SVLe.refl | refine sle_i ?_ | refine sle_b ?_)
    all_goals first | exact (show nodupB _ = true from rfl) | exact Or.inr rfl | ((unfold szP; simp [*]))
  · repeat (first | refine g_ret ?_ | refine q_sr ?_ | refine q_br ?_ | refine q_lr ?_ | refine q_cr ?_)
    refine ends_id ?_
    refine endK [] (h2 := ?_) (h3 := ?_) (nd := ?_)
    all_goals (repeat' first | with_reducible exact SVLe.refl | exact SVLe.any | exact SVLe.one (.sh rfl) | exact SVLe.one (.nil (by decide)) | refine SVLe.agg ?_ | refine SVLe.tup ?_ | exact TLe.nil | refine TLe.cons ?_ ?_ | exact CsLe.nil | refine CsLe.cons ?_ ?_ | exact CLe.refl | exact CLe.sh rfl | exact CLe.nil (by decide) | refine cle_i ?_ | refine cle_b ?_ | exact trivial | refine And.intro ?_ ?_ | exact Or.inl rfl | exact Or.inr rfl | refine Or.inr (row_eq ?_) | (refine Or.inr (bx_eq rfl rfl ?_); (try dsimp only [C.ren, C.ren.all]); (try exact rfl)) | exact SVLe.refl | refine sle_i ?_ | refine sle_b ?_)
    all_goals first | exact (show nodupB _ = true from rfl) | exact Or.inr rfl | ((rw [szP, if_neg (by assumption)]; exact (szWW_neg (by assumption)).symm))
  · repeat (first | refine g_ret ?_ | refine q_sr ?_ | refine q_br ?_ | refine q_lr ?_ | refine q_cr ?_)
    refine ends_id ?_
    refine endK [] (h2 := ?_) (h3 := ?_) (nd := ?_)
    all_goals (repeat' first | with_reducible exact SVLe.refl | exact SVLe.any | exact SVLe.one (.sh rfl) | exact SVLe.one (.nil (by decide)) | refine SVLe.agg ?_ | refine SVLe.tup ?_ | exact TLe.nil | refine TLe.cons ?_ ?_ | exact CsLe.nil | refine CsLe.cons ?_ ?_ | exact CLe.refl | exact CLe.sh rfl | exact CLe.nil (by decide) | refine cle_i ?_ | refine cle_b ?_ | exact trivial | refine And.intro ?_ ?_ | exact Or.inl rfl | exact Or.inr rfl | refine Or.inr (row_eq ?_) | (refine Or.inr (bx_eq rfl rfl ?_); (try dsimp only [C.ren, C.ren.all]); (try exact rfl)) | exact SVLe.refl | refine sle_i ?_ | refine sle_b ?_)
    all_goals first | exact (show nodupB _ = true from rfl) | exact Or.inr rfl | ((unfold szP; simp [*]))
theorem toProof_ok (p : Prf) (hx : (p.nu.length : Int) ≤ 1048576) (hy : (p.wo.length : Int) ≤ 1048576) (hys : ∀ x ∈ p.wo, (x.length : Int) ≤ 1048576) : Does Try.prog 38 [.agg (prC p)] [] (.agg (prC p)) [] := by
  refine does_of (k := 0) Try.func38 rfl Try.ntmps38 rfl rfl fun w F0 S0 ρ0 => ?_
  dsimp only [argT, argH]
  repeat' first
    | refine g_seq ?_
    | refine g_skip ?_
    | refine g_exit ?_
    | refine g_block ?_
    | refine g_reg ?_
    | refine g_if_t rfl ?_
    | refine g_if_f rfl ?_
    | refine o_nil ?_
    | refine q_s ?_
    | refine q_se ?_
    | refine q_b ?_
    | refine q_be rfl ?_
    | refine q_bn rfl ?_
    | refine q_le ?_
    | refine q_ce ?_
    | (apply n3; exact a_new (gb := .bx _) rfl; exact rfl; (try dsimp only [List.map_cons, List.map_nil, scC, Nat.reduceAdd]))
    | (apply p3; exact puL; exact rfl)
    | (apply w3; (first | exact a_st_bx rfl rfl rfl rfl (fN rfl rfl) (Nat.le_of_ble_eq_true rfl) rfl | exact a_st_rowI rfl rfl rfl rfl (fN rfl rfl) bnd | exact a_stE (E := eI) _ rfl rfl rfl rfl (fN rfl rfl) bnd (by exact rfl) | exact a_stE (E := eW) _ rfl rfl rfl rfl (fN rfl rfl) bnd (by exact rfl)); exact rfl; (try dsimp only [setRow, List.map_cons, List.map_nil, scC, List.set_cons_zero, List.set_cons_succ, List.take_succ_cons, List.take_zero, List.drop_succ_cons, List.drop_zero, Nat.reduceAdd]))
    | (apply c4 0; exact callF (hD := (toInt64S_ok _ preA4)); exact rfl; exact rfl; exact rfl; (try dsimp only [SV.ren, C.ren, C.ren.all, tRen, GB.ren, calF, upOf, List.cons_append, List.nil_append, Nat.reduceAdd]))
    | (apply c4 1; exact callK0 (θ := []) (hD := (toInt64SS_ok _ preA4 preA4)); exact rfl; exact rfl; exact rfl; (try dsimp only [SV.ren, C.ren, C.ren.all, tRen, GB.ren, calF, upOf, List.cons_append, List.nil_append, Nat.reduceAdd]))
    | (refine o_gs rfl rfl (fun hc => ?_) (fun hc => ?_) <;> (try simp only [decide_eq_true_eq, decide_eq_false_iff_not, Bool.not_eq_true', Bool.not_eq_false', Bool.not_eq_true, Bool.not_eq_false, Bool.and_eq_true, Bool.or_eq_false_iff, Bool.not_not] at hc) <;> (try (first | contradiction | (exfalso; omega))))
    | (refine g_cond rfl (fun hc => ?_) (fun hc => ?_) <;> (try simp only [decide_eq_true_eq, decide_eq_false_iff_not, Bool.not_eq_true', Bool.not_eq_false', Bool.not_eq_true, Bool.not_eq_false, Bool.and_eq_true, Bool.or_eq_false_iff, Bool.not_not] at hc) <;> (try (first | contradiction | (exfalso; omega))))
  refine g_turn (t_freeze (i := 3) rfl nowR) ?_
  repeat (first | refine g_ret ?_ | refine q_sr ?_ | refine q_br ?_ | refine q_lr ?_ | refine q_cr ?_)
  refine ends_id ?_
  refine endK [] (h2 := ?_) (h3 := ?_) (nd := ?_)
  all_goals (repeat' first | with_reducible exact SVLe.refl | exact SVLe.any | exact SVLe.one (.sh rfl) | exact SVLe.one (.nil (by decide)) | refine SVLe.agg ?_ | refine SVLe.tup ?_ | exact TLe.nil | refine TLe.cons ?_ ?_ | exact CsLe.nil | refine CsLe.cons ?_ ?_ | exact CLe.refl | exact CLe.sh rfl | exact CLe.nil (by decide) | refine cle_i ?_ | refine cle_b ?_ | exact trivial | refine And.intro ?_ ?_ | exact Or.inl rfl | exact Or.inr rfl | refine Or.inr (row_eq ?_) | (refine Or.inr (bx_eq rfl rfl ?_); (try dsimp only [C.ren, C.ren.all]); (try exact rfl)) | exact SVLe.refl | refine sle_i ?_ | refine sle_b ?_)
  all_goals first | exact (show nodupB _ = true from rfl) | exact Or.inr rfl | (rfl)
@[irreducible] def eqP (a b : Prf) : Bool := decide (a.k = b.k ∧ a.nu = b.nu ∧ a.wo = b.wo)
theorem eqProof_ok (a b : Prf) (h1 : (a.nu.length : Int) ≤ 1048576) (h2 : (b.nu.length : Int) ≤ 1048576) (h3 : (a.wo.length : Int) ≤ 1048576) (h4 : (b.wo.length : Int) ≤ 1048576) (h5 : ∀ x ∈ a.wo, (x.length : Int) ≤ 1048576) (h6 : ∀ x ∈ b.wo, (x.length : Int) ≤ 1048576) : Does Try.prog 40 [.agg (prC a), .agg (prC b)] [] (.one (boo (eqP a b))) [] := by
  refine does_of (k := 0) Try.func40 rfl Try.ntmps40 rfl rfl fun w F0 S0 ρ0 => ?_
  dsimp only [argT, argH]
  repeat' first
    | refine g_seq ?_
    | refine g_skip ?_
    | refine g_exit ?_
    | refine g_block ?_
    | refine g_reg ?_
    | refine g_if_t rfl ?_
    | refine g_if_f rfl ?_
    | refine o_nil ?_
    | refine q_s ?_
    | refine q_se ?_
    | refine q_b ?_
    | refine q_be rfl ?_
    | refine q_bn rfl ?_
    | refine q_le ?_
    | refine q_ce ?_
    | (apply n3; exact a_new (gb := .bx _) rfl; exact rfl; (try dsimp only [List.map_cons, List.map_nil, scC, Nat.reduceAdd]))
    | (apply p3; (first | exact a_ne rfl rfl | exact a_neS rfl rfl rfl | exact puL); exact rfl)
    | (apply c4 0; exact callK1 (θ := []) (hD := (eqInt64S_ok _ _ preA4 preA4)); exact rfl; exact rfl; exact rfl; (try dsimp only [SV.ren, C.ren, C.ren.all, tRen, GB.ren, calF, upOf, List.cons_append, List.nil_append, Nat.reduceAdd]))
    | (apply c4 0; exact callK1 (θ := []) (hD := (eqInt64SS_ok _ _ preA4 preA4 preA4 preA4)); exact rfl; exact rfl; exact rfl; (try dsimp only [SV.ren, C.ren, C.ren.all, tRen, GB.ren, calF, upOf, List.cons_append, List.nil_append, Nat.reduceAdd]))
    | (refine o_gs rfl rfl (fun hc => ?_) (fun hc => ?_) <;> (try simp only [decide_eq_true_eq, decide_eq_false_iff_not, Bool.not_eq_true', Bool.not_eq_false', Bool.not_eq_true, Bool.not_eq_false, Bool.and_eq_true, Bool.or_eq_false_iff, Bool.not_not] at hc) <;> (try (first | contradiction | (exfalso; omega))))
    | (refine g_cond rfl (fun hc => ?_) (fun hc => ?_) <;> (try simp only [decide_eq_true_eq, decide_eq_false_iff_not, Bool.not_eq_true', Bool.not_eq_false', Bool.not_eq_true, Bool.not_eq_false, Bool.and_eq_true, Bool.or_eq_false_iff, Bool.not_not] at hc) <;> (try (first | contradiction | (exfalso; omega))))
  all_goals
    repeat (first | refine g_ret ?_ | refine q_sr ?_ | refine q_br ?_ | refine q_lr ?_ | refine q_cr ?_)
    refine ends_id ?_
    refine endK [] (h2 := ?_) (h3 := ?_) (nd := ?_)
    all_goals (repeat' first | with_reducible exact SVLe.refl | exact SVLe.any | exact SVLe.one (.sh rfl) | exact SVLe.one (.nil (by decide)) | refine SVLe.agg ?_ | refine SVLe.tup ?_ | exact TLe.nil | refine TLe.cons ?_ ?_ | exact CsLe.nil | refine CsLe.cons ?_ ?_ | exact CLe.refl | exact CLe.sh rfl | exact CLe.nil (by decide) | refine cle_i ?_ | refine cle_b ?_ | exact trivial | refine And.intro ?_ ?_ | exact Or.inl rfl | exact Or.inr rfl | refine Or.inr (row_eq ?_) | (refine Or.inr (bx_eq rfl rfl ?_); (try dsimp only [C.ren, C.ren.all]); (try exact rfl)) | exact SVLe.refl | refine sle_i ?_ | refine sle_b ?_)
    all_goals first | exact (show nodupB _ = true from rfl) | exact Or.inr rfl | ((symm; unfold eqP; (try unfold eqI at *); (try unfold eqWs at *); simp_all))
end Go.Proofs.Ytncccjpbaeaafaa
end
section
set_option linter.unusedVariables false
set_option linter.unusedSimpArgs false
set_option maxRecDepth 100000
set_option maxHeartbeats 4000000
namespace Go.Proofs.Ytncccjpbaeaafaa
open Go Foot
@[irreducible] def isWrd (w : List Int) : Bool := decide ((w.length : Int) ≤ 400) && inAll 0 9 w
theorem preB34 {p : Prop} (h : p := by first | with_reducible assumption | omega | (simp only [List.length_append, List.length_cons, List.length_nil, List.length_set, List.length_replicate, List.length_take, List.length_drop, List.length_tail, List.length_dropLast, List.length_reverse] at *; omega) | exact mem_len (by assumption) (by omega) | (with_reducible refine Int.le_trans (Int.ofNat_le.2 (trimR_len _)) ?_; simp only [List.length_cons, List.length_tail]; omega) | (exact (ruAt_ok (by assumption) (by assumption) (by assumption)).2.1) | (exact (ruAt_ok (by assumption) (by assumption) (by assumption)).2.1) | (have := vMach_bd (by assumption); omega) | (simp only [mC_ch, mC_tu]; omega) | (with_reducible refine Int.le_trans (Int.ofNat_le.2 (pushL_len _ _)) ?_; simp only [List.length_dropLast]; omega) | exact (ask_ok (by assumption)).1 | exact (ask_ok (by assumption)).2.1 | exact (ask_ok (by assumption)).2.2.1 | exact (ask_ok (by assumption)).2.2.2 | trivial) : p := h
theorem isLetters_ok (w : List Int) (hx : (w.length : Int) ≤ 16777216) : Does Try.prog 161 [.one (shI w)] [] (.one (boo (inAll 0 9 w))) [] := by
  refine does_of (k := 0) Try.func161 rfl Try.ntmps161 rfl rfl fun w F0 S0 ρ0 => ?_
  dsimp only [argT, argH]
  repeat' first
    | refine g_seq ?_
    | refine g_skip ?_
    | refine g_exit ?_
    | refine g_block ?_
    | refine g_reg ?_
    | refine g_if_t rfl ?_
    | refine g_if_f rfl ?_
    | refine o_nil ?_
    | refine q_s ?_
    | refine q_se ?_
    | refine q_b ?_
    | refine q_be rfl ?_
    | refine q_bn rfl ?_
    | refine q_le ?_
    | refine q_ce ?_
    | (apply p3; exact pu1; exact rfl)
    | (apply c4 0; exact callK1 (θ := []) (hD := (allWithin_ok _ _ _ preB34)); exact rfl; exact rfl; exact rfl; (try dsimp only [SV.ren, C.ren, C.ren.all, tRen, GB.ren, calF, upOf, List.cons_append, List.nil_append, Nat.reduceAdd]))
    | (refine o_gs rfl rfl (fun hc => ?_) (fun hc => ?_) <;> (try simp only [decide_eq_true_eq, decide_eq_false_iff_not, Bool.not_eq_true', Bool.not_eq_false', Bool.not_eq_true, Bool.not_eq_false, Bool.and_eq_true, Bool.or_eq_false_iff, Bool.not_not] at hc) <;> (try (first | contradiction | (exfalso; omega))))
    | (refine g_cond rfl (fun hc => ?_) (fun hc => ?_) <;> (try simp only [decide_eq_true_eq, decide_eq_false_iff_not, Bool.not_eq_true', Bool.not_eq_false', Bool.not_eq_true, Bool.not_eq_false, Bool.and_eq_true, Bool.or_eq_false_iff, Bool.not_not] at hc) <;> (try (first | contradiction | (exfalso; omega))))
  repeat (first | refine g_ret ?_ | refine q_sr ?_ | refine q_br ?_ | refine q_lr ?_ | refine q_cr ?_)
  refine ends_id ?_
  refine endK [] (h2 := ?_) (h3 := ?_) (nd := ?_)
  all_goals (repeat' first | with_reducible exact SVLe.refl | exact SVLe.any | exact SVLe.one (.sh rfl) | exact SVLe.one (.nil (by decide)) | refine SVLe.agg ?_ | refine SVLe.tup ?_ | exact TLe.nil | refine TLe.cons ?_ ?_ | exact CsLe.nil | refine CsLe.cons ?_ ?_ | exact CLe.refl | exact CLe.sh rfl | exact CLe.nil (by decide) | refine cle_i ?_ | refine cle_b ?_ | exact trivial | refine And.intro ?_ ?_ | exact Or.inl rfl | exact Or.inr rfl | refine Or.inr (row_eq ?_) | (refine Or.inr (bx_eq rfl rfl ?_); (try dsimp only [C.ren, C.ren.all]); (try exact rfl)) | exact SVLe.refl | refine sle_i ?_ | refine sle_b ?_)
  all_goals first | exact (show nodupB _ = true from rfl) | exact Or.inr rfl | (rfl)
theorem IsWord_ok (w : List Int) (hx : (w.length : Int) ≤ 16777216) : Does Try.prog 157 [.one (shI w)] [] (.one (boo (isWrd w))) [] := by
  refine does_of (k := 0) Try.func157 rfl Try.ntmps157 rfl rfl fun w F0 S0 ρ0 => ?_
  dsimp only [argT, argH]
  repeat' first
    | refine g_seq ?_
    | refine g_skip ?_
    | refine g_exit ?_
    | refine g_block ?_
    | refine g_reg ?_
    | refine g_if_t rfl ?_
    | refine g_if_f rfl ?_
    | refine o_nil ?_
    | refine q_s ?_
    | refine q_se ?_
    | refine q_b ?_
    | refine q_be rfl ?_
    | refine q_bn rfl ?_
    | refine q_le ?_
    | refine q_ce ?_
    | (apply p3; (first | exact pu1 | exact puN | exact a_len_str rfl (fT rfl) | exact puC); exact rfl)
    | (apply c4 0; exact callK1 (θ := []) (hD := (isLetters_ok _ preB34)); exact rfl; exact rfl; exact rfl; (try dsimp only [SV.ren, C.ren, C.ren.all, tRen, GB.ren, calF, upOf, List.cons_append, List.nil_append, Nat.reduceAdd]))
    | refine o_no rfl rfl rfl rfl ?_
    | refine o_noN rfl rfl rfl ?_
    | (apply py3; exact rfl; exact rfl; (first | exact pu1 | exact puN | exact a_len_str rfl (fT rfl) | exact puC); exact rfl; exact rfl)
    | (apply cy4 0; exact rfl; exact rfl; exact callK1 (θ := []) (hD := (isLetters_ok _ preB34)); exact rfl; exact rfl; exact rfl; exact rfl; (try dsimp only [SV.ren, C.ren, C.ren.all, tRen, GB.ren, calF, upOf, List.cons_append, List.nil_append, Nat.reduceAdd]))
    | (refine o_gs rfl rfl (fun hc => ?_) (fun hc => ?_) <;> (try simp only [decide_eq_true_eq, decide_eq_false_iff_not, Bool.not_eq_true', Bool.not_eq_false', Bool.not_eq_true, Bool.not_eq_false, Bool.and_eq_true, Bool.or_eq_false_iff, Bool.not_not] at hc) <;> (try (first | contradiction | (exfalso; omega))))
    | (refine g_cond rfl (fun hc => ?_) (fun hc => ?_) <;> (try simp only [decide_eq_true_eq, decide_eq_false_iff_not, Bool.not_eq_true', Bool.not_eq_false', Bool.not_eq_true, Bool.not_eq_false, Bool.and_eq_true, Bool.or_eq_false_iff, Bool.not_not] at hc) <;> (try (first | contradiction | (exfalso; omega))))
  all_goals
    repeat (first | refine g_ret ?_ | refine q_sr ?_ | refine q_br ?_ | refine q_lr ?_ | refine q_cr ?_)
    refine ends_id ?_
    refine endK [] (h2 := ?_) (h3 := ?_) (nd := ?_)
    all_goals (repeat' first | with_reducible exact SVLe.refl | exact SVLe.any | exact SVLe.one (.sh rfl) | exact SVLe.one (.nil (by decide)) | refine SVLe.agg ?_ | refine SVLe.tup ?_ | exact TLe.nil | refine TLe.cons ?_ ?_ | exact CsLe.nil | refine CsLe.cons ?_ ?_ | exact CLe.refl | exact CLe.sh rfl | exact CLe.nil (by decide) | refine cle_i ?_ | refine cle_b ?_ | exact trivial | refine And.intro ?_ ?_ | exact Or.inl rfl | exact Or.inr rfl | refine Or.inr (row_eq ?_) | (refine Or.inr (bx_eq rfl rfl ?_); (try dsimp only [C.ren, C.ren.all]); (try exact rfl)) | exact SVLe.refl | refine sle_i ?_ | refine sle_b ?_)
    all_goals first | exact (show nodupB _ = true from rfl) | exact Or.inr rfl | ((unfold isWrd; first | (simp [*]; done) | (rw [decide_eq_false] <;> first | rfl | omega | (simp; done)) | (rw [decide_eq_true] <;> first | rfl | omega | (simp [*]; done)) | (simp_all; done) | (simp_all; omega)))
theorem areW1_ok (w : List Int) (hx : (w.length : Int) ≤ 16777216) : Does Try.prog 156 [.one (shI w)] [] (.one (boo (!isWrd w))) [] := by
  refine does_of (k := 0) Try.func156 rfl Try.ntmps156 rfl rfl fun w F0 S0 ρ0 => ?_
  dsimp only [argT, argH]
  repeat' first
    | refine g_seq ?_
    | refine g_skip ?_
    | refine g_exit ?_
    | refine g_block ?_
    | refine g_reg ?_
    | refine g_if_t rfl ?_
    | refine g_if_f rfl ?_
    | refine o_nil ?_
    | refine q_s ?_
    | refine q_se ?_
    | refine q_b ?_
    | refine q_be rfl ?_
    | refine q_bn rfl ?_
    | refine q_le ?_
    | refine q_ce ?_
    | (apply p3; exact pu1; exact rfl)
    | (apply c4 0; exact callK1 (θ := []) (hD := (IsWord_ok _ preB34)); exact rfl; exact rfl; exact rfl; (try dsimp only [SV.ren, C.ren, C.ren.all, tRen, GB.ren, calF, upOf, List.cons_append, List.nil_append, Nat.reduceAdd]))
    | (refine o_gs rfl rfl (fun hc => ?_) (fun hc => ?_) <;> (try simp only [decide_eq_true_eq, decide_eq_false_iff_not, Bool.not_eq_true', Bool.not_eq_false', Bool.not_eq_true, Bool.not_eq_false, Bool.and_eq_true, Bool.or_eq_false_iff, Bool.not_not] at hc) <;> (try (first | contradiction | (exfalso; omega))))
    | (refine g_cond rfl (fun hc => ?_) (fun hc => ?_) <;> (try simp only [decide_eq_true_eq, decide_eq_false_iff_not, Bool.not_eq_true', Bool.not_eq_false', Bool.not_eq_true, Bool.not_eq_false, Bool.and_eq_true, Bool.or_eq_false_iff, Bool.not_not] at hc) <;> (try (first | contradiction | (exfalso; omega))))
  repeat (first | refine g_ret ?_ | refine q_sr ?_ | refine q_br ?_ | refine q_lr ?_ | refine q_cr ?_)
  refine ends_id ?_
  refine endK [] (h2 := ?_) (h3 := ?_) (nd := ?_)
  all_goals (repeat' first | with_reducible exact SVLe.refl | exact SVLe.any | exact SVLe.one (.sh rfl) | exact SVLe.one (.nil (by decide)) | refine SVLe.agg ?_ | refine SVLe.tup ?_ | exact TLe.nil | refine TLe.cons ?_ ?_ | exact CsLe.nil | refine CsLe.cons ?_ ?_ | exact CLe.refl | exact CLe.sh rfl | exact CLe.nil (by decide) | refine cle_i ?_ | refine cle_b ?_ | exact trivial | refine And.intro ?_ ?_ | exact Or.inl rfl | exact Or.inr rfl | refine Or.inr (row_eq ?_) | (refine Or.inr (bx_eq rfl rfl ?_); (try dsimp only [C.ren, C.ren.all]); (try exact rfl)) | exact SVLe.refl | refine sle_i ?_ | refine sle_b ?_)
  all_goals first | exact (show nodupB _ = true from rfl) | exact Or.inr rfl | (rfl)
theorem idxW_ok (xs : List (List Int)) (k : Nat) (p : List Int → Bool) (hx : (xs.length : Int) ≤ 16777216) (hxs : ∀ x ∈ xs, (x.length : Int) ≤ 16777216) (hE : entB Try.prog k = true) (hp : ∀ r, (r.length : Int) ≤ 16777216 → Does Try.prog k [.one (shI r)] [] (.one (boo (p r))) []) : Does Try.prog 160 [.one (shW xs), .one (.d (.fn (.func k) []))] [] (.one (int (idxF p xs))) [] := by
  refine does_of (k := 0) Try.func160 rfl Try.ntmps160 rfl rfl fun w F0 S0 ρ0 => ?_
  dsimp only [argT, argH]
  repeat' first
    | refine g_seq ?_
    | refine g_skip ?_
    | refine g_exit ?_
    | refine g_block ?_
    | refine g_reg ?_
    | refine g_if_t rfl ?_
    | refine g_if_f rfl ?_
    | refine o_nil ?_
    | refine q_s ?_
    | refine q_se ?_
    | refine q_b ?_
    | refine q_be rfl ?_
    | refine q_bn rfl ?_
    | refine q_le ?_
    | refine q_ce ?_
    | (apply p3; (first | exact pu1 | exact puL | exact puN | exact a_len_str rfl (fT rfl) | exact puC | exact a_add rfl rfl (by omega) (by omega) | exact puI); exact rfl)
    | (apply c4 0; exact callK0 (θ := []) (hE := hE) (hD := (hp _ preB34)); exact rfl; exact rfl; exact rfl; (try dsimp only [SV.ren, C.ren, C.ren.all, tRen, GB.ren, calF, upOf, List.cons_append, List.nil_append, Nat.reduceAdd]))
    | (refine o_gs rfl rfl (fun hc => ?_) (fun hc => ?_) <;> (try simp only [decide_eq_true_eq, decide_eq_false_iff_not, Bool.not_eq_true', Bool.not_eq_false', Bool.not_eq_true, Bool.not_eq_false, Bool.and_eq_true, Bool.or_eq_false_iff, Bool.not_not] at hc) <;> (try (first | contradiction | (exfalso; omega))))
    | (refine g_cond rfl (fun hc => ?_) (fun hc => ?_) <;> (try simp only [decide_eq_true_eq, decide_eq_false_iff_not, Bool.not_eq_true', Bool.not_eq_false', Bool.not_eq_true, Bool.not_eq_false, Bool.and_eq_true, Bool.or_eq_false_iff, Bool.not_not] at hc) <;> (try (first | contradiction | (exfalso; omega))))
  refine g_loop_id ?_
  refine loopK [0, 1, 4, 7] [] (fun i : Int => 0 ≤ i ∧ i ≤ xs.length ∧ (xs.take i.toNat).all (fun x => !p x) = true) (fun i => [(8, .one (int i))]) (fun _ => []) (fun i => (xs.length - i).toNat) (0 : Int) [] (hI := ?_) (hr := ?_)
  · exact ⟨by omega, by omega, rfl⟩
  · rintro i ⟨h0, h1, h2⟩
    dsimp only [List.cons_append, List.nil_append] at *
    skip
    repeat' first
      | refine g_seq ?_
      | refine g_skip ?_
      | refine g_exit ?_
      | refine g_block ?_
      | refine g_reg ?_
      | refine g_if_t rfl ?_
      | refine g_if_f rfl ?_
      | refine o_nil ?_
      | refine q_s ?_
      | refine q_se ?_
      | refine q_b ?_
      | refine q_be rfl ?_
      | refine q_bn rfl ?_
      | refine q_le ?_
      | refine q_ce ?_
      | (apply p3; (first | exact pu1 | exact puL | exact puC | exact a_add rfl rfl (by omega) (by omega) | exact puI); exact rfl)
      | (apply c4 0; exact callK0 (θ := []) (hE := hE) (hD := (hp _ preB34)); exact rfl; exact rfl; exact rfl; (try dsimp only [SV.ren, C.ren, C.ren.all, tRen, GB.ren, calF, upOf, List.cons_append, List.nil_append, Nat.reduceAdd]))
      | (refine o_gs rfl rfl (fun hc => ?_) (fun hc => ?_) <;> (try simp only [decide_eq_true_eq, decide_eq_false_iff_not, Bool.not_eq_true', Bool.not_eq_false', Bool.not_eq_true, Bool.not_eq_false, Bool.and_eq_true, Bool.or_eq_false_iff, Bool.not_not] at hc) <;> (try (first | contradiction | (exfalso; omega))))
      | (refine g_cond rfl (fun hc => ?_) (fun hc => ?_) <;> (try simp only [decide_eq_true_eq, decide_eq_false_iff_not, Bool.not_eq_true', Bool.not_eq_false', Bool.not_eq_true, Bool.not_eq_false, Bool.and_eq_true, Bool.or_eq_false_iff, Bool.not_not] at hc) <;> (try (first | contradiction | (exfalso; omega))))
    · repeat (first | refine g_ret ?_ | refine q_sr ?_ | refine q_br ?_ | refine q_lr ?_ | refine q_cr ?_)
      refine ends_id ?_
      refine endK [] (h2 := ?_) (h3 := ?_) (nd := ?_)
      all_goals (repeat' first | with_reducible exact SVLe.refl | exact SVLe.any | exact SVLe.one (.sh rfl) | exact SVLe.one (.nil (by decide)) | refine SVLe.agg ?_ | refine SVLe.tup ?_ | exact TLe.nil | refine TLe.cons ?_ ?_ | exact CsLe.nil | refine CsLe.cons ?_ ?_ | exact CLe.refl | exact CLe.sh rfl | exact CLe.nil (by decide) | refine cle_i ?_ | refine cle_b ?_ | exact trivial | refine And.intro ?_ ?_ | exact Or.inl rfl | exact Or.inr rfl | refine Or.inr (row_eq ?_) | (refine Or.inr (bx_eq rfl rfl ?_); (try dsimp only [C.ren, C.ren.all]); (try exact rfl)) | exact SVLe.refl | refine sle_i ?_ | refine sle_b ?_)
      all_goals first | exact (show nodupB _ = true from rfl) | exact Or.inr rfl | (exact (idxF_stop p xs i h0 (by omega) h2 hc).symm)
    · refine q_again (i + 1) [] (by exact stk) ?_ ?_
      · exact ⟨by omega, by omega, all_snocI _ _ _ h0 (by omega) h2 (by simp [hc])⟩
      · omega
    · repeat (first | refine g_ret ?_ | refine q_sr ?_ | refine q_br ?_ | refine q_lr ?_ | refine q_cr ?_)
      refine ends_id ?_
      refine endK [] (h2 := ?_) (h3 := ?_) (nd := ?_)
      all_goals (repeat' first | with_reducible exact SVLe.refl | exact SVLe.any | exact SVLe.one (.sh rfl) | exact SVLe.one (.nil (by decide)) | refine SVLe.agg ?_ | refine SVLe.tup ?_ | exact TLe.nil | refine TLe.cons ?_ ?_ | exact CsLe.nil | refine CsLe.cons ?_ ?_ | exact CLe.refl | exact CLe.sh rfl | exact CLe.nil (by decide) | refine cle_i ?_ | refine cle_b ?_ | exact trivial | refine And.intro ?_ ?_ | exact Or.inl rfl | exact Or.inr rfl | refine Or.inr (row_eq ?_) | (refine Or.inr (bx_eq rfl rfl ?_); (try dsimp only [C.ren, C.ren.all]); (try exact rfl)) | exact SVLe.refl | refine sle_i ?_ | refine sle_b ?_)
      all_goals first | exact (show nodupB _ = true from rfl) | exact Or.inr rfl | ((rw [List.take_of_length_le (by omega)] at h2; exact (idxF_none p xs h2).symm))
theorem hasW_ok (xs : List (List Int)) (k : Nat) (p : List Int → Bool) (hx : (xs.length : Int) ≤ 16777216) (hxs : ∀ x ∈ xs, (x.length : Int) ≤ 16777216) (hE : entB Try.prog k = true) (hp : ∀ r, (r.length : Int) ≤ 16777216 → Does Try.prog k [.one (shI r)] [] (.one (boo (p r))) []) : Does Try.prog 155 [.one (shW xs), .one (.d (.fn (.func k) []))] [] (.one (boo (xs.any p))) [] := by
  refine does_of (k := 0) Try.func155 rfl Try.ntmps155 rfl rfl fun w F0 S0 ρ0 => ?_
  dsimp only [argT, argH]
  repeat' first
    | refine g_seq ?_
    | refine g_skip ?_
    | refine g_exit ?_
    | refine g_block ?_
    | refine g_reg ?_
    | refine g_if_t rfl ?_
    | refine g_if_f rfl ?_
    | refine o_nil ?_
    | refine q_s ?_
    | refine q_se ?_
    | refine q_b ?_
    | refine q_be rfl ?_
    | refine q_bn rfl ?_
    | refine q_le ?_
    | refine q_ce ?_
    | (apply p3; (first | exact pu1 | exact puC); exact rfl)
    | (apply c4 0; exact callK1 (θ := []) (hD := (idxW_ok _ _ _ preB34 preB34 preB34 preB34)); exact rfl; exact rfl; exact rfl; (try dsimp only [SV.ren, C.ren, C.ren.all, tRen, GB.ren, calF, upOf, List.cons_append, List.nil_append, Nat.reduceAdd]))
    | (refine o_gs rfl rfl (fun hc => ?_) (fun hc => ?_) <;> (try simp only [decide_eq_true_eq, decide_eq_false_iff_not, Bool.not_eq_true', Bool.not_eq_false', Bool.not_eq_true, Bool.not_eq_false, Bool.and_eq_true, Bool.or_eq_false_iff, Bool.not_not] at hc) <;> (try (first | contradiction | (exfalso; omega))))
    | (refine g_cond rfl (fun hc => ?_) (fun hc => ?_) <;> (try simp only [decide_eq_true_eq, decide_eq_false_iff_not, Bool.not_eq_true', Bool.not_eq_false', Bool.not_eq_true, Bool.not_eq_false, Bool.and_eq_true, Bool.or_eq_false_iff, Bool.not_not] at hc) <;> (try (first | contradiction | (exfalso; omega))))
  repeat (first | refine g_ret ?_ | refine q_sr ?_ | refine q_br ?_ | refine q_lr ?_ | refine q_cr ?_)
  refine ends_id ?_
  refine endK [] (h2 := ?_) (h3 := ?_) (nd := ?_)
  all_goals (repeat' first | with_reducible exact SVLe.refl | exact SVLe.any | exact SVLe.one (.sh rfl) | exact SVLe.one (.nil (by decide)) | refine SVLe.agg ?_ | refine SVLe.tup ?_ | exact TLe.nil | refine TLe.cons ?_ ?_ | exact CsLe.nil | refine CsLe.cons ?_ ?_ | exact CLe.refl | exact CLe.sh rfl | exact CLe.nil (by decide) | refine cle_i ?_ | refine cle_b ?_ | exact trivial | refine And.intro ?_ ?_ | exact Or.inl rfl | exact Or.inr rfl | refine Or.inr (row_eq ?_) | (refine Or.inr (bx_eq rfl rfl ?_); (try dsimp only [C.ren, C.ren.all]); (try exact rfl)) | exact SVLe.refl | refine sle_i ?_ | refine sle_b ?_)
  all_goals first | exact (show nodupB _ = true from rfl) | exact Or.inr rfl | (exact idxF_any p xs)
theorem hasW1_ok (xs : List (List Int)) (hx : (xs.length : Int) ≤ 16777216) (hxs : ∀ x ∈ xs, (x.length : Int) ≤ 16777216) : Does Try.prog 155 [.one (shW xs), .one (.d (.fn (.func 156) []))] [] (.one (boo (xs.any fun w => !isWrd w))) [] := hasW_ok xs _ _ hx hxs (fQ rfl) fun r hr => areW1_ok r hr
theorem areWords_ok (xs : List (List Int)) (hx : (xs.length : Int) ≤ 16777216) (hxs : ∀ x ∈ xs, (x.length : Int) ≤ 16777216) : Does Try.prog 143 [.one (shW xs)] [] (.one (boo (xs.all isWrd))) [] := by
  refine does_of (k := 0) Try.func143 rfl Try.ntmps143 rfl rfl fun w F0 S0 ρ0 => ?_
  dsimp only [argT, argH]
  repeat' first
    | refine g_seq ?_
    | refine g_skip ?_
    | refine g_exit ?_
    | refine g_block ?_
    | refine g_reg ?_
    | refine g_if_t rfl ?_
    | refine g_if_f rfl ?_
    | refine o_nil ?_
    | refine q_s ?_
    | refine q_se ?_
    | refine q_b ?_
    | refine q_be rfl ?_
    | refine q_bn rfl ?_
    | refine q_le ?_
    | refine q_ce ?_
    | (apply p3; exact pu1; exact rfl)
    | (apply c4 0; exact callK1 (θ := []) (hD := (hasW1_ok _ preB34 preB34)); exact rfl; exact rfl; exact rfl; (try dsimp only [SV.ren, C.ren, C.ren.all, tRen, GB.ren, calF, upOf, List.cons_append, List.nil_append, Nat.reduceAdd]))
    | (refine o_gs rfl rfl (fun hc => ?_) (fun hc => ?_) <;> (try simp only [decide_eq_true_eq, decide_eq_false_iff_not, Bool.not_eq_true', Bool.not_eq_false', Bool.not_eq_true, Bool.not_eq_false, Bool.and_eq_true, Bool.or_eq_false_iff, Bool.not_not] at hc) <;> (try (first | contradiction | (exfalso; omega))))
    | (refine g_cond rfl (fun hc => ?_) (fun hc => ?_) <;> (try simp only [decide_eq_true_eq, decide_eq_false_iff_not, Bool.not_eq_true', Bool.not_eq_false', Bool.not_eq_true, Bool.not_eq_false, Bool.and_eq_true, Bool.or_eq_false_iff, Bool.not_not] at hc) <;> (try (first | contradiction | (exfalso; omega))))
  repeat (first | refine g_ret ?_ | refine q_sr ?_ | refine q_br ?_ | refine q_lr ?_ | refine q_cr ?_)
  refine ends_id ?_
  refine endK [] (h2 := ?_) (h3 := ?_) (nd := ?_)
  all_goals (repeat' first | with_reducible exact SVLe.refl | exact SVLe.any | exact SVLe.one (.sh rfl) | exact SVLe.one (.nil (by decide)) | refine SVLe.agg ?_ | refine SVLe.tup ?_ | exact TLe.nil | refine TLe.cons ?_ ?_ | exact CsLe.nil | refine CsLe.cons ?_ ?_ | exact CLe.refl | exact CLe.sh rfl | exact CLe.nil (by decide) | refine cle_i ?_ | refine cle_b ?_ | exact trivial | refine And.intro ?_ ?_ | exact Or.inl rfl | exact Or.inr rfl | refine Or.inr (row_eq ?_) | (refine Or.inr (bx_eq rfl rfl ?_); (try dsimp only [C.ren, C.ren.all]); (try exact rfl)) | exact SVLe.refl | refine sle_i ?_ | refine sle_b ?_)
  all_goals first | exact (show nodupB _ = true from rfl) | exact Or.inr rfl | (exact not_any_not _ _)
@[irreducible] def validP (p : Prf) : Bool := decide ((1 ≤ p.k ∧ p.k ≤ 8) ∧ (p.nu.length : Int) ≤ 300 ∧ (p.wo.length : Int) ≤ 300) && inAll (-1000000000000) 1000000000000 p.nu && p.wo.all isWrd
theorem ValidProof_ok (p : Prf) (hx : (p.nu.length : Int) ≤ 16777216) (hy : (p.wo.length : Int) ≤ 16777216) (hys : ∀ x ∈ p.wo, (x.length : Int) ≤ 16777216) : Does Try.prog 111 [.agg (prC p)] [] (.one (boo (validP p))) [] := by
  refine does_of (k := 0) Try.func111 rfl Try.ntmps111 rfl rfl fun w F0 S0 ρ0 => ?_
  dsimp only [argT, argH]
  repeat' first
    | refine g_seq ?_
    | refine g_skip ?_
    | refine g_exit ?_
    | refine g_block ?_
    | refine g_reg ?_
    | refine g_if_t rfl ?_
    | refine g_if_f rfl ?_
    | refine o_nil ?_
    | refine q_s ?_
    | refine q_se ?_
    | refine q_b ?_
    | refine q_be rfl ?_
    | refine q_bn rfl ?_
    | refine q_le ?_
    | refine q_ce ?_
    | (apply n3; exact a_new (gb := .bx _) rfl; exact rfl; (try dsimp only [List.map_cons, List.map_nil, scC, Nat.reduceAdd]))
    | (apply p3; (first | exact pu1 | exact puL | exact puN | exact a_len_str rfl (fT rfl) | exact puC); exact rfl)
    | (apply c4 0; exact callK1 (θ := []) (hD := (within_ok _ _ _)); exact rfl; exact rfl; exact rfl; (try dsimp only [SV.ren, C.ren, C.ren.all, tRen, GB.ren, calF, upOf, List.cons_append, List.nil_append, Nat.reduceAdd]))
    | (apply c4 0; exact callK1 (θ := []) (hD := (allWithin_ok _ _ _ preB34)); exact rfl; exact rfl; exact rfl; (try dsimp only [SV.ren, C.ren, C.ren.all, tRen, GB.ren, calF, upOf, List.cons_append, List.nil_append, Nat.reduceAdd]))
    | (apply c4 0; exact callK1 (θ := []) (hD := (areWords_ok _ preB34 preB34)); exact rfl; exact rfl; exact rfl; (try dsimp only [SV.ren, C.ren, C.ren.all, tRen, GB.ren, calF, upOf, List.cons_append, List.nil_append, Nat.reduceAdd]))
    | refine o_no rfl rfl rfl rfl ?_
    | refine o_noN rfl rfl rfl ?_
    | (apply py3; exact rfl; exact rfl; (first | exact pu1 | exact puL | exact puN | exact a_len_str rfl (fT rfl) | exact puC); exact rfl; exact rfl)
    | (apply ny3; exact rfl; exact rfl; exact a_new (gb := .bx _) rfl; exact rfl; exact rfl)
    | (apply cy4 0; exact rfl; exact rfl; exact callK1 (θ := []) (hD := (within_ok _ _ _)); exact rfl; exact rfl; exact rfl; exact rfl; (try dsimp only [SV.ren, C.ren, C.ren.all, tRen, GB.ren, calF, upOf, List.cons_append, List.nil_append, Nat.reduceAdd]))
    | (apply cy4 0; exact rfl; exact rfl; exact callK1 (θ := []) (hD := (allWithin_ok _ _ _ preB34)); exact rfl; exact rfl; exact rfl; exact rfl; (try dsimp only [SV.ren, C.ren, C.ren.all, tRen, GB.ren, calF, upOf, List.cons_append, List.nil_append, Nat.reduceAdd]))
    | (apply cy4 0; exact rfl; exact rfl; exact callK1 (θ := []) (hD := (areWords_ok _ preB34 preB34)); exact rfl; exact rfl; exact rfl; exact rfl; (try dsimp only [SV.ren, C.ren, C.ren.all, tRen, GB.ren, calF, upOf, List.cons_append, List.nil_append, Nat.reduceAdd]))
    | (refine o_gs rfl rfl (fun hc => ?_) (fun hc => ?_) <;> (try simp only [decide_eq_true_eq, decide_eq_false_iff_not, Bool.not_eq_true', Bool.not_eq_false', Bool.not_eq_true, Bool.not_eq_false, Bool.and_eq_true, Bool.or_eq_false_iff, Bool.not_not] at hc) <;> (try (first | contradiction | (exfalso; omega))))
    | (refine g_cond rfl (fun hc => ?_) (fun hc => ?_) <;> (try simp only [decide_eq_true_eq, decide_eq_false_iff_not, Bool.not_eq_true', Bool.not_eq_false', Bool.not_eq_true, Bool.not_eq_false, Bool.and_eq_true, Bool.or_eq_false_iff, Bool.not_not] at hc) <;> (try (first | contradiction | (exfalso; omega))))
  all_goals
    repeat (first | refine g_ret ?_ | refine q_sr ?_ | refine q_br ?_ | refine q_lr ?_ | refine q_cr ?_)
    refine ends_id ?_
    refine endK [] (h2 := ?_) (h3 := ?_) (nd := ?_)
    all_goals (repeat' first | with_reducible exact SVLe.refl | exact SVLe.any | exact SVLe.one (.sh rfl) | exact SVLe.one (.nil (by decide)) | refine SVLe.agg ?_ | refine SVLe.tup ?_ | exact TLe.nil | refine TLe.cons ?_ ?_ | exact CsLe.nil | refine CsLe.cons ?_ ?_ | exact CLe.refl | exact CLe.sh rfl | exact CLe.nil (by decide) | refine cle_i ?_ | refine cle_b ?_ | exact trivial | refine And.intro ?_ ?_ | exact Or.inl rfl | exact Or.inr rfl | refine Or.inr (row_eq ?_) | (refine Or.inr (bx_eq rfl rfl ?_); (try dsimp only [C.ren, C.ren.all]); (try exact rfl)) | exact SVLe.refl | refine sle_i ?_ | refine sle_b ?_)
    all_goals first | exact (show nodupB _ = true from rfl) | exact Or.inr rfl | ((unfold validP; first | (simp [*]; done) | (rw [decide_eq_false] <;> first | rfl | omega | (simp; done)) | (rw [decide_eq_true] <;> first | rfl | omega | (simp [*]; done)) | (simp_all; done) | (simp_all; omega)))
theorem l03Is_ok (lw : List Int) (hx : (lw.length : Int) ≤ 16777216) : Does Try.prog 152 [.one (shI lw)] [] (.one (boo (isWrd lw))) [] := by
  refine does_of (k := 0) Try.func152 rfl Try.ntmps152 rfl rfl fun w F0 S0 ρ0 => ?_
  dsimp only [argT, argH]
  repeat' first
    | refine g_seq ?_
    | refine g_skip ?_
    | refine g_exit ?_
    | refine g_block ?_
    | refine g_reg ?_
    | refine g_if_t rfl ?_
    | refine g_if_f rfl ?_
    | refine o_nil ?_
    | refine q_s ?_
    | refine q_se ?_
    | refine q_b ?_
    | refine q_be rfl ?_
    | refine q_bn rfl ?_
    | refine q_le ?_
    | refine q_ce ?_
    | (apply p3; (first | exact pu1 | exact puL | exact puN | exact a_len_str rfl (fT rfl) | exact puC | exact a_add rfl rfl (by omega) (by omega) | exact puI); exact rfl)
    | (apply c4 0; exact callK1 (θ := []) (hD := (l00In_ok _ _ _)); exact rfl; exact rfl; exact rfl; (try dsimp only [SV.ren, C.ren, C.ren.all, tRen, GB.ren, calF, upOf, List.cons_append, List.nil_append, Nat.reduceAdd]))
    | (refine o_gs rfl rfl (fun hc => ?_) (fun hc => ?_) <;> (try simp only [decide_eq_true_eq, decide_eq_false_iff_not, Bool.not_eq_true', Bool.not_eq_false', Bool.not_eq_true, Bool.not_eq_false, Bool.and_eq_true, Bool.or_eq_false_iff, Bool.not_not] at hc) <;> (try (first | contradiction | (exfalso; omega))))
    | (refine g_cond rfl (fun hc => ?_) (fun hc => ?_) <;> (try simp only [decide_eq_true_eq, decide_eq_false_iff_not, Bool.not_eq_true', Bool.not_eq_false', Bool.not_eq_true, Bool.not_eq_false, Bool.and_eq_true, Bool.or_eq_false_iff, Bool.not_not] at hc) <;> (try (first | contradiction | (exfalso; omega))))
  refine g_loop_id ?_
  refine loopK [0, 2] [] (fun i : Int => 0 ≤ i ∧ i ≤ lw.length ∧ (lw.take i.toNat).all (fun x => decide (0 ≤ x ∧ x ≤ 9)) = true) (fun i => [(3, .one (int i))]) (fun _ => []) (fun i => (lw.length - i).toNat) (0 : Int) [] (hI := ?_) (hr := ?_)
  · exact ⟨by omega, by omega, rfl⟩
  · rintro i ⟨h0, h1, h2⟩
    dsimp only [List.cons_append, List.nil_append] at *
    skip
    repeat' first
      | refine g_seq ?_
      | refine g_skip ?_
      | refine g_exit ?_
      | refine g_block ?_
      | refine g_reg ?_
      | refine g_if_t rfl ?_
      | refine g_if_f rfl ?_
      | refine o_nil ?_
      | refine q_s ?_
      | refine q_se ?_
      | refine q_b ?_
      | refine q_be rfl ?_
      | refine q_bn rfl ?_
      | refine q_le ?_
      | refine q_ce ?_
      | (apply p3; (first | exact pu1 | exact puL | exact puN | exact a_len_str rfl (fT rfl) | exact puC | exact a_add rfl rfl (by omega) (by omega) | exact puI); exact rfl)
      | (apply c4 0; exact callK1 (θ := []) (hD := (l00In_ok _ _ _)); exact rfl; exact rfl; exact rfl; (try dsimp only [SV.ren, C.ren, C.ren.all, tRen, GB.ren, calF, upOf, List.cons_append, List.nil_append, Nat.reduceAdd]))
      | (refine o_gs rfl rfl (fun hc => ?_) (fun hc => ?_) <;> (try simp only [decide_eq_true_eq, decide_eq_false_iff_not, Bool.not_eq_true', Bool.not_eq_false', Bool.not_eq_true, Bool.not_eq_false, Bool.and_eq_true, Bool.or_eq_false_iff, Bool.not_not] at hc) <;> (try (first | contradiction | (exfalso; omega))))
      | (refine g_cond rfl (fun hc => ?_) (fun hc => ?_) <;> (try simp only [decide_eq_true_eq, decide_eq_false_iff_not, Bool.not_eq_true', Bool.not_eq_false', Bool.not_eq_true, Bool.not_eq_false, Bool.and_eq_true, Bool.or_eq_false_iff, Bool.not_not] at hc) <;> (try (first | contradiction | (exfalso; omega))))
    · have e : inAll 0 9 lw = false := by unfold inAll; rw [all_no _ _ i.toNat (by omega) (by rw [decide_eq_true_eq]; exact hc)]
      repeat (first | refine g_ret ?_ | refine q_sr ?_ | refine q_br ?_ | refine q_lr ?_ | refine q_cr ?_)
      refine ends_id ?_
      refine endK [] (h2 := ?_) (h3 := ?_) (nd := ?_)
      all_goals (repeat' first | with_reducible exact SVLe.refl | exact SVLe.any | exact SVLe.one (.sh rfl) | exact SVLe.one (.nil (by decide)) | refine SVLe.agg ?_ | refine SVLe.tup ?_ | exact TLe.nil | refine TLe.cons ?_ ?_ | exact CsLe.nil | refine CsLe.cons ?_ ?_ | exact CLe.refl | exact CLe.sh rfl | exact CLe.nil (by decide) | refine cle_i ?_ | refine cle_b ?_ | exact trivial | refine And.intro ?_ ?_ | exact Or.inl rfl | exact Or.inr rfl | refine Or.inr (row_eq ?_) | (refine Or.inr (bx_eq rfl rfl ?_); (try dsimp only [C.ren, C.ren.all]); (try exact rfl)) | exact SVLe.refl | refine sle_i ?_ | refine sle_b ?_)
      all_goals first | exact (show nodupB _ = true from rfl) | exact Or.inr rfl | ((unfold isWrd; rw [e]; simp))
    · refine q_again (i + 1) [] (by exact stk) ?_ ?_
      · exact ⟨by omega, by omega, all_snocI _ _ _ h0 (by omega) h2 (by rw [decide_eq_true_eq]; exact hc)⟩
      · omega
    · have e : inAll 0 9 lw = true := by unfold inAll; rw [List.take_of_length_le (by omega)] at h2; exact h2
      repeat (first | refine g_ret ?_ | refine q_sr ?_ | refine q_br ?_ | refine q_lr ?_ | refine q_cr ?_)
      refine ends_id ?_
      refine endK [] (h2 := ?_) (h3 := ?_) (nd := ?_)
      all_goals (repeat' first | with_reducible exact SVLe.refl | exact SVLe.any | exact SVLe.one (.sh rfl) | exact SVLe.one (.nil (by decide)) | refine SVLe.agg ?_ | refine SVLe.tup ?_ | exact TLe.nil | refine TLe.cons ?_ ?_ | exact CsLe.nil | refine CsLe.cons ?_ ?_ | exact CLe.refl | exact CLe.sh rfl | exact CLe.nil (by decide) | refine cle_i ?_ | refine cle_b ?_ | exact trivial | refine And.intro ?_ ?_ | exact Or.inl rfl | exact Or.inr rfl | refine Or.inr (row_eq ?_) | (refine Or.inr (bx_eq rfl rfl ?_); (try dsimp only [C.ren, C.ren.all]); (try exact rfl)) | exact SVLe.refl | refine sle_i ?_ | refine sle_b ?_)
      all_goals first | exact (show nodupB _ = true from rfl) | exact Or.inr rfl | ((unfold isWrd; rw [e]; simp))
theorem l03All_ok (xs : List (List Int)) (hx : (xs.length : Int) ≤ 16777216) (hxs : ∀ x ∈ xs, (x.length : Int) ≤ 16777216) : Does Try.prog 135 [.one (shW xs)] [] (.one (boo (xs.all isWrd))) [] := by
  refine does_of (k := 0) Try.func135 rfl Try.ntmps135 rfl rfl fun w F0 S0 ρ0 => ?_
  dsimp only [argT, argH]
  repeat' first
    | refine g_seq ?_
    | refine g_skip ?_
    | refine g_exit ?_
    | refine g_block ?_
    | refine g_reg ?_
    | refine g_if_t rfl ?_
    | refine g_if_f rfl ?_
    | refine o_nil ?_
    | refine q_s ?_
    | refine q_se ?_
    | refine q_b ?_
    | refine q_be rfl ?_
    | refine q_bn rfl ?_
    | refine q_le ?_
    | refine q_ce ?_
    | (apply p3; (first | exact pu1 | exact puL | exact puN | exact a_len_str rfl (fT rfl) | exact puC | exact a_add rfl rfl (by omega) (by omega) | exact puI); exact rfl)
    | (apply c4 0; exact callK1 (θ := []) (hD := (l03Is_ok _ preB34)); exact rfl; exact rfl; exact rfl; (try dsimp only [SV.ren, C.ren, C.ren.all, tRen, GB.ren, calF, upOf, List.cons_append, List.nil_append, Nat.reduceAdd]))
    | (refine o_gs rfl rfl (fun hc => ?_) (fun hc => ?_) <;> (try simp only [decide_eq_true_eq, decide_eq_false_iff_not, Bool.not_eq_true', Bool.not_eq_false', Bool.not_eq_true, Bool.not_eq_false, Bool.and_eq_true, Bool.or_eq_false_iff, Bool.not_not] at hc) <;> (try (first | contradiction | (exfalso; omega))))
    | (refine g_cond rfl (fun hc => ?_) (fun hc => ?_) <;> (try simp only [decide_eq_true_eq, decide_eq_false_iff_not, Bool.not_eq_true', Bool.not_eq_false', Bool.not_eq_true, Bool.not_eq_false, Bool.and_eq_true, Bool.or_eq_false_iff, Bool.not_not] at hc) <;> (try (first | contradiction | (exfalso; omega))))
  refine g_loop_id ?_
  refine loopK [0, 2] [] (fun i : Int => 0 ≤ i ∧ i ≤ xs.length ∧ (xs.take i.toNat).all isWrd = true) (fun i => [(3, .one (int i))]) (fun _ => []) (fun i => (xs.length - i).toNat) (0 : Int) [] (hI := ?_) (hr := ?_)
  · exact ⟨by omega, by omega, rfl⟩
  · rintro i ⟨h0, h1, h2⟩
    dsimp only [List.cons_append, List.nil_append] at *
    skip
    repeat' first
      | refine g_seq ?_
      | refine g_skip ?_
      | refine g_exit ?_
      | refine g_block ?_
      | refine g_reg ?_
      | refine g_if_t rfl ?_
      | refine g_if_f rfl ?_
      | refine o_nil ?_
      | refine q_s ?_
      | refine q_se ?_
      | refine q_b ?_
      | refine q_be rfl ?_
      | refine q_bn rfl ?_
      | refine q_le ?_
      | refine q_ce ?_
      | (apply p3; (first | exact pu1 | exact puL | exact puN | exact a_len_str rfl (fT rfl) | exact puC | exact a_add rfl rfl (by omega) (by omega) | exact puI); exact rfl)
      | (apply c4 0; exact callK1 (θ := []) (hD := (l03Is_ok _ preB34)); exact rfl; exact rfl; exact rfl; (try dsimp only [SV.ren, C.ren, C.ren.all, tRen, GB.ren, calF, upOf, List.cons_append, List.nil_append, Nat.reduceAdd]))
      | (refine o_gs rfl rfl (fun hc => ?_) (fun hc => ?_) <;> (try simp only [decide_eq_true_eq, decide_eq_false_iff_not, Bool.not_eq_true', Bool.not_eq_false', Bool.not_eq_true, Bool.not_eq_false, Bool.and_eq_true, Bool.or_eq_false_iff, Bool.not_not] at hc) <;> (try (first | contradiction | (exfalso; omega))))
      | (refine g_cond rfl (fun hc => ?_) (fun hc => ?_) <;> (try simp only [decide_eq_true_eq, decide_eq_false_iff_not, Bool.not_eq_true', Bool.not_eq_false', Bool.not_eq_true, Bool.not_eq_false, Bool.and_eq_true, Bool.or_eq_false_iff, Bool.not_not] at hc) <;> (try (first | contradiction | (exfalso; omega))))
    · repeat (first | refine g_ret ?_ | refine q_sr ?_ | refine q_br ?_ | refine q_lr ?_ | refine q_cr ?_)
      refine ends_id ?_
      refine endK [] (h2 := ?_) (h3 := ?_) (nd := ?_)
      all_goals (repeat' first | with_reducible exact SVLe.refl | exact SVLe.any | exact SVLe.one (.sh rfl) | exact SVLe.one (.nil (by decide)) | refine SVLe.agg ?_ | refine SVLe.tup ?_ | exact TLe.nil | refine TLe.cons ?_ ?_ | exact CsLe.nil | refine CsLe.cons ?_ ?_ | exact CLe.refl | exact CLe.sh rfl | exact CLe.nil (by decide) | refine cle_i ?_ | refine cle_b ?_ | exact trivial | refine And.intro ?_ ?_ | exact Or.inl rfl | exact Or.inr rfl | refine Or.inr (row_eq ?_) | (refine Or.inr (bx_eq rfl rfl ?_); (try dsimp only [C.ren, C.ren.all]); (try exact rfl)) | exact SVLe.refl | refine sle_i ?_ | refine sle_b ?_)
      all_goals first | exact (show nodupB _ = true from rfl) | exact Or.inr rfl | ((rw [all_no _ _ i.toNat (by omega) (by simp [hc])]))
    · refine q_again (i + 1) [] (by exact stk) ?_ ?_
      · exact ⟨by omega, by omega, all_snocI _ _ _ h0 (by omega) h2 hc⟩
      · omega
    · repeat (first | refine g_ret ?_ | refine q_sr ?_ | refine q_br ?_ | refine q_lr ?_ | refine q_cr ?_)
      refine ends_id ?_
      refine endK [] (h2 := ?_) (h3 := ?_) (nd := ?_)
      all_goals (repeat' first | with_reducible exact SVLe.refl | exact SVLe.any | exact SVLe.one (.sh rfl) | exact SVLe.one (.nil (by decide)) | refine SVLe.agg ?_ | refine SVLe.tup ?_ | exact TLe.nil | refine TLe.cons ?_ ?_ | exact CsLe.nil | refine CsLe.cons ?_ ?_ | exact CLe.refl | exact CLe.sh rfl | exact CLe.nil (by decide) | refine cle_i ?_ | refine cle_b ?_ | exact trivial | refine And.intro ?_ ?_ | exact Or.inl rfl | exact Or.inr rfl | refine Or.inr (row_eq ?_) | (refine Or.inr (bx_eq rfl rfl ?_); (try dsimp only [C.ren, C.ren.all]); (try exact rfl)) | exact SVLe.refl | refine sle_i ?_ | refine sle_b ?_)
      all_goals first | exact (show nodupB _ = true from rfl) | exact Or.inr rfl | ((rw [List.take_of_length_le (by omega)] at h2; exact h2.symm))
theorem l25Is_ok (p : Prf) (hx : (p.nu.length : Int) ≤ 16777216) (hy : (p.wo.length : Int) ≤ 16777216) (hys : ∀ x ∈ p.wo, (x.length : Int) ≤ 16777216) : Does Try.prog 107 [.one (prB p)] [] (.one (boo (validP p))) [] := by
  refine does_of (k := 0) Try.func107 rfl Try.ntmps107 rfl rfl fun w F0 S0 ρ0 => ?_
  dsimp only [argT, argH]
  repeat' first
    | refine g_seq ?_
    | refine g_skip ?_
    | refine g_exit ?_
    | refine g_block ?_
    | refine g_reg ?_
    | refine g_if_t rfl ?_
    | refine g_if_f rfl ?_
    | refine o_nil ?_
    | refine q_s ?_
    | refine q_se ?_
    | refine q_b ?_
    | refine q_be rfl ?_
    | refine q_bn rfl ?_
    | refine q_le ?_
    | refine q_ce ?_
    | (apply p3; (first | exact pu1 | exact puL | exact puN | exact a_len_str rfl (fT rfl) | exact puC | exact a_add rfl rfl (by omega) (by omega) | exact puI); exact rfl)
    | (apply c4 0; exact callK1 (θ := []) (hD := (l00In_ok _ _ _)); exact rfl; exact rfl; exact rfl; (try dsimp only [SV.ren, C.ren, C.ren.all, tRen, GB.ren, calF, upOf, List.cons_append, List.nil_append, Nat.reduceAdd]))
    | (apply c4 0; exact callK1 (θ := []) (hD := (l03All_ok _ preB34 preB34)); exact rfl; exact rfl; exact rfl; (try dsimp only [SV.ren, C.ren, C.ren.all, tRen, GB.ren, calF, upOf, List.cons_append, List.nil_append, Nat.reduceAdd]))
    | refine o_no rfl rfl rfl rfl ?_
    | refine o_noN rfl rfl rfl ?_
    | (apply py3; exact rfl; exact rfl; (first | exact pu1 | exact puL | exact puN | exact a_len_str rfl (fT rfl) | exact puC | exact a_add rfl rfl (by omega) (by omega) | exact puI); exact rfl; exact rfl)
    | (apply cy4 0; exact rfl; exact rfl; exact callK1 (θ := []) (hD := (l00In_ok _ _ _)); exact rfl; exact rfl; exact rfl; exact rfl; (try dsimp only [SV.ren, C.ren, C.ren.all, tRen, GB.ren, calF, upOf, List.cons_append, List.nil_append, Nat.reduceAdd]))
    | (apply cy4 0; exact rfl; exact rfl; exact callK1 (θ := []) (hD := (l03All_ok _ preB34 preB34)); exact rfl; exact rfl; exact rfl; exact rfl; (try dsimp only [SV.ren, C.ren, C.ren.all, tRen, GB.ren, calF, upOf, List.cons_append, List.nil_append, Nat.reduceAdd]))
    | (refine o_gs rfl rfl (fun hc => ?_) (fun hc => ?_) <;> (try simp only [decide_eq_true_eq, decide_eq_false_iff_not, Bool.not_eq_true', Bool.not_eq_false', Bool.not_eq_true, Bool.not_eq_false, Bool.and_eq_true, Bool.or_eq_false_iff, Bool.not_not] at hc) <;> (try (first | contradiction | (exfalso; omega))))
    | (refine g_cond rfl (fun hc => ?_) (fun hc => ?_) <;> (try simp only [decide_eq_true_eq, decide_eq_false_iff_not, Bool.not_eq_true', Bool.not_eq_false', Bool.not_eq_true, Bool.not_eq_false, Bool.and_eq_true, Bool.or_eq_false_iff, Bool.not_not] at hc) <;> (try (first | contradiction | (exfalso; omega))))
  · repeat (first | refine g_ret ?_ | refine q_sr ?_ | refine q_br ?_ | refine q_lr ?_ | refine q_cr ?_)
    refine ends_id ?_
    refine endK [] (h2 := ?_) (h3 := ?_) (nd := ?_)
    all_goals (repeat' first | with_reducible exact SVLe.refl | exact SVLe.any | exact SVLe.one (.sh rfl) | exact SVLe.one (.nil (by decide)) | refine SVLe.agg ?_ | refine SVLe.tup ?_ | exact TLe.nil | refine TLe.cons ?_ ?_ | exact CsLe.nil | refine CsLe.cons ?_ ?_ | exact CLe.refl | exact CLe.sh rfl | exact CLe.nil (by decide) | refine cle_i ?_ | refine cle_b ?_ | exact trivial | refine And.intro ?_ ?_ | exact Or.inl rfl | exact Or.inr rfl | refine Or.inr (row_eq ?_) | (refine Or.inr (bx_eq rfl rfl ?_); (try dsimp only [C.ren, C.ren.all]); (try exact rfl)) | exact SVLe.refl | refine sle_i ?_ | refine sle_b ?_)
    all_goals first | exact (show nodupB _ = true from rfl) | exact Or.inr rfl | ((unfold validP; first | (simp [*]; done) | (rw [decide_eq_false] <;> first | rfl | omega | (simp; done)) | (rw [decide_eq_true] <;> first | rfl | omega | (simp [*]; done)) | (simp_all; done) | (simp_all; omega)))
  · repeat (first | refine g_ret ?_ | refine q_sr ?_ | refine q_br ?_ | refine q_lr ?_ | refine q_cr ?_)
    refine ends_id ?_
    refine endK [] (h2 := ?_) (h3 := ?_) (nd := ?_)
    all_goals (repeat' first | with_reducible exact SVLe.refl | exact SVLe.any | exact SVLe.one (.sh rfl) | exact SVLe.one (.nil (by decide)) | refine SVLe.agg ?_ | refine SVLe.tup ?_ | exact TLe.nil | refine TLe.cons ?_ ?_ | exact CsLe.nil | refine CsLe.cons ?_ ?_ | exact CLe.refl | exact CLe.sh rfl | exact CLe.nil (by decide) | refine cle_i ?_ | refine cle_b ?_ | exact trivial | refine And.intro ?_ ?_ | exact Or.inl rfl | exact Or.inr rfl | refine Or.inr (row_eq ?_) | (refine Or.inr (bx_eq rfl rfl ?_); (try dsimp only [C.ren, C.ren.all]); (try exact rfl)) | exact SVLe.refl | refine sle_i ?_ | refine sle_b ?_)
    all_goals first | exact (show nodupB _ = true from rfl) | exact Or.inr rfl | ((unfold validP; first | (simp [*]; done) | (rw [decide_eq_false] <;> first | rfl | omega | (simp; done)) | (rw [decide_eq_true] <;> first | rfl | omega | (simp [*]; done)) | (simp_all; done) | (simp_all; omega)))
  · repeat (first | refine g_ret ?_ | refine q_sr ?_ | refine q_br ?_ | refine q_lr ?_ | refine q_cr ?_)
    refine ends_id ?_
    refine endK [] (h2 := ?_) (h3 := ?_) (nd := ?_)
    all_goals (repeat' first | with_reducible exact SVLe.refl | exact SVLe.any | exact SVLe.one (.sh rfl) | exact SVLe.one (.nil (by decide)) | refine SVLe.agg ?_ | refine SVLe.tup ?_ | exact TLe.nil | refine TLe.cons ?_ ?_ | exact CsLe.nil | refine CsLe.cons ?_ ?_ | exact CLe.refl | exact CLe.sh rfl | exact CLe.nil (by decide) | refine cle_i ?_ | refine cle_b ?_ | exact trivial | refine And.intro ?_ ?_ | exact Or.inl rfl | exact Or.inr rfl | refine Or.inr (row_eq ?_) | (refine Or.inr (bx_eq rfl rfl ?_); (try dsimp only [C.ren, C.ren.all]); (try exact rfl)) | exact SVLe.refl | refine sle_i ?_ | refine sle_b ?_)
    all_goals first | exact (show nodupB _ = true from rfl) | exact Or.inr rfl | ((unfold validP; first | (simp [*]; done) | (rw [decide_eq_false] <;> first | rfl | omega | (simp; done)) | (rw [decide_eq_true] <;> first | rfl | omega | (simp [*]; done)) | (simp_all; done) | (simp_all; omega)))
  refine g_loop_id ?_
  refine loopK [0, 2] [] (fun i : Int => 0 ≤ i ∧ i ≤ p.nu.length ∧ (p.nu.take i.toNat).all (fun x => decide (-1000000000000 ≤ x ∧ x ≤ 1000000000000)) = true) (fun i => [(3, .one (int i))]) (fun _ => []) (fun i => (p.nu.length - i).toNat) (0 : Int) [] (hI := ?_) (hr := ?_)
  · exact ⟨by omega, by omega, rfl⟩
  · rintro i ⟨h0, h1, h2⟩
    dsimp only [List.cons_append, List.nil_append] at *
    skip
    repeat' first
      | refine g_seq ?_
      | refine g_skip ?_
      | refine g_exit ?_
      | refine g_block ?_
      | refine g_reg ?_
      | refine g_if_t rfl ?_
      | refine g_if_f rfl ?_
      | refine o_nil ?_
      | refine q_s ?_
      | refine q_se ?_
      | refine q_b ?_
      | refine q_be rfl ?_
      | refine q_bn rfl ?_
      | refine q_le ?_
      | refine q_ce ?_
      | (apply p3; (first | exact pu1 | exact puL | exact puN | exact a_len_str rfl (fT rfl) | exact puC | exact a_add rfl rfl (by omega) (by omega) | exact puI); exact rfl)
      | (apply c4 0; exact callK1 (θ := []) (hD := (l00In_ok _ _ _)); exact rfl; exact rfl; exact rfl; (try dsimp only [SV.ren, C.ren, C.ren.all, tRen, GB.ren, calF, upOf, List.cons_append, List.nil_append, Nat.reduceAdd]))
      | (apply c4 0; exact callK1 (θ := []) (hD := (l03All_ok _ preB34 preB34)); exact rfl; exact rfl; exact rfl; (try dsimp only [SV.ren, C.ren, C.ren.all, tRen, GB.ren, calF, upOf, List.cons_append, List.nil_append, Nat.reduceAdd]))
      | (refine o_gs rfl rfl (fun hc => ?_) (fun hc => ?_) <;> (try simp only [decide_eq_true_eq, decide_eq_false_iff_not, Bool.not_eq_true', Bool.not_eq_false', Bool.not_eq_true, Bool.not_eq_false, Bool.and_eq_true, Bool.or_eq_false_iff, Bool.not_not] at hc) <;> (try (first | contradiction | (exfalso; omega))))
      | (refine g_cond rfl (fun hc => ?_) (fun hc => ?_) <;> (try simp only [decide_eq_true_eq, decide_eq_false_iff_not, Bool.not_eq_true', Bool.not_eq_false', Bool.not_eq_true, Bool.not_eq_false, Bool.and_eq_true, Bool.or_eq_false_iff, Bool.not_not] at hc) <;> (try (first | contradiction | (exfalso; omega))))
    · have e : inAll (-1000000000000) 1000000000000 p.nu = false := by unfold inAll; rw [all_no _ _ i.toNat (by omega) (by rw [decide_eq_true_eq]; exact hc)]
      repeat (first | refine g_ret ?_ | refine q_sr ?_ | refine q_br ?_ | refine q_lr ?_ | refine q_cr ?_)
      refine ends_id ?_
      refine endK [] (h2 := ?_) (h3 := ?_) (nd := ?_)
      all_goals (repeat' first | with_reducible exact SVLe.refl | exact SVLe.any | exact SVLe.one (.sh rfl) | exact SVLe.one (.nil (by decide)) | refine SVLe.agg ?_ | refine SVLe.tup ?_ | exact TLe.nil | refine TLe.cons ?_ ?_ | exact CsLe.nil | refine CsLe.cons ?_ ?_ | exact CLe.refl | exact CLe.sh rfl | exact CLe.nil (by decide) | refine cle_i ?_ | refine cle_b ?_ | exact trivial | refine And.intro ?_ ?_ | exact Or.inl rfl | exact Or.inr rfl | refine Or.inr (row_eq ?_) | (refine Or.inr (bx_eq rfl rfl ?_); (try dsimp only [C.ren, C.ren.all]); (try exact rfl)) | exact SVLe.refl | refine sle_i ?_ | refine sle_b ?_)
      all_goals first | exact (show nodupB _ = true from rfl) | exact Or.inr rfl | ((unfold validP; rw [e]; simp))
    · refine q_again (i + 1) [] (by exact stk) ?_ ?_
      · exact ⟨by omega, by omega, all_snocI _ _ _ h0 (by omega) h2 (by rw [decide_eq_true_eq]; exact hc)⟩
      · omega
    · have e : inAll (-1000000000000) 1000000000000 p.nu = true := by unfold inAll; rw [List.take_of_length_le (by omega)] at h2; exact h2
      repeat (first | refine g_ret ?_ | refine q_sr ?_ | refine q_br ?_ | refine q_lr ?_ | refine q_cr ?_)
      refine ends_id ?_
      refine endK [] (h2 := ?_) (h3 := ?_) (nd := ?_)
      all_goals (repeat' first | with_reducible exact SVLe.refl | exact SVLe.any | exact SVLe.one (.sh rfl) | exact SVLe.one (.nil (by decide)) | refine SVLe.agg ?_ | refine SVLe.tup ?_ | exact TLe.nil | refine TLe.cons ?_ ?_ | exact CsLe.nil | refine CsLe.cons ?_ ?_ | exact CLe.refl | exact CLe.sh rfl | exact CLe.nil (by decide) | refine cle_i ?_ | refine cle_b ?_ | exact trivial | refine And.intro ?_ ?_ | exact Or.inl rfl | exact Or.inr rfl | refine Or.inr (row_eq ?_) | (refine Or.inr (bx_eq rfl rfl ?_); (try dsimp only [C.ren, C.ren.all]); (try exact rfl)) | exact SVLe.refl | refine sle_i ?_ | refine sle_b ?_)
      all_goals first | exact (show nodupB _ = true from rfl) | exact Or.inr rfl | ((unfold validP; rw [e, decide_eq_true (by omega)]; simp))
@[irreducible] def formP (p : Prf) (k n : Int) : Bool := validP p && decide (p.k = k ∧ (p.nu.length : Int) = n ∧ (p.wo.length : Int) = 0)
theorem proofOf_ok (m : Mach) (p : Prf) (k n : Int) (hm : (m.ru.length : Int) ≤ 16777216) (hx : (p.nu.length : Int) ≤ 16777216) (hy : (p.wo.length : Int) ≤ 16777216) (hys : ∀ x ∈ p.wo, (x.length : Int) ≤ 16777216) : Does Try.prog 72 [.agg (maC m), .agg (prC p), .one (int k), .one (int n)] [] (.one (boo (vMach m && formP p k n))) [] := by
  refine does_of (k := 0) Try.func72 rfl Try.ntmps72 rfl rfl fun w F0 S0 ρ0 => ?_
  dsimp only [argT, argH]
  repeat' first
    | refine g_seq ?_
    | refine g_skip ?_
    | refine g_exit ?_
    | refine g_block ?_
    | refine g_reg ?_
    | refine g_if_t rfl ?_
    | refine g_if_f rfl ?_
    | refine o_nil ?_
    | refine q_s ?_
    | refine q_se ?_
    | refine q_b ?_
    | refine q_be rfl ?_
    | refine q_bn rfl ?_
    | refine q_le ?_
    | refine q_ce ?_
    | (apply n3; exact a_new (gb := .bx _) rfl; exact rfl; (try dsimp only [List.map_cons, List.map_nil, scC, Nat.reduceAdd]))
    | (apply p3; (first | exact pu1 | exact puL | exact puC | exact a_eqS rfl rfl rfl | exact puN | exact a_len_str rfl (fT rfl)); exact rfl)
    | (apply c4 0; exact callK1 (θ := []) (hD := (ValidMachine_ok _ preB34)); exact rfl; exact rfl; exact rfl; (try dsimp only [SV.ren, C.ren, C.ren.all, tRen, GB.ren, calF, upOf, List.cons_append, List.nil_append, Nat.reduceAdd]))
    | (apply c4 0; exact callK1 (θ := []) (hD := (ValidProof_ok _ preB34 preB34 preB34)); exact rfl; exact rfl; exact rfl; (try dsimp only [SV.ren, C.ren, C.ren.all, tRen, GB.ren, calF, upOf, List.cons_append, List.nil_append, Nat.reduceAdd]))
    | refine o_no rfl rfl rfl rfl ?_
    | refine o_noN rfl rfl rfl ?_
    | (apply py3; exact rfl; exact rfl; (first | exact pu1 | exact puL | exact puC | exact a_eqS rfl rfl rfl | exact puN | exact a_len_str rfl (fT rfl)); exact rfl; exact rfl)
    | (apply ny3; exact rfl; exact rfl; exact a_new (gb := .bx _) rfl; exact rfl; exact rfl)
    | (apply cy4 0; exact rfl; exact rfl; exact callK1 (θ := []) (hD := (ValidMachine_ok _ preB34)); exact rfl; exact rfl; exact rfl; exact rfl; (try dsimp only [SV.ren, C.ren, C.ren.all, tRen, GB.ren, calF, upOf, List.cons_append, List.nil_append, Nat.reduceAdd]))
    | (apply cy4 0; exact rfl; exact rfl; exact callK1 (θ := []) (hD := (ValidProof_ok _ preB34 preB34 preB34)); exact rfl; exact rfl; exact rfl; exact rfl; (try dsimp only [SV.ren, C.ren, C.ren.all, tRen, GB.ren, calF, upOf, List.cons_append, List.nil_append, Nat.reduceAdd]))
    | (refine o_gs rfl rfl (fun hc => ?_) (fun hc => ?_) <;> (try simp only [decide_eq_true_eq, decide_eq_false_iff_not, Bool.not_eq_true', Bool.not_eq_false', Bool.not_eq_true, Bool.not_eq_false, Bool.and_eq_true, Bool.or_eq_false_iff, Bool.not_not] at hc) <;> (try (first | contradiction | (exfalso; omega))))
    | (refine g_cond rfl (fun hc => ?_) (fun hc => ?_) <;> (try simp only [decide_eq_true_eq, decide_eq_false_iff_not, Bool.not_eq_true', Bool.not_eq_false', Bool.not_eq_true, Bool.not_eq_false, Bool.and_eq_true, Bool.or_eq_false_iff, Bool.not_not] at hc) <;> (try (first | contradiction | (exfalso; omega))))
  all_goals
    repeat (first | refine g_ret ?_ | refine q_sr ?_ | refine q_br ?_ | refine q_lr ?_ | refine q_cr ?_)
    refine ends_id ?_
    refine endK [] (h2 := ?_) (h3 := ?_) (nd := ?_)
    all_goals (repeat' first | with_reducible exact SVLe.refl | exact SVLe.any | exact SVLe.one (.sh rfl) | exact SVLe.one (.nil (by decide)) | refine SVLe.agg ?_ | refine SVLe.tup ?_ | exact TLe.nil | refine TLe.cons ?_ ?_ | exact CsLe.nil | refine CsLe.cons ?_ ?_ | exact CLe.refl | exact CLe.sh rfl | exact CLe.nil (by decide) | refine cle_i ?_ | refine cle_b ?_ | exact trivial | refine And.intro ?_ ?_ | exact Or.inl rfl | exact Or.inr rfl | refine Or.inr (row_eq ?_) | (refine Or.inr (bx_eq rfl rfl ?_); (try dsimp only [C.ren, C.ren.all]); (try exact rfl)) | exact SVLe.refl | refine sle_i ?_ | refine sle_b ?_)
    all_goals first | exact (show nodupB _ = true from rfl) | exact Or.inr rfl | ((unfold formP; first | (simp [*]; done) | (rw [decide_eq_false] <;> first | rfl | omega | (simp; done)) | (rw [decide_eq_true] <;> first | rfl | omega | (simp [*]; done)) | (simp_all; done) | (simp_all; omega)))
theorem l25Form_ok (p : Prf) (k n : Int) (hx : (p.nu.length : Int) ≤ 16777216) (hy : (p.wo.length : Int) ≤ 16777216) (hys : ∀ x ∈ p.wo, (x.length : Int) ≤ 16777216) : Does Try.prog 66 [.one (prB p), .one (int k), .one (int n)] [] (.one (boo (formP p k n))) [] := by
  refine does_of (k := 0) Try.func66 rfl Try.ntmps66 rfl rfl fun w F0 S0 ρ0 => ?_
  dsimp only [argT, argH]
  repeat' first
    | refine g_seq ?_
    | refine g_skip ?_
    | refine g_exit ?_
    | refine g_block ?_
    | refine g_reg ?_
    | refine g_if_t rfl ?_
    | refine g_if_f rfl ?_
    | refine o_nil ?_
    | refine q_s ?_
    | refine q_se ?_
    | refine q_b ?_
    | refine q_be rfl ?_
    | refine q_bn rfl ?_
    | refine q_le ?_
    | refine q_ce ?_
    | (apply p3; (first | exact pu1 | exact puL | exact puC | exact a_eqS rfl rfl rfl | exact puN | exact a_len_str rfl (fT rfl)); exact rfl)
    | (apply c4 0; exact callK1 (θ := []) (hD := (l25Is_ok _ preB34 preB34 preB34)); exact rfl; exact rfl; exact rfl; (try dsimp only [SV.ren, C.ren, C.ren.all, tRen, GB.ren, calF, upOf, List.cons_append, List.nil_append, Nat.reduceAdd]))
    | refine o_no rfl rfl rfl rfl ?_
    | refine o_noN rfl rfl rfl ?_
    | (apply py3; exact rfl; exact rfl; (first | exact pu1 | exact puL | exact puC | exact a_eqS rfl rfl rfl | exact puN | exact a_len_str rfl (fT rfl)); exact rfl; exact rfl)
    | (apply cy4 0; exact rfl; exact rfl; exact callK1 (θ := []) (hD := (l25Is_ok _ preB34 preB34 preB34)); exact rfl; exact rfl; exact rfl; exact rfl; (try dsimp only [SV.ren, C.ren, C.ren.all, tRen, GB.ren, calF, upOf, List.cons_append, List.nil_append, Nat.reduceAdd]))
    | (refine o_gs rfl rfl (fun hc => ?_) (fun hc => ?_) <;> (try simp only [decide_eq_true_eq, decide_eq_false_iff_not, Bool.not_eq_true', Bool.not_eq_false', Bool.not_eq_true, Bool.not_eq_false, Bool.and_eq_true, Bool.or_eq_false_iff, Bool.not_not] at hc) <;> (try (first | contradiction | (exfalso; omega))))
    | (refine g_cond rfl (fun hc => ?_) (fun hc => ?_) <;> (try simp only [decide_eq_true_eq, decide_eq_false_iff_not, Bool.not_eq_true', Bool.not_eq_false', Bool.not_eq_true, Bool.not_eq_false, Bool.and_eq_true, Bool.or_eq_false_iff, Bool.not_not] at hc) <;> (try (first | contradiction | (exfalso; omega))))
  all_goals
    repeat (first | refine g_ret ?_ | refine q_sr ?_ | refine q_br ?_ | refine q_lr ?_ | refine q_cr ?_)
    refine ends_id ?_
    refine endK [] (h2 := ?_) (h3 := ?_) (nd := ?_)
    all_goals (repeat' first | with_reducible exact SVLe.refl | exact SVLe.any | exact SVLe.one (.sh rfl) | exact SVLe.one (.nil (by decide)) | refine SVLe.agg ?_ | refine SVLe.tup ?_ | exact TLe.nil | refine TLe.cons ?_ ?_ | exact CsLe.nil | refine CsLe.cons ?_ ?_ | exact CLe.refl | exact CLe.sh rfl | exact CLe.nil (by decide) | refine cle_i ?_ | refine cle_b ?_ | exact trivial | refine And.intro ?_ ?_ | exact Or.inl rfl | exact Or.inr rfl | refine Or.inr (row_eq ?_) | (refine Or.inr (bx_eq rfl rfl ?_); (try dsimp only [C.ren, C.ren.all]); (try exact rfl)) | exact SVLe.refl | refine sle_i ?_ | refine sle_b ?_)
    all_goals first | exact (show nodupB _ = true from rfl) | exact Or.inr rfl | ((unfold formP; first | (simp [*]; done) | (rw [decide_eq_false] <;> first | rfl | omega | (simp; done)) | (rw [decide_eq_true] <;> first | rfl | omega | (simp [*]; done)) | (simp_all; done) | (simp_all; omega)))
abbrev spanB (a b : Int) : Bool := decide ((0 ≤ a ∧ a ≤ 20000) ∧ 1 ≤ b ∧ b ≤ 20000 - a)
theorem spanOk_ok (a b : Int) : Does Try.prog 73 [.one (int a), .one (int b)] [] (.one (boo (spanB a b))) [] := by
  refine does_of (k := 0) Try.func73 rfl Try.ntmps73 rfl rfl fun w F0 S0 ρ0 => ?_
  dsimp only [argT, argH]
  repeat' first
    | refine g_seq ?_
    | refine g_skip ?_
    | refine g_exit ?_
    | refine g_block ?_
    | refine g_reg ?_
    | refine g_if_t rfl ?_
    | refine g_if_f rfl ?_
    | refine o_nil ?_
    | refine q_s ?_
    | refine q_se ?_
    | refine q_b ?_
    | refine q_be rfl ?_
    | refine q_bn rfl ?_
    | refine q_le ?_
    | refine q_ce ?_
    | (apply p3; (first | exact pu1 | exact puC | exact a_sub rfl rfl (by omega) (by omega)); exact rfl)
    | refine o_no rfl rfl rfl rfl ?_
    | refine o_noN rfl rfl rfl ?_
    | (apply py3; exact rfl; exact rfl; (first | exact pu1 | exact puC | exact a_sub rfl rfl (by omega) (by omega)); exact rfl; exact rfl)
    | (refine o_gs rfl rfl (fun hc => ?_) (fun hc => ?_) <;> (try simp only [decide_eq_true_eq, decide_eq_false_iff_not, Bool.not_eq_true', Bool.not_eq_false', Bool.not_eq_true, Bool.not_eq_false, Bool.and_eq_true, Bool.or_eq_false_iff, Bool.not_not] at hc) <;> (try (first | contradiction | (exfalso; omega))))
    | (refine g_cond rfl (fun hc => ?_) (fun hc => ?_) <;> (try simp only [decide_eq_true_eq, decide_eq_false_iff_not, Bool.not_eq_true', Bool.not_eq_false', Bool.not_eq_true, Bool.not_eq_false, Bool.and_eq_true, Bool.or_eq_false_iff, Bool.not_not] at hc) <;> (try (first | contradiction | (exfalso; omega))))
  all_goals
    repeat (first | refine g_ret ?_ | refine q_sr ?_ | refine q_br ?_ | refine q_lr ?_ | refine q_cr ?_)
    refine ends_id ?_
    refine endK [] (h2 := ?_) (h3 := ?_) (nd := ?_)
    all_goals (repeat' first | with_reducible exact SVLe.refl | exact SVLe.any | exact SVLe.one (.sh rfl) | exact SVLe.one (.nil (by decide)) | refine SVLe.agg ?_ | refine SVLe.tup ?_ | exact TLe.nil | refine TLe.cons ?_ ?_ | exact CsLe.nil | refine CsLe.cons ?_ ?_ | exact CLe.refl | exact CLe.sh rfl | exact CLe.nil (by decide) | refine cle_i ?_ | refine cle_b ?_ | exact trivial | refine And.intro ?_ ?_ | exact Or.inl rfl | exact Or.inr rfl | refine Or.inr (row_eq ?_) | (refine Or.inr (bx_eq rfl rfl ?_); (try dsimp only [C.ren, C.ren.all]); (try exact rfl)) | exact SVLe.refl | refine sle_i ?_ | refine sle_b ?_)
    all_goals first | exact (show nodupB _ = true from rfl) | exact Or.inr rfl | ((symm; first | (rw [decide_eq_true]; omega) | (rw [decide_eq_false]; omega) | (rw [decide_eq_decide]; omega) | simp [*]))
theorem formP_bd {p : Prf} {k n : Int} (h : formP p k n = true) : validP p = true ∧ p.k = k ∧ (p.nu.length : Int) = n ∧ (p.wo.length : Int) = 0 := by
  unfold formP at h
  simp only [Bool.and_eq_true, decide_eq_true_eq] at h
  exact h
theorem l25Spans_ok (p : Prf) (hf : formP p 3 3 = true) : Does Try.prog 67 [.one (prB p)] [] (.one (boo (spanB (p.nu.getD 0 0) (p.nu.getD 1 0)))) [] := by
  have hn := (formP_bd hf).2.2.1
  have e0 : ∀ h, p.nu[Int.toNat 0]'h = p.nu.getD 0 0 := fun h => get_getD p.nu 0 _ h
  have e1 : ∀ h, p.nu[Int.toNat 1]'h = p.nu.getD 1 0 := fun h => get_getD p.nu 0 _ h
  refine does_of (k := 0) Try.func67 rfl Try.ntmps67 rfl rfl fun w F0 S0 ρ0 => ?_
  dsimp only [argT, argH]
  repeat' first
    | refine g_seq ?_
    | refine g_skip ?_
    | refine g_exit ?_
    | refine g_block ?_
    | refine g_reg ?_
    | refine g_if_t rfl ?_
    | refine g_if_f rfl ?_
    | refine o_nil ?_
    | refine q_s ?_
    | refine q_se ?_
    | refine q_b ?_
    | refine q_be rfl ?_
    | refine q_bn rfl ?_
    | refine q_le ?_
    | refine q_ce ?_
    | (apply p3; exact a_pure (sv := .one _) rfl; exact rfl)
    | (apply g_drN (id := 1) okM [[], [0], [0, 1], [0, 1, 2], [0, 1, 2, 3], [0, 1, 2, 3, 4], [0, 1, 2, 3, 4, 5], [0, 1, 2, 3, 4, 5, 6], [0, 1, 2, 3, 4, 5, 6, 7], [0, 1, 2, 3, 4, 5, 6, 7, 8], [0, 1, 2, 3, 4, 5, 6, 7, 8, 9], [0, 1, 2, 3, 4, 5, 6, 7, 8, 9, 10], [0, 1, 2, 3, 4, 5, 6, 7, 8, 9, 10, 11], [0, 1, 2, 3, 4, 5, 6, 7, 8, 9, 10, 11, 12], [0, 1, 2, 3, 4, 5, 6, 7], [0, 1, 2, 3, 4, 5, 6, 7, 14], [0, 1, 2, 3, 4, 5, 6, 7, 14, 15], [0, 1, 2, 3, 4, 5, 6, 7, 14, 15, 16], [0, 1, 2, 3, 4, 5, 6, 7, 14, 15, 16, 17], [0, 1, 2, 3, 4, 5, 6, 7, 14, 15, 16, 17, 18], [0, 1, 2, 3, 4, 5, 6, 7, 14, 15, 16, 17, 18, 19], [0, 1, 2, 3, 4, 5, 6, 7, 8, 9, 10, 11, 12, 13, 14, 15, 16, 17, 18, 19, 20], [0, 1, 2, 3, 4, 5, 6, 7, 8, 9, 10, 11, 12, 13, 14, 15, 16, 17, 18, 19, 20, 21], [0, 1, 2, 3, 4, 5, 6, 7, 8, 9, 10, 11, 12, 13, 14, 15, 16, 17, 18, 19, 20, 21, 22]] [([], []), ([], []), ([], []), ([], []), ([], []), ([], []), ([], []), ([], []), ([], []), ([], []), ([], []), ([], []), ([], []), ([], []), ([], []), ([], []), ([], []), ([], []), ([], []), ([], []), ([], []), ([], []), ([], []), ([], [])] 0; (focus (all_goals refine dp 0 0 [] [] pu1 ?_; all_goals refine dp 1 1 [] [] (a_pure (sv := .one _) rfl) ?_; all_goals refine dp 2 3 [] [] (a_pure (sv := .one _) rfl) ?_; all_goals refine dp 3 7 [] [] puL ?_; all_goals refine dp 4 15 [] [] puI ?_; all_goals refine dp 5 31 [] [] puL ?_; all_goals refine dp 6 63 [] [] (callD1 (n := _) 0 (θ := []) (hD := (l00In_ok _ _ _))) ?_; all_goals (refine db 7 127 [] [] pu1 ?_ ?_ <;> (intro hc; first | cases hc | (try simp only [decide_eq_true_eq, decide_eq_false_iff_not, Bool.not_eq_true', Bool.not_eq_false', Bool.not_eq_true, Bool.not_eq_false, Bool.and_eq_true, Bool.or_eq_false_iff, Bool.not_not] at hc); first | contradiction | (exfalso; omega) | skip)); all_goals (first | refine dn 8 255 [17, 18, 19, 20, 21, 22, 23] [] ?_ | refine dpy 8 255 [17, 18, 19, 20, 21, 22, 23] [] pu1 ?_); all_goals (first | refine dn 9 511 [17, 18, 19, 20, 21, 22, 23] [] ?_ | refine dpy 9 511 [17, 18, 19, 20, 21, 22, 23] [] (a_pure (sv := .one _) rfl) ?_); all_goals (first | refine dn 10 1023 [17, 18, 19, 20, 21, 22, 23] [] ?_ | refine dpy 10 1023 [17, 18, 19, 20, 21, 22, 23] [] (a_pure (sv := .one _) rfl) ?_); all_goals (first | refine dn 11 2047 [17, 18, 19, 20, 21, 22, 23] [] ?_ | refine dpy 11 2047 [17, 18, 19, 20, 21, 22, 23] [] puL ?_); all_goals (first | refine dn 12 4095 [17, 18, 19, 20, 21, 22, 23] [] ?_ | refine dpy 12 4095 [17, 18, 19, 20, 21, 22, 23] [] puI ?_); all_goals (first | refine dn 13 8191 [17, 18, 19, 20, 21, 22, 23] [] ?_ | refine dpy 13 8191 [17, 18, 19, 20, 21, 22, 23] [] puL ?_); all_goals (first | refine dn 14 16320 [11, 12, 13, 14, 15, 16] [] ?_ | refine dpy 14 16320 [11, 12, 13, 14, 15, 16] [] pu1 ?_); all_goals (first | refine dn 15 32641 [11, 12, 13, 14, 15, 16] [] ?_ | refine dpy 15 32641 [11, 12, 13, 14, 15, 16] [] (a_pure (sv := .one _) rfl) ?_); all_goals (first | refine dn 16 65283 [11, 12, 13, 14, 15, 16] [] ?_ | refine dpy 16 65283 [11, 12, 13, 14, 15, 16] [] (a_pure (sv := .one _) rfl) ?_); all_goals (first | refine dn 17 130567 [11, 12, 13, 14, 15, 16] [] ?_ | refine dpy 17 130567 [11, 12, 13, 14, 15, 16] [] puL ?_); all_goals (first | refine dn 18 261135 [11, 12, 13, 14, 15, 16] [] ?_ | refine dpy 18 261135 [11, 12, 13, 14, 15, 16] [] puI ?_); all_goals (first | refine dn 19 522271 [11, 12, 13, 14, 15, 16] [] ?_ | refine dpy 19 522271 [11, 12, 13, 14, 15, 16] [] puL ?_); all_goals (first | refine dn 20 1044543 [11, 12, 13, 14, 15, 16] [] ?_ | refine dpy 20 1044543 [11, 12, 13, 14, 15, 16] [] (a_sub rfl rfl (by omega) (by omega)) ?_); all_goals (first | refine dn 21 2097151 [] [] ?_ | refine dpy 21 2097151 [] [] (callD1 (n := _) 0 (θ := []) (hD := (l00In_ok _ _ _))) ?_); all_goals refine dp 22 4194303 [] [] (a_pure (sv := .one _) rfl) ?_; all_goals refine dp 23 8388607 [] [] pu1 ?_; all_goals (refine d_nil ?_; dsimp only [selT, selH, trues, SV.ren, C.ren, C.ren.all, tRen, GB.ren, calF, upOf, List.cons_append, List.nil_append, Nat.reduceAdd, setRow, List.map_cons, List.map_nil, scC, List.set_cons_zero, List.set_cons_succ, List.take_succ_cons, List.take_zero, List.drop_succ_cons, List.drop_zero]))); any_goals kernel_rfl)
    | (refine o_gs rfl rfl (fun hc => ?_) (fun hc => ?_) <;> (try simp only [decide_eq_true_eq, decide_eq_false_iff_not, Bool.not_eq_true', Bool.not_eq_false', Bool.not_eq_true, Bool.not_eq_false, Bool.and_eq_true, Bool.or_eq_false_iff, Bool.not_not] at hc) <;> (try (first | contradiction | (exfalso; omega))))
    | (refine g_cond rfl (fun hc => ?_) (fun hc => ?_) <;> (try simp only [decide_eq_true_eq, decide_eq_false_iff_not, Bool.not_eq_true', Bool.not_eq_false', Bool.not_eq_true, Bool.not_eq_false, Bool.and_eq_true, Bool.or_eq_false_iff, Bool.not_not] at hc) <;> (try (first | contradiction | (exfalso; omega))))
  all_goals (simp only [e0, e1] at hc ⊢)
  all_goals
    repeat (first | refine g_ret ?_ | refine q_sr ?_ | refine q_br ?_ | refine q_lr ?_ | refine q_cr ?_)
    refine ends_id ?_
    refine endK [] (h2 := ?_) (h3 := ?_) (nd := ?_)
    all_goals (repeat' first | with_reducible exact SVLe.refl | exact SVLe.any | exact SVLe.one (.sh rfl) | exact SVLe.one (.nil (by decide)) | refine SVLe.agg ?_ | refine SVLe.tup ?_ | exact TLe.nil | refine TLe.cons ?_ ?_ | exact CsLe.nil | refine CsLe.cons ?_ ?_ | exact CLe.refl | exact CLe.sh rfl | exact CLe.nil (by decide) | refine cle_i ?_ | refine cle_b ?_ | exact trivial | refine And.intro ?_ ?_ | exact Or.inl rfl | exact Or.inr rfl | refine Or.inr (row_eq ?_) | (refine Or.inr (bx_eq rfl rfl ?_); (try dsimp only [C.ren, C.ren.all]); (try exact rfl)) | exact SVLe.refl | refine sle_i ?_ | refine sle_b ?_)
    all_goals first | exact (show nodupB _ = true from rfl) | exact Or.inr rfl | ((symm; unfold spanB; first | (rw [decide_eq_decide]; omega) | (rw [decide_eq_false]; omega)))
end Go.Proofs.Ytncccjpbaeaafaa
end
section
set_option linter.unusedVariables false
set_option linter.unusedSimpArgs false
set_option maxRecDepth 100000
set_option maxHeartbeats 4000000
namespace Go.Proofs.Ytncccjpbaeaafaa
open Go Foot
theorem preB32 {p : Prop} (h : p := by first | with_reducible assumption | omega | (simp only [List.length_append, List.length_cons, List.length_nil, List.length_set, List.length_replicate, List.length_take, List.length_drop, List.length_tail, List.length_dropLast, List.length_reverse] at *; omega) | exact mem_len (by assumption) (by omega) | (with_reducible refine Int.le_trans (Int.ofNat_le.2 (trimR_len _)) ?_; simp only [List.length_cons, List.length_tail]; omega) | (exact (ruAt_ok (by assumption) (by assumption) (by assumption)).2.1) | (exact (ruAt_ok (by assumption) (by assumption) (by assumption)).2.1) | (have := vMach_bd (by assumption); omega) | (simp only [mC_ch, mC_tu]; omega) | (with_reducible refine Int.le_trans (Int.ofNat_le.2 (pushL_len _ _)) ?_; simp only [List.length_dropLast]; omega) | exact (ask_ok (by assumption)).1 | exact (ask_ok (by assumption)).2.1 | exact (ask_ok (by assumption)).2.2.1 | exact (ask_ok (by assumption)).2.2.2 | trivial) : p := h
theorem sEqual_ok (xs ys : List Int) (hx : (xs.length : Int) ≤ 16777216) (hy : (ys.length : Int) ≤ 16777216) : Does Try.prog 114 [.one (shI xs), .one (shI ys)] [] (.one (boo (eqI xs ys))) [] := by
  refine does_of (k := 0) Try.func114 rfl Try.ntmps114 rfl rfl fun w F0 S0 ρ0 => ?_
  dsimp only [argT, argH]
  repeat' first
    | refine g_seq ?_
    | refine g_skip ?_
    | refine g_exit ?_
    | refine g_block ?_
    | refine g_reg ?_
    | refine g_if_t rfl ?_
    | refine g_if_f rfl ?_
    | refine o_nil ?_
    | refine q_s ?_
    | refine q_se ?_
    | refine q_b ?_
    | refine q_be rfl ?_
    | refine q_bn rfl ?_
    | refine q_le ?_
    | refine q_ce ?_
    | (apply p3; (first | exact pu1 | exact puN | exact a_len_str rfl (fT rfl) | exact a_ne rfl rfl | exact a_neS rfl rfl rfl | exact puC | exact a_add rfl rfl (by omega) (by omega)); exact rfl)
    | (apply g_drN (id := 6) okM [[], [], [0, 1], [0, 1, 2], [], [], [4, 5], [4, 5, 6], [0, 1, 2, 3, 4, 5, 6, 7]] [([], []), ([], []), ([], []), ([], []), ([], []), ([], []), ([], []), ([], []), ([], [])] 0; (focus (all_goals refine dp 0 0 [17, 20, 21, 22, 23] [] pu1 ?_; all_goals refine dp 1 0 [16, 20, 21, 22, 23] [] pu1 ?_; all_goals refine dp 2 3 [20, 21, 22, 23] [] puI ?_; all_goals refine dp 3 7 [20, 21, 22, 23] [] puL ?_; all_goals refine dp 4 0 [16, 17, 18, 19, 21] [] pu1 ?_; all_goals refine dp 5 0 [16, 17, 18, 19, 20] [] pu1 ?_; all_goals refine dp 6 3 [16, 17, 18, 19] [] puI ?_; all_goals refine dp 7 7 [16, 17, 18, 19] [] puL ?_; all_goals refine dp 8 255 [] [] (by first | exact a_ne rfl rfl | exact a_neS rfl rfl rfl) ?_; all_goals (refine d_nil ?_; dsimp only [selT, selH, trues, SV.ren, C.ren, C.ren.all, tRen, GB.ren, calF, upOf, List.cons_append, List.nil_append, Nat.reduceAdd, setRow, List.map_cons, List.map_nil, scC, List.set_cons_zero, List.set_cons_succ, List.take_succ_cons, List.take_zero, List.drop_succ_cons, List.drop_zero]))); any_goals kernel_rfl)
    | (refine o_gs rfl rfl (fun hc => ?_) (fun hc => ?_) <;> (try simp only [decide_eq_true_eq, decide_eq_false_iff_not, Bool.not_eq_true', Bool.not_eq_false', Bool.not_eq_true, Bool.not_eq_false, Bool.and_eq_true, Bool.or_eq_false_iff, Bool.not_not] at hc) <;> (try (first | contradiction | (exfalso; omega))))
    | (refine g_cond rfl (fun hc => ?_) (fun hc => ?_) <;> (try simp only [decide_eq_true_eq, decide_eq_false_iff_not, Bool.not_eq_true', Bool.not_eq_false', Bool.not_eq_true, Bool.not_eq_false, Bool.and_eq_true, Bool.or_eq_false_iff, Bool.not_not] at hc) <;> (try (first | contradiction | (exfalso; omega))))
  · repeat (first | refine g_ret ?_ | refine q_sr ?_ | refine q_br ?_ | refine q_lr ?_ | refine q_cr ?_)
    refine ends_id ?_
    refine endK [] (h2 := ?_) (h3 := ?_) (nd := ?_)
    all_goals (repeat' first | with_reducible exact SVLe.refl | exact SVLe.any | exact SVLe.one (.sh rfl) | exact SVLe.one (.nil (by decide)) | refine SVLe.agg ?_ | refine SVLe.tup ?_ | exact TLe.nil | refine TLe.cons ?_ ?_ | exact CsLe.nil | refine CsLe.cons ?_ ?_ | exact CLe.refl | exact CLe.sh rfl | exact CLe.nil (by decide) | refine cle_i ?_ | refine cle_b ?_ | exact trivial | refine And.intro ?_ ?_ | exact Or.inl rfl | exact Or.inr rfl | refine Or.inr (row_eq ?_) | (refine Or.inr (bx_eq rfl rfl ?_); (try dsimp only [C.ren, C.ren.all]); (try exact rfl)) | exact SVLe.refl | refine sle_i ?_ | refine sle_b ?_)
    all_goals first | exact (show nodupB _ = true from rfl) | exact Or.inr rfl | ((symm; unfold eqI; rw [decide_eq_false_iff_not]; rintro rfl; omega))
  refine g_loop_id ?_
  refine loopK [0, 1, 4, 12] [] (fun i : Int => 0 ≤ i ∧ i ≤ xs.length ∧ xs.take i.toNat = ys.take i.toNat) (fun i => [(13, .one (int i))]) (fun _ => []) (fun i => (xs.length - i).toNat) (0 : Int) [] (hI := ?_) (hr := ?_)
  · exact ⟨by simp, by simp, by simp⟩
  · rintro i ⟨h0, h1, h2⟩
    dsimp only [List.cons_append, List.nil_append] at *
    skip
    repeat' first
      | refine g_seq ?_
      | refine g_skip ?_
      | refine g_exit ?_
      | refine g_block ?_
      | refine g_reg ?_
      | refine g_if_t rfl ?_
      | refine g_if_f rfl ?_
      | refine o_nil ?_
      | refine q_s ?_
      | refine q_se ?_
      | refine q_b ?_
      | refine q_be rfl ?_
      | refine q_bn rfl ?_
      | refine q_le ?_
      | refine q_ce ?_
      | (apply p3; (first | exact pu1 | exact puC | exact a_add rfl rfl (by omega) (by omega)); exact rfl)
      | (apply g_drN (id := 6) okM [[], [], [0, 1], [0, 1, 2], [], [], [4, 5], [4, 5, 6], [0, 1, 2, 3, 4, 5, 6, 7]] [([], []), ([], []), ([], []), ([], []), ([], []), ([], []), ([], []), ([], []), ([], [])] 0; (focus (all_goals refine dp 0 0 [17, 20, 21, 22, 23] [] pu1 ?_; all_goals refine dp 1 0 [16, 20, 21, 22, 23] [] pu1 ?_; all_goals refine dp 2 3 [20, 21, 22, 23] [] puI ?_; all_goals refine dp 3 7 [20, 21, 22, 23] [] puL ?_; all_goals refine dp 4 0 [16, 17, 18, 19, 21] [] pu1 ?_; all_goals refine dp 5 0 [16, 17, 18, 19, 20] [] pu1 ?_; all_goals refine dp 6 3 [16, 17, 18, 19] [] puI ?_; all_goals refine dp 7 7 [16, 17, 18, 19] [] puL ?_; all_goals refine dp 8 255 [] [] (by first | exact a_ne rfl rfl | exact a_neS rfl rfl rfl) ?_; all_goals (refine d_nil ?_; dsimp only [selT, selH, trues, SV.ren, C.ren, C.ren.all, tRen, GB.ren, calF, upOf, List.cons_append, List.nil_append, Nat.reduceAdd, setRow, List.map_cons, List.map_nil, scC, List.set_cons_zero, List.set_cons_succ, List.take_succ_cons, List.take_zero, List.drop_succ_cons, List.drop_zero]))); any_goals kernel_rfl)
      | (refine o_gs rfl rfl (fun hc => ?_) (fun hc => ?_) <;> (try simp only [decide_eq_true_eq, decide_eq_false_iff_not, Bool.not_eq_true', Bool.not_eq_false', Bool.not_eq_true, Bool.not_eq_false, Bool.and_eq_true, Bool.or_eq_false_iff, Bool.not_not] at hc) <;> (try (first | contradiction | (exfalso; omega))))
      | (refine g_cond rfl (fun hc => ?_) (fun hc => ?_) <;> (try simp only [decide_eq_true_eq, decide_eq_false_iff_not, Bool.not_eq_true', Bool.not_eq_false', Bool.not_eq_true, Bool.not_eq_false, Bool.and_eq_true, Bool.or_eq_false_iff, Bool.not_not] at hc) <;> (try (first | contradiction | (exfalso; omega))))
    · repeat (first | refine g_ret ?_ | refine q_sr ?_ | refine q_br ?_ | refine q_lr ?_ | refine q_cr ?_)
      refine ends_id ?_
      refine endK [] (h2 := ?_) (h3 := ?_) (nd := ?_)
      all_goals (repeat' first | with_reducible exact SVLe.refl | exact SVLe.any | exact SVLe.one (.sh rfl) | exact SVLe.one (.nil (by decide)) | refine SVLe.agg ?_ | refine SVLe.tup ?_ | exact TLe.nil | refine TLe.cons ?_ ?_ | exact CsLe.nil | refine CsLe.cons ?_ ?_ | exact CLe.refl | exact CLe.sh rfl | exact CLe.nil (by decide) | refine cle_i ?_ | refine cle_b ?_ | exact trivial | refine And.intro ?_ ?_ | exact Or.inl rfl | exact Or.inr rfl | refine Or.inr (row_eq ?_) | (refine Or.inr (bx_eq rfl rfl ?_); (try dsimp only [C.ren, C.ren.all]); (try exact rfl)) | exact SVLe.refl | refine sle_i ?_ | refine sle_b ?_)
      all_goals first | exact (show nodupB _ = true from rfl) | exact Or.inr rfl | ((symm; unfold eqI; rw [decide_eq_false_iff_not]; rintro rfl; simp_all))
    · refine q_again (i + 1) [] (by exact stk) ?_ ?_
      · exact ⟨by omega, by omega, take_next h0 (by omega) (by omega) h2 (by simp_all)⟩
      · omega
    · have hl := take_end (by omega) (by omega) h2
      repeat (first | refine g_ret ?_ | refine q_sr ?_ | refine q_br ?_ | refine q_lr ?_ | refine q_cr ?_)
      refine ends_id ?_
      refine endK [] (h2 := ?_) (h3 := ?_) (nd := ?_)
      all_goals (repeat' first | with_reducible exact SVLe.refl | exact SVLe.any | exact SVLe.one (.sh rfl) | exact SVLe.one (.nil (by decide)) | refine SVLe.agg ?_ | refine SVLe.tup ?_ | exact TLe.nil | refine TLe.cons ?_ ?_ | exact CsLe.nil | refine CsLe.cons ?_ ?_ | exact CLe.refl | exact CLe.sh rfl | exact CLe.nil (by decide) | refine cle_i ?_ | refine cle_b ?_ | exact trivial | refine And.intro ?_ ?_ | exact Or.inl rfl | exact Or.inr rfl | refine Or.inr (row_eq ?_) | (refine Or.inr (bx_eq rfl rfl ?_); (try dsimp only [C.ren, C.ren.all]); (try exact rfl)) | exact SVLe.refl | refine sle_i ?_ | refine sle_b ?_)
      all_goals first | exact (show nodupB _ = true from rfl) | exact Or.inr rfl | ((symm; unfold eqI; rw [decide_eq_true_eq]; exact hl))
theorem l00Same_ok (xs ys : List Int) (hx : (xs.length : Int) ≤ 16777216) (hy : (ys.length : Int) ≤ 16777216) : Does Try.prog 136 [.one (shI xs), .one (shI ys)] [] (.one (boo (eqI xs ys))) [] := by
  refine does_of (k := 0) Try.func136 rfl Try.ntmps136 rfl rfl fun w F0 S0 ρ0 => ?_
  dsimp only [argT, argH]
  repeat' first
    | refine g_seq ?_
    | refine g_skip ?_
    | refine g_exit ?_
    | refine g_block ?_
    | refine g_reg ?_
    | refine g_if_t rfl ?_
    | refine g_if_f rfl ?_
    | refine o_nil ?_
    | refine q_s ?_
    | refine q_se ?_
    | refine q_b ?_
    | refine q_be rfl ?_
    | refine q_bn rfl ?_
    | refine q_le ?_
    | refine q_ce ?_
    | (apply p3; (first | exact pu1 | exact puN | exact a_len_str rfl (fT rfl) | exact a_ne rfl rfl | exact a_neS rfl rfl rfl | exact puC | exact a_add rfl rfl (by omega) (by omega)); exact rfl)
    | (apply g_drN (id := 6) okM [[], [], [0, 1], [0, 1, 2], [], [], [4, 5], [4, 5, 6], [0, 1, 2, 3, 4, 5, 6, 7]] [([], []), ([], []), ([], []), ([], []), ([], []), ([], []), ([], []), ([], []), ([], [])] 0; (focus (all_goals refine dp 0 0 [18, 21, 22, 23, 24] [] pu1 ?_; all_goals refine dp 1 0 [17, 21, 22, 23, 24] [] pu1 ?_; all_goals refine dp 2 3 [21, 22, 23, 24] [] puI ?_; all_goals refine dp 3 7 [21, 22, 23, 24] [] puL ?_; all_goals refine dp 4 0 [17, 18, 19, 20, 22] [] pu1 ?_; all_goals refine dp 5 0 [17, 18, 19, 20, 21] [] pu1 ?_; all_goals refine dp 6 3 [17, 18, 19, 20] [] puI ?_; all_goals refine dp 7 7 [17, 18, 19, 20] [] puL ?_; all_goals refine dp 8 255 [] [] (by first | exact a_ne rfl rfl | exact a_neS rfl rfl rfl) ?_; all_goals (refine d_nil ?_; dsimp only [selT, selH, trues, SV.ren, C.ren, C.ren.all, tRen, GB.ren, calF, upOf, List.cons_append, List.nil_append, Nat.reduceAdd, setRow, List.map_cons, List.map_nil, scC, List.set_cons_zero, List.set_cons_succ, List.take_succ_cons, List.take_zero, List.drop_succ_cons, List.drop_zero]))); any_goals kernel_rfl)
    | (refine o_gs rfl rfl (fun hc => ?_) (fun hc => ?_) <;> (try simp only [decide_eq_true_eq, decide_eq_false_iff_not, Bool.not_eq_true', Bool.not_eq_false', Bool.not_eq_true, Bool.not_eq_false, Bool.and_eq_true, Bool.or_eq_false_iff, Bool.not_not] at hc) <;> (try (first | contradiction | (exfalso; omega))))
    | (refine g_cond rfl (fun hc => ?_) (fun hc => ?_) <;> (try simp only [decide_eq_true_eq, decide_eq_false_iff_not, Bool.not_eq_true', Bool.not_eq_false', Bool.not_eq_true, Bool.not_eq_false, Bool.and_eq_true, Bool.or_eq_false_iff, Bool.not_not] at hc) <;> (try (first | contradiction | (exfalso; omega))))
  · repeat (first | refine g_ret ?_ | refine q_sr ?_ | refine q_br ?_ | refine q_lr ?_ | refine q_cr ?_)
    refine ends_id ?_
    refine endK [] (h2 := ?_) (h3 := ?_) (nd := ?_)
    all_goals (repeat' first | with_reducible exact SVLe.refl | exact SVLe.any | exact SVLe.one (.sh rfl) | exact SVLe.one (.nil (by decide)) | refine SVLe.agg ?_ | refine SVLe.tup ?_ | exact TLe.nil | refine TLe.cons ?_ ?_ | exact CsLe.nil | refine CsLe.cons ?_ ?_ | exact CLe.refl | exact CLe.sh rfl | exact CLe.nil (by decide) | refine cle_i ?_ | refine cle_b ?_ | exact trivial | refine And.intro ?_ ?_ | exact Or.inl rfl | exact Or.inr rfl | refine Or.inr (row_eq ?_) | (refine Or.inr (bx_eq rfl rfl ?_); (try dsimp only [C.ren, C.ren.all]); (try exact rfl)) | exact SVLe.refl | refine sle_i ?_ | refine sle_b ?_)
    all_goals first | exact (show nodupB _ = true from rfl) | exact Or.inr rfl | ((symm; unfold eqI; rw [decide_eq_false_iff_not]; rintro rfl; omega))
  refine g_loop_id ?_
  refine loopK [0, 1, 4] [] (fun i : Int => 0 ≤ i ∧ i ≤ xs.length ∧ xs.take i.toNat = ys.take i.toNat) (fun i => [(5, .one (int i))]) (fun _ => []) (fun i => (xs.length - i).toNat) (0 : Int) [] (hI := ?_) (hr := ?_)
  · exact ⟨by simp, by simp, by simp⟩
  · rintro i ⟨h0, h1, h2⟩
    dsimp only [List.cons_append, List.nil_append] at *
    skip
    repeat' first
      | refine g_seq ?_
      | refine g_skip ?_
      | refine g_exit ?_
      | refine g_block ?_
      | refine g_reg ?_
      | refine g_if_t rfl ?_
      | refine g_if_f rfl ?_
      | refine o_nil ?_
      | refine q_s ?_
      | refine q_se ?_
      | refine q_b ?_
      | refine q_be rfl ?_
      | refine q_bn rfl ?_
      | refine q_le ?_
      | refine q_ce ?_
      | (apply p3; (first | exact pu1 | exact puN | exact a_len_str rfl (fT rfl) | exact puC | exact a_add rfl rfl (by omega) (by omega)); exact rfl)
      | (apply g_drN (id := 6) okM [[], [], [0, 1], [0, 1, 2], [], [], [4, 5], [4, 5, 6], [0, 1, 2, 3, 4, 5, 6, 7]] [([], []), ([], []), ([], []), ([], []), ([], []), ([], []), ([], []), ([], []), ([], [])] 0; (focus (all_goals refine dp 0 0 [18, 21, 22, 23, 24] [] pu1 ?_; all_goals refine dp 1 0 [17, 21, 22, 23, 24] [] pu1 ?_; all_goals refine dp 2 3 [21, 22, 23, 24] [] puI ?_; all_goals refine dp 3 7 [21, 22, 23, 24] [] puL ?_; all_goals refine dp 4 0 [17, 18, 19, 20, 22] [] pu1 ?_; all_goals refine dp 5 0 [17, 18, 19, 20, 21] [] pu1 ?_; all_goals refine dp 6 3 [17, 18, 19, 20] [] puI ?_; all_goals refine dp 7 7 [17, 18, 19, 20] [] puL ?_; all_goals refine dp 8 255 [] [] (by first | exact a_ne rfl rfl | exact a_neS rfl rfl rfl) ?_; all_goals (refine d_nil ?_; dsimp only [selT, selH, trues, SV.ren, C.ren, C.ren.all, tRen, GB.ren, calF, upOf, List.cons_append, List.nil_append, Nat.reduceAdd, setRow, List.map_cons, List.map_nil, scC, List.set_cons_zero, List.set_cons_succ, List.take_succ_cons, List.take_zero, List.drop_succ_cons, List.drop_zero]))); any_goals kernel_rfl)
      | (refine o_gs rfl rfl (fun hc => ?_) (fun hc => ?_) <;> (try simp only [decide_eq_true_eq, decide_eq_false_iff_not, Bool.not_eq_true', Bool.not_eq_false', Bool.not_eq_true, Bool.not_eq_false, Bool.and_eq_true, Bool.or_eq_false_iff, Bool.not_not] at hc) <;> (try (first | contradiction | (exfalso; omega))))
      | (refine g_cond rfl (fun hc => ?_) (fun hc => ?_) <;> (try simp only [decide_eq_true_eq, decide_eq_false_iff_not, Bool.not_eq_true', Bool.not_eq_false', Bool.not_eq_true, Bool.not_eq_false, Bool.and_eq_true, Bool.or_eq_false_iff, Bool.not_not] at hc) <;> (try (first | contradiction | (exfalso; omega))))
    · repeat (first | refine g_ret ?_ | refine q_sr ?_ | refine q_br ?_ | refine q_lr ?_ | refine q_cr ?_)
      refine ends_id ?_
      refine endK [] (h2 := ?_) (h3 := ?_) (nd := ?_)
      all_goals (repeat' first | with_reducible exact SVLe.refl | exact SVLe.any | exact SVLe.one (.sh rfl) | exact SVLe.one (.nil (by decide)) | refine SVLe.agg ?_ | refine SVLe.tup ?_ | exact TLe.nil | refine TLe.cons ?_ ?_ | exact CsLe.nil | refine CsLe.cons ?_ ?_ | exact CLe.refl | exact CLe.sh rfl | exact CLe.nil (by decide) | refine cle_i ?_ | refine cle_b ?_ | exact trivial | refine And.intro ?_ ?_ | exact Or.inl rfl | exact Or.inr rfl | refine Or.inr (row_eq ?_) | (refine Or.inr (bx_eq rfl rfl ?_); (try dsimp only [C.ren, C.ren.all]); (try exact rfl)) | exact SVLe.refl | refine sle_i ?_ | refine sle_b ?_)
      all_goals first | exact (show nodupB _ = true from rfl) | exact Or.inr rfl | ((symm; unfold eqI; rw [decide_eq_false_iff_not]; rintro rfl; simp_all))
    · refine q_again (i + 1) [] (by exact stk) ?_ ?_
      · exact ⟨by omega, by omega, take_next h0 (by omega) (by omega) h2 (by simp_all)⟩
      · omega
    · have hl := take_end (by omega) (by omega) h2
      repeat (first | refine g_ret ?_ | refine q_sr ?_ | refine q_br ?_ | refine q_lr ?_ | refine q_cr ?_)
      refine ends_id ?_
      refine endK [] (h2 := ?_) (h3 := ?_) (nd := ?_)
      all_goals (repeat' first | with_reducible exact SVLe.refl | exact SVLe.any | exact SVLe.one (.sh rfl) | exact SVLe.one (.nil (by decide)) | refine SVLe.agg ?_ | refine SVLe.tup ?_ | exact TLe.nil | refine TLe.cons ?_ ?_ | exact CsLe.nil | refine CsLe.cons ?_ ?_ | exact CLe.refl | exact CLe.sh rfl | exact CLe.nil (by decide) | refine cle_i ?_ | refine cle_b ?_ | exact trivial | refine And.intro ?_ ?_ | exact Or.inl rfl | exact Or.inr rfl | refine Or.inr (row_eq ?_) | (refine Or.inr (bx_eq rfl rfl ?_); (try dsimp only [C.ren, C.ren.all]); (try exact rfl)) | exact SVLe.refl | refine sle_i ?_ | refine sle_b ?_)
      all_goals first | exact (show nodupB _ = true from rfl) | exact Or.inr rfl | ((symm; unfold eqI; rw [decide_eq_true_eq]; exact hl))
/-- The symbol at a place. -/
@[irreducible] def symAt (l : List Int) (k : Int) : Int := l.getD k.toNat 0
theorem symbolAt_ok (l : List Int) (k : Int) (h0 : 0 ≤ k) (hx : (l.length : Int) ≤ 16777216) : Does Try.prog 116 [.one (shI l), .one (int k)] [] (.one (int (symAt l k))) [] := by
  refine does_of (k := 0) Try.func116 rfl Try.ntmps116 rfl rfl fun w F0 S0 ρ0 => ?_
  dsimp only [argT, argH]
  repeat' first
    | refine g_seq ?_
    | refine g_skip ?_
    | refine g_exit ?_
    | refine g_block ?_
    | refine g_reg ?_
    | refine g_if_t rfl ?_
    | refine g_if_f rfl ?_
    | refine o_nil ?_
    | refine q_s ?_
    | refine q_se ?_
    | refine q_b ?_
    | refine q_be rfl ?_
    | refine q_bn rfl ?_
    | refine q_le ?_
    | refine q_ce ?_
    | (apply p3; (first | exact pu1 | exact puL | exact puN | exact a_len_str rfl (fT rfl) | exact puC | exact puI); exact rfl)
    | (refine o_gs rfl rfl (fun hc => ?_) (fun hc => ?_) <;> (try simp only [decide_eq_true_eq, decide_eq_false_iff_not, Bool.not_eq_true', Bool.not_eq_false', Bool.not_eq_true, Bool.not_eq_false, Bool.and_eq_true, Bool.or_eq_false_iff, Bool.not_not] at hc) <;> (try (first | contradiction | (exfalso; omega))))
    | (refine g_cond rfl (fun hc => ?_) (fun hc => ?_) <;> (try simp only [decide_eq_true_eq, decide_eq_false_iff_not, Bool.not_eq_true', Bool.not_eq_false', Bool.not_eq_true, Bool.not_eq_false, Bool.and_eq_true, Bool.or_eq_false_iff, Bool.not_not] at hc) <;> (try (first | contradiction | (exfalso; omega))))
  · repeat (first | refine g_ret ?_ | refine q_sr ?_ | refine q_br ?_ | refine q_lr ?_ | refine q_cr ?_)
    refine ends_id ?_
    refine endK [] (h2 := ?_) (h3 := ?_) (nd := ?_)
    all_goals (repeat' first | with_reducible exact SVLe.refl | exact SVLe.any | exact SVLe.one (.sh rfl) | exact SVLe.one (.nil (by decide)) | refine SVLe.agg ?_ | refine SVLe.tup ?_ | exact TLe.nil | refine TLe.cons ?_ ?_ | exact CsLe.nil | refine CsLe.cons ?_ ?_ | exact CLe.refl | exact CLe.sh rfl | exact CLe.nil (by decide) | refine cle_i ?_ | refine cle_b ?_ | exact trivial | refine And.intro ?_ ?_ | exact Or.inl rfl | exact Or.inr rfl | refine Or.inr (row_eq ?_) | (refine Or.inr (bx_eq rfl rfl ?_); (try dsimp only [C.ren, C.ren.all]); (try exact rfl)) | exact SVLe.refl | refine sle_i ?_ | refine sle_b ?_)
    all_goals first | exact (show nodupB _ = true from rfl) | exact Or.inr rfl | ((unfold symAt; rw [List.getD_eq_getElem?_getD, List.getElem?_eq_none (by omega)]; rfl))
  · repeat (first | refine g_ret ?_ | refine q_sr ?_ | refine q_br ?_ | refine q_lr ?_ | refine q_cr ?_)
    refine ends_id ?_
    refine endK [] (h2 := ?_) (h3 := ?_) (nd := ?_)
    all_goals (repeat' first | with_reducible exact SVLe.refl | exact SVLe.any | exact SVLe.one (.sh rfl) | exact SVLe.one (.nil (by decide)) | refine SVLe.agg ?_ | refine SVLe.tup ?_ | exact TLe.nil | refine TLe.cons ?_ ?_ | exact CsLe.nil | refine CsLe.cons ?_ ?_ | exact CLe.refl | exact CLe.sh rfl | exact CLe.nil (by decide) | refine cle_i ?_ | refine cle_b ?_ | exact trivial | refine And.intro ?_ ?_ | exact Or.inl rfl | exact Or.inr rfl | refine Or.inr (row_eq ?_) | (refine Or.inr (bx_eq rfl rfl ?_); (try dsimp only [C.ren, C.ren.all]); (try exact rfl)) | exact SVLe.refl | refine sle_i ?_ | refine sle_b ?_)
    all_goals first | exact (show nodupB _ = true from rfl) | exact Or.inr rfl | ((unfold symAt; rw [List.getD_eq_getElem?_getD, List.getElem?_eq_getElem (by omega)]; rfl))
theorem l13Cell_ok (l : List Int) (k : Int) (h0 : 0 ≤ k) (hx : (l.length : Int) ≤ 16777216) : Does Try.prog 153 [.one (shI l), .one (int k)] [] (.one (int (symAt l k))) [] := by
  refine does_of (k := 0) Try.func153 rfl Try.ntmps153 rfl rfl fun w F0 S0 ρ0 => ?_
  dsimp only [argT, argH]
  repeat' first
    | refine g_seq ?_
    | refine g_skip ?_
    | refine g_exit ?_
    | refine g_block ?_
    | refine g_reg ?_
    | refine g_if_t rfl ?_
    | refine g_if_f rfl ?_
    | refine o_nil ?_
    | refine q_s ?_
    | refine q_se ?_
    | refine q_b ?_
    | refine q_be rfl ?_
    | refine q_bn rfl ?_
    | refine q_le ?_
    | refine q_ce ?_
    | (apply p3; (first | exact pu1 | exact puL | exact puN | exact a_len_str rfl (fT rfl) | exact puC | exact puI); exact rfl)
    | (refine o_gs rfl rfl (fun hc => ?_) (fun hc => ?_) <;> (try simp only [decide_eq_true_eq, decide_eq_false_iff_not, Bool.not_eq_true', Bool.not_eq_false', Bool.not_eq_true, Bool.not_eq_false, Bool.and_eq_true, Bool.or_eq_false_iff, Bool.not_not] at hc) <;> (try (first | contradiction | (exfalso; omega))))
    | (refine g_cond rfl (fun hc => ?_) (fun hc => ?_) <;> (try simp only [decide_eq_true_eq, decide_eq_false_iff_not, Bool.not_eq_true', Bool.not_eq_false', Bool.not_eq_true, Bool.not_eq_false, Bool.and_eq_true, Bool.or_eq_false_iff, Bool.not_not] at hc) <;> (try (first | contradiction | (exfalso; omega))))
  · repeat (first | refine g_ret ?_ | refine q_sr ?_ | refine q_br ?_ | refine q_lr ?_ | refine q_cr ?_)
    refine ends_id ?_
    refine endK [] (h2 := ?_) (h3 := ?_) (nd := ?_)
    all_goals (repeat' first | with_reducible exact SVLe.refl | exact SVLe.any | exact SVLe.one (.sh rfl) | exact SVLe.one (.nil (by decide)) | refine SVLe.agg ?_ | refine SVLe.tup ?_ | exact TLe.nil | refine TLe.cons ?_ ?_ | exact CsLe.nil | refine CsLe.cons ?_ ?_ | exact CLe.refl | exact CLe.sh rfl | exact CLe.nil (by decide) | refine cle_i ?_ | refine cle_b ?_ | exact trivial | refine And.intro ?_ ?_ | exact Or.inl rfl | exact Or.inr rfl | refine Or.inr (row_eq ?_) | (refine Or.inr (bx_eq rfl rfl ?_); (try dsimp only [C.ren, C.ren.all]); (try exact rfl)) | exact SVLe.refl | refine sle_i ?_ | refine sle_b ?_)
    all_goals first | exact (show nodupB _ = true from rfl) | exact Or.inr rfl | ((unfold symAt; rw [List.getD_eq_getElem?_getD, List.getElem?_eq_getElem (by omega)]; rfl))
  · repeat (first | refine g_ret ?_ | refine q_sr ?_ | refine q_br ?_ | refine q_lr ?_ | refine q_cr ?_)
    refine ends_id ?_
    refine endK [] (h2 := ?_) (h3 := ?_) (nd := ?_)
    all_goals (repeat' first | with_reducible exact SVLe.refl | exact SVLe.any | exact SVLe.one (.sh rfl) | exact SVLe.one (.nil (by decide)) | refine SVLe.agg ?_ | refine SVLe.tup ?_ | exact TLe.nil | refine TLe.cons ?_ ?_ | exact CsLe.nil | refine CsLe.cons ?_ ?_ | exact CLe.refl | exact CLe.sh rfl | exact CLe.nil (by decide) | refine cle_i ?_ | refine cle_b ?_ | exact trivial | refine And.intro ?_ ?_ | exact Or.inl rfl | exact Or.inr rfl | refine Or.inr (row_eq ?_) | (refine Or.inr (bx_eq rfl rfl ?_); (try dsimp only [C.ren, C.ren.all]); (try exact rfl)) | exact SVLe.refl | refine sle_i ?_ | refine sle_b ?_)
    all_goals first | exact (show nodupB _ = true from rfl) | exact Or.inr rfl | ((unfold symAt; rw [List.getD_eq_getElem?_getD, List.getElem?_eq_none (by omega)]; rfl))
/-- The same symbols at the beginning. -/
@[irreducible] def near (a b : List Int) (k : Int) : Bool := (List.range k.toNat).all fun i => decide (symAt a i = symAt b i)
theorem near_no {a b : List Int} {k i : Int} (h0 : 0 ≤ i) (h : i < k) (hn : ¬ symAt a i = symAt b i) : near a b k = false := by
  unfold near
  rw [List.all_eq_false]
  exact ⟨i.toNat, by simp; omega, by rw [show ((i.toNat : Nat) : Int) = i by omega]; simpa using hn⟩
theorem near_next {a b : List Int} {i : Int} (h0 : 0 ≤ i) (h : near a b i = true) (hn : symAt a i = symAt b i) : near a b (i + 1) = true := by
  unfold near at *
  rw [show (i + 1).toNat = i.toNat + 1 by omega, List.range_succ, List.all_append, h]
  simp [show ((i.toNat : Nat) : Int) = i by omega, hn]
theorem near_0 (a b : List Int) : near a b 0 = true := by unfold near; rfl
theorem near_le {a b : List Int} {k : Int} (h : k ≤ 0) : near a b k = true := by unfold near; rw [show k.toNat = 0 by omega]; rfl
theorem sameBeginning_ok (a b : List Int) (k : Int) (ha : (a.length : Int) ≤ 16777216) (hb : (b.length : Int) ≤ 16777216) (hk : k ≤ 16777216) (hk0 : -16777216 ≤ k) : Does Try.prog 115 [.one (shI a), .one (shI b), .one (int k)] [] (.one (boo (near a b k))) [] := by
  refine does_of (k := 0) Try.func115 rfl Try.ntmps115 rfl rfl fun w F0 S0 ρ0 => ?_
  dsimp only [argT, argH]
  repeat' first
    | refine g_seq ?_
    | refine g_skip ?_
    | refine g_exit ?_
    | refine g_block ?_
    | refine g_reg ?_
    | refine g_if_t rfl ?_
    | refine g_if_f rfl ?_
    | refine o_nil ?_
    | refine q_s ?_
    | refine q_se ?_
    | refine q_b ?_
    | refine q_be rfl ?_
    | refine q_bn rfl ?_
    | refine q_le ?_
    | refine q_ce ?_
    | (apply p3; (first | exact pu1 | exact puC | exact a_ne rfl rfl | exact a_neS rfl rfl rfl | exact a_add rfl rfl (by omega) (by omega)); exact rfl)
    | (apply c4 0; exact callK1 (θ := []) (hD := (symbolAt_ok _ _ preB32 preB32)); exact rfl; exact rfl; exact rfl; (try dsimp only [SV.ren, C.ren, C.ren.all, tRen, GB.ren, calF, upOf, List.cons_append, List.nil_append, Nat.reduceAdd]))
    | (refine o_gs rfl rfl (fun hc => ?_) (fun hc => ?_) <;> (try simp only [decide_eq_true_eq, decide_eq_false_iff_not, Bool.not_eq_true', Bool.not_eq_false', Bool.not_eq_true, Bool.not_eq_false, Bool.and_eq_true, Bool.or_eq_false_iff, Bool.not_not] at hc) <;> (try (first | contradiction | (exfalso; omega))))
    | (refine g_cond rfl (fun hc => ?_) (fun hc => ?_) <;> (try simp only [decide_eq_true_eq, decide_eq_false_iff_not, Bool.not_eq_true', Bool.not_eq_false', Bool.not_eq_true, Bool.not_eq_false, Bool.and_eq_true, Bool.or_eq_false_iff, Bool.not_not] at hc) <;> (try (first | contradiction | (exfalso; omega))))
  refine g_loop_id ?_
  refine loopK [0, 1, 6, 8] [] (fun i : Int => 0 ≤ i ∧ (i ≤ k ∨ i = 0) ∧ near a b i = true) (fun i => [(9, .one (int i))]) (fun _ => []) (fun i => (k - i).toNat) (0 : Int) [] (hI := ?_) (hr := ?_)
  · exact ⟨by simp, by simp, near_0 a b⟩
  · rintro i ⟨h0, h1, h2⟩
    dsimp only [List.cons_append, List.nil_append] at *
    skip
    repeat' first
      | refine g_seq ?_
      | refine g_skip ?_
      | refine g_exit ?_
      | refine g_block ?_
      | refine g_reg ?_
      | refine g_if_t rfl ?_
      | refine g_if_f rfl ?_
      | refine o_nil ?_
      | refine q_s ?_
      | refine q_se ?_
      | refine q_b ?_
      | refine q_be rfl ?_
      | refine q_bn rfl ?_
      | refine q_le ?_
      | refine q_ce ?_
      | (apply p3; (first | exact pu1 | exact puC | exact a_ne rfl rfl | exact a_neS rfl rfl rfl | exact a_add rfl rfl (by omega) (by omega)); exact rfl)
      | (apply c4 0; exact callK1 (θ := []) (hD := (symbolAt_ok _ _ preB32 preB32)); exact rfl; exact rfl; exact rfl; (try dsimp only [SV.ren, C.ren, C.ren.all, tRen, GB.ren, calF, upOf, List.cons_append, List.nil_append, Nat.reduceAdd]))
      | (refine o_gs rfl rfl (fun hc => ?_) (fun hc => ?_) <;> (try simp only [decide_eq_true_eq, decide_eq_false_iff_not, Bool.not_eq_true', Bool.not_eq_false', Bool.not_eq_true, Bool.not_eq_false, Bool.and_eq_true, Bool.or_eq_false_iff, Bool.not_not] at hc) <;> (try (first | contradiction | (exfalso; omega))))
      | (refine g_cond rfl (fun hc => ?_) (fun hc => ?_) <;> (try simp only [decide_eq_true_eq, decide_eq_false_iff_not, Bool.not_eq_true', Bool.not_eq_false', Bool.not_eq_true, Bool.not_eq_false, Bool.and_eq_true, Bool.or_eq_false_iff, Bool.not_not] at hc) <;> (try (first | contradiction | (exfalso; omega))))
    · have hn := near_no (k := k) h0 (by omega) (by assumption)
      repeat (first | refine g_ret ?_ | refine q_sr ?_ | refine q_br ?_ | refine q_lr ?_ | refine q_cr ?_)
      refine ends_id ?_
      refine endK [] (h2 := ?_) (h3 := ?_) (nd := ?_)
      all_goals (repeat' first | with_reducible exact SVLe.refl | exact SVLe.any | exact SVLe.one (.sh rfl) | exact SVLe.one (.nil (by decide)) | refine SVLe.agg ?_ | refine SVLe.tup ?_ | exact TLe.nil | refine TLe.cons ?_ ?_ | exact CsLe.nil | refine CsLe.cons ?_ ?_ | exact CLe.refl | exact CLe.sh rfl | exact CLe.nil (by decide) | refine cle_i ?_ | refine cle_b ?_ | exact trivial | refine And.intro ?_ ?_ | exact Or.inl rfl | exact Or.inr rfl | refine Or.inr (row_eq ?_) | (refine Or.inr (bx_eq rfl rfl ?_); (try dsimp only [C.ren, C.ren.all]); (try exact rfl)) | exact SVLe.refl | refine sle_i ?_ | refine sle_b ?_)
      all_goals first | exact (show nodupB _ = true from rfl) | exact Or.inr rfl | ((exact hn.symm))
    · refine q_again (i + 1) [] (by exact stk) ?_ ?_
      · exact ⟨by omega, by omega, near_next h0 h2 (by assumption)⟩
      · omega
    · have hn : near a b k = true := by
        by_cases h : 0 < k
        · rw [show k = i by omega]; exact h2
        · exact near_le (by omega)
      repeat (first | refine g_ret ?_ | refine q_sr ?_ | refine q_br ?_ | refine q_lr ?_ | refine q_cr ?_)
      refine ends_id ?_
      refine endK [] (h2 := ?_) (h3 := ?_) (nd := ?_)
      all_goals (repeat' first | with_reducible exact SVLe.refl | exact SVLe.any | exact SVLe.one (.sh rfl) | exact SVLe.one (.nil (by decide)) | refine SVLe.agg ?_ | refine SVLe.tup ?_ | exact TLe.nil | refine TLe.cons ?_ ?_ | exact CsLe.nil | refine CsLe.cons ?_ ?_ | exact CLe.refl | exact CLe.sh rfl | exact CLe.nil (by decide) | refine cle_i ?_ | refine cle_b ?_ | exact trivial | refine And.intro ?_ ?_ | exact Or.inl rfl | exact Or.inr rfl | refine Or.inr (row_eq ?_) | (refine Or.inr (bx_eq rfl rfl ?_); (try dsimp only [C.ren, C.ren.all]); (try exact rfl)) | exact SVLe.refl | refine sle_i ?_ | refine sle_b ?_)
      all_goals first | exact (show nodupB _ = true from rfl) | exact Or.inr rfl | ((exact hn.symm))
theorem l25Near_ok (a b : List Int) (k : Int) (ha : (a.length : Int) ≤ 16777216) (hb : (b.length : Int) ≤ 16777216) (hk : k ≤ 16777216) (hk0 : -16777216 ≤ k) : Does Try.prog 137 [.one (shI a), .one (shI b), .one (int k)] [] (.one (boo (near a b k))) [] := by
  refine does_of (k := 0) Try.func137 rfl Try.ntmps137 rfl rfl fun w F0 S0 ρ0 => ?_
  dsimp only [argT, argH]
  repeat' first
    | refine g_seq ?_
    | refine g_skip ?_
    | refine g_exit ?_
    | refine g_block ?_
    | refine g_reg ?_
    | refine g_if_t rfl ?_
    | refine g_if_f rfl ?_
    | refine o_nil ?_
    | refine q_s ?_
    | refine q_se ?_
    | refine q_b ?_
    | refine q_be rfl ?_
    | refine q_bn rfl ?_
    | refine q_le ?_
    | refine q_ce ?_
    | (apply p3; (first | exact pu1 | exact puC | exact a_ne rfl rfl | exact a_neS rfl rfl rfl | exact a_add rfl rfl (by omega) (by omega)); exact rfl)
    | (apply c4 0; exact callK1 (θ := []) (hD := (l13Cell_ok _ _ preB32 preB32)); exact rfl; exact rfl; exact rfl; (try dsimp only [SV.ren, C.ren, C.ren.all, tRen, GB.ren, calF, upOf, List.cons_append, List.nil_append, Nat.reduceAdd]))
    | (refine o_gs rfl rfl (fun hc => ?_) (fun hc => ?_) <;> (try simp only [decide_eq_true_eq, decide_eq_false_iff_not, Bool.not_eq_true', Bool.not_eq_false', Bool.not_eq_true, Bool.not_eq_false, Bool.and_eq_true, Bool.or_eq_false_iff, Bool.not_not] at hc) <;> (try (first | contradiction | (exfalso; omega))))
    | (refine g_cond rfl (fun hc => ?_) (fun hc => ?_) <;> (try simp only [decide_eq_true_eq, decide_eq_false_iff_not, Bool.not_eq_true', Bool.not_eq_false', Bool.not_eq_true, Bool.not_eq_false, Bool.and_eq_true, Bool.or_eq_false_iff, Bool.not_not] at hc) <;> (try (first | contradiction | (exfalso; omega))))
  refine g_loop_id ?_
  refine loopK [0, 1, 2, 6] [] (fun i : Int => 0 ≤ i ∧ (i ≤ k ∨ i = 0) ∧ near a b i = true) (fun i => [(7, .one (int i))]) (fun _ => []) (fun i => (k - i).toNat) (0 : Int) [] (hI := ?_) (hr := ?_)
  · exact ⟨by simp, by simp, near_0 a b⟩
  · rintro i ⟨h0, h1, h2⟩
    dsimp only [List.cons_append, List.nil_append] at *
    skip
    repeat' first
      | refine g_seq ?_
      | refine g_skip ?_
      | refine g_exit ?_
      | refine g_block ?_
      | refine g_reg ?_
      | refine g_if_t rfl ?_
      | refine g_if_f rfl ?_
      | refine o_nil ?_
      | refine q_s ?_
      | refine q_se ?_
      | refine q_b ?_
      | refine q_be rfl ?_
      | refine q_bn rfl ?_
      | refine q_le ?_
      | refine q_ce ?_
      | (apply p3; (first | exact pu1 | exact puC | exact a_ne rfl rfl | exact a_neS rfl rfl rfl | exact a_add rfl rfl (by omega) (by omega)); exact rfl)
      | (apply c4 0; exact callK1 (θ := []) (hD := (l13Cell_ok _ _ preB32 preB32)); exact rfl; exact rfl; exact rfl; (try dsimp only [SV.ren, C.ren, C.ren.all, tRen, GB.ren, calF, upOf, List.cons_append, List.nil_append, Nat.reduceAdd]))
      | (refine o_gs rfl rfl (fun hc => ?_) (fun hc => ?_) <;> (try simp only [decide_eq_true_eq, decide_eq_false_iff_not, Bool.not_eq_true', Bool.not_eq_false', Bool.not_eq_true, Bool.not_eq_false, Bool.and_eq_true, Bool.or_eq_false_iff, Bool.not_not] at hc) <;> (try (first | contradiction | (exfalso; omega))))
      | (refine g_cond rfl (fun hc => ?_) (fun hc => ?_) <;> (try simp only [decide_eq_true_eq, decide_eq_false_iff_not, Bool.not_eq_true', Bool.not_eq_false', Bool.not_eq_true, Bool.not_eq_false, Bool.and_eq_true, Bool.or_eq_false_iff, Bool.not_not] at hc) <;> (try (first | contradiction | (exfalso; omega))))
    · have hn := near_no (k := k) h0 (by omega) (by assumption)
      repeat (first | refine g_ret ?_ | refine q_sr ?_ | refine q_br ?_ | refine q_lr ?_ | refine q_cr ?_)
      refine ends_id ?_
      refine endK [] (h2 := ?_) (h3 := ?_) (nd := ?_)
      all_goals (repeat' first | with_reducible exact SVLe.refl | exact SVLe.any | exact SVLe.one (.sh rfl) | exact SVLe.one (.nil (by decide)) | refine SVLe.agg ?_ | refine SVLe.tup ?_ | exact TLe.nil | refine TLe.cons ?_ ?_ | exact CsLe.nil | refine CsLe.cons ?_ ?_ | exact CLe.refl | exact CLe.sh rfl | exact CLe.nil (by decide) | refine cle_i ?_ | refine cle_b ?_ | exact trivial | refine And.intro ?_ ?_ | exact Or.inl rfl | exact Or.inr rfl | refine Or.inr (row_eq ?_) | (refine Or.inr (bx_eq rfl rfl ?_); (try dsimp only [C.ren, C.ren.all]); (try exact rfl)) | exact SVLe.refl | refine sle_i ?_ | refine sle_b ?_)
      all_goals first | exact (show nodupB _ = true from rfl) | exact Or.inr rfl | ((exact hn.symm))
    · refine q_again (i + 1) [] (by exact stk) ?_ ?_
      · exact ⟨by omega, by omega, near_next h0 h2 (by assumption)⟩
      · omega
    · have hn : near a b k = true := by
        by_cases h : 0 < k
        · rw [show k = i by omega]; exact h2
        · exact near_le (by omega)
      repeat (first | refine g_ret ?_ | refine q_sr ?_ | refine q_br ?_ | refine q_lr ?_ | refine q_cr ?_)
      refine ends_id ?_
      refine endK [] (h2 := ?_) (h3 := ?_) (nd := ?_)
      all_goals (repeat' first | with_reducible exact SVLe.refl | exact SVLe.any | exact SVLe.one (.sh rfl) | exact SVLe.one (.nil (by decide)) | refine SVLe.agg ?_ | refine SVLe.tup ?_ | exact TLe.nil | refine TLe.cons ?_ ?_ | exact CsLe.nil | refine CsLe.cons ?_ ?_ | exact CLe.refl | exact CLe.sh rfl | exact CLe.nil (by decide) | refine cle_i ?_ | refine cle_b ?_ | exact trivial | refine And.intro ?_ ?_ | exact Or.inl rfl | exact Or.inr rfl | refine Or.inr (row_eq ?_) | (refine Or.inr (bx_eq rfl rfl ?_); (try dsimp only [C.ren, C.ren.all]); (try exact rfl)) | exact SVLe.refl | refine sle_i ?_ | refine sle_b ?_)
      all_goals first | exact (show nodupB _ = true from rfl) | exact Or.inr rfl | ((exact hn.symm))
theorem beyond_ok (l : List Int) (hx : (l.length : Int) ≤ 16777216) : Does Try.prog 117 [.one (shI l)] [] (.one (shI l.tail)) [] := by
  have e : l.drop (if (l.length : Int) < 1 then (l.length : Int) else 1).toNat = l.tail := by
    cases l with
    | nil => rfl
    | cons a l => rw [if_neg (by simp only [List.length_cons]; omega)]; rfl
  refine does_of (k := 0) Try.func117 rfl Try.ntmps117 rfl rfl fun w F0 S0 ρ0 => ?_
  dsimp only [argT, argH]
  repeat' first
    | refine g_seq ?_
    | refine g_skip ?_
    | refine g_exit ?_
    | refine g_block ?_
    | refine g_reg ?_
    | refine g_if_t rfl ?_
    | refine g_if_f rfl ?_
    | refine o_nil ?_
    | refine q_s ?_
    | refine q_se ?_
    | refine q_b ?_
    | refine q_be rfl ?_
    | refine q_bn rfl ?_
    | refine q_le ?_
    | refine q_ce ?_
    | (apply p3; (first | exact pu1 | exact puN | exact a_len_str rfl (fT rfl) | exact a_min rfl rfl | exact a_slT rfl rfl rfl (fS rfl) (by omega) (by omega) (by exact rfl)); exact rfl)
    | (apply s3; exact a_slTO rfl rfl rfl (fS rfl) (by omega) (by omega) (by exact rfl) (by decide); exact rfl; exact rfl)
    | (refine o_gs rfl rfl (fun hc => ?_) (fun hc => ?_) <;> (try simp only [decide_eq_true_eq, decide_eq_false_iff_not, Bool.not_eq_true', Bool.not_eq_false', Bool.not_eq_true, Bool.not_eq_false, Bool.and_eq_true, Bool.or_eq_false_iff, Bool.not_not] at hc) <;> (try (first | contradiction | (exfalso; omega))))
    | (refine g_cond rfl (fun hc => ?_) (fun hc => ?_) <;> (try simp only [decide_eq_true_eq, decide_eq_false_iff_not, Bool.not_eq_true', Bool.not_eq_false', Bool.not_eq_true, Bool.not_eq_false, Bool.and_eq_true, Bool.or_eq_false_iff, Bool.not_not] at hc) <;> (try (first | contradiction | (exfalso; omega))))
  rw [← e]
  repeat (first | refine g_ret ?_ | refine q_sr ?_ | refine q_br ?_ | refine q_lr ?_ | refine q_cr ?_)
  refine ends_id ?_
  refine endK [] (h2 := ?_) (h3 := ?_) (nd := ?_)
  all_goals (repeat' first | with_reducible exact SVLe.refl | exact SVLe.any | exact SVLe.one (.sh rfl) | exact SVLe.one (.nil (by decide)) | refine SVLe.agg ?_ | refine SVLe.tup ?_ | exact TLe.nil | refine TLe.cons ?_ ?_ | exact CsLe.nil | refine CsLe.cons ?_ ?_ | exact CLe.refl | exact CLe.sh rfl | exact CLe.nil (by decide) | refine cle_i ?_ | refine cle_b ?_ | exact trivial | refine And.intro ?_ ?_ | exact Or.inl rfl | exact Or.inr rfl | refine Or.inr (row_eq ?_) | (refine Or.inr (bx_eq rfl rfl ?_); (try dsimp only [C.ren, C.ren.all]); (try exact rfl)) | exact SVLe.refl | refine sle_i ?_ | refine sle_b ?_)
  all_goals first | exact (show nodupB _ = true from rfl) | exact Or.inr rfl | (rfl)
/-- A configuration comes again, moved. -/
@[irreducible] def fits (c e : Conf) (d k : Int) : Bool := decide (c.st = e.st) && (if 0 < d then eqI c.ri e.ri && near c.le e.le k else decide (c.ri.headD 0 = e.ri.headD 0) && eqI c.le e.le && near c.ri.tail e.ri.tail k)
theorem symAt_0 (l : List Int) : symAt l 0 = l.headD 0 := by unfold symAt; cases l <;> rfl
theorem shiftFits_ok (c e : Conf) (d k : Int) (h1 : (c.le.length : Int) ≤ 16777216) (h2 : (c.ri.length : Int) ≤ 16777216) (h3 : (e.le.length : Int) ≤ 16777216) (h4 : (e.ri.length : Int) ≤ 16777216) (hk : k ≤ 16777216) (hk0 : -16777216 ≤ k) : Does Try.prog 76 [.agg (coC c), .agg (coC e), .one (int d), .one (int k)] [] (.one (boo (fits c e d k))) [] := by
  refine does_of (k := 0) Try.func76 rfl Try.ntmps76 rfl rfl fun w F0 S0 ρ0 => ?_
  dsimp only [argT, argH]
  repeat' first
    | refine g_seq ?_
    | refine g_skip ?_
    | refine g_exit ?_
    | refine g_block ?_
    | refine g_reg ?_
    | refine g_if_t rfl ?_
    | refine g_if_f rfl ?_
    | refine o_nil ?_
    | refine q_s ?_
    | refine q_se ?_
    | refine q_b ?_
    | refine q_be rfl ?_
    | refine q_bn rfl ?_
    | refine q_le ?_
    | refine q_ce ?_
    | (apply n3; exact a_new (gb := .bx _) rfl; exact rfl; (try dsimp only [List.map_cons, List.map_nil, scC, Nat.reduceAdd]))
    | (apply p3; (first | exact pu1 | exact puL | exact a_ne rfl rfl | exact a_neS rfl rfl rfl | exact puC); exact rfl)
    | (apply c4 0; exact callK1 (θ := []) (hD := (sEqual_ok _ _ preB32 preB32)); exact rfl; exact rfl; exact rfl; (try dsimp only [SV.ren, C.ren, C.ren.all, tRen, GB.ren, calF, upOf, List.cons_append, List.nil_append, Nat.reduceAdd]))
    | (apply c4 0; exact callK1 (θ := []) (hD := (sameBeginning_ok _ _ _ preB32 preB32 preB32 preB32)); exact rfl; exact rfl; exact rfl; (try dsimp only [SV.ren, C.ren, C.ren.all, tRen, GB.ren, calF, upOf, List.cons_append, List.nil_append, Nat.reduceAdd]))
    | refine o_no rfl rfl rfl rfl ?_
    | refine o_noN rfl rfl rfl ?_
    | (apply py3; exact rfl; exact rfl; (first | exact pu1 | exact puL | exact a_ne rfl rfl | exact a_neS rfl rfl rfl | exact puC); exact rfl; exact rfl)
    | (apply ny3; exact rfl; exact rfl; exact a_new (gb := .bx _) rfl; exact rfl; exact rfl)
    | (apply cy4 0; exact rfl; exact rfl; exact callK1 (θ := []) (hD := (sEqual_ok _ _ preB32 preB32)); exact rfl; exact rfl; exact rfl; exact rfl; (try dsimp only [SV.ren, C.ren, C.ren.all, tRen, GB.ren, calF, upOf, List.cons_append, List.nil_append, Nat.reduceAdd]))
    | (apply cy4 0; exact rfl; exact rfl; exact callK1 (θ := []) (hD := (sameBeginning_ok _ _ _ preB32 preB32 preB32 preB32)); exact rfl; exact rfl; exact rfl; exact rfl; (try dsimp only [SV.ren, C.ren, C.ren.all, tRen, GB.ren, calF, upOf, List.cons_append, List.nil_append, Nat.reduceAdd]))
    | (apply g_drN (id := 5) okM [[], [0], [0, 1], [], [3], [0, 1, 2, 3, 4], [0, 1, 2, 3, 4, 5], [0, 1, 2, 3, 4, 5, 6], [0, 1, 2, 3, 4, 5, 6, 7], [0, 1, 2, 3, 4, 5, 6, 7, 8], [0, 1, 2, 3, 4, 5, 6, 7], [0, 1, 2, 3, 4, 5, 6, 7, 10], [0, 1, 2, 3, 4, 5, 6, 7, 8, 9, 10, 11], [0, 1, 2, 3, 4, 5, 6, 7, 8, 9, 10, 11, 12], [0, 1, 2, 3, 4, 5, 6, 7, 8, 9, 10, 11, 12, 13], [0, 1, 2, 3, 4, 5, 6, 7, 8, 9, 10, 11, 12, 13, 14], [0, 1, 2, 3, 4, 5, 6, 7, 8, 9, 10, 11, 12, 13, 14, 15], [0, 1, 2, 3, 4, 5, 6, 7, 8, 9, 10, 11, 12, 13, 14, 15, 16], [0, 1, 2, 3, 4, 5, 6, 7, 8, 9, 10, 11, 12, 13, 14], [0, 1, 2, 3, 4, 5, 6, 7, 8, 9, 10, 11, 12, 13, 14, 18], [0, 1, 2, 3, 4, 5, 6, 7, 8, 9, 10, 11, 12, 13, 14, 15, 16, 17, 18, 19], [0, 1, 2, 3, 4, 5, 6, 7, 8, 9, 10, 11, 12, 13, 14], [0, 1, 2, 3, 4, 5, 6, 7, 8, 9, 10, 11, 12, 13, 14, 15, 16, 17, 18, 19, 20, 21], [0, 1, 2, 3, 4, 5, 6, 7, 8, 9, 10, 11, 12, 13, 14, 15, 16, 17, 18, 19, 20, 21, 22], [0, 1, 2, 3, 4, 5, 6, 7, 8, 9, 10, 11, 12, 13, 14, 15, 16, 17, 18, 19, 20, 21, 22, 23]] [([], []), ([], []), ([], []), ([], []), ([], []), ([], []), ([], []), ([], []), ([], []), ([], []), ([], []), ([], []), ([], []), ([], []), ([], []), ([], []), ([], []), ([], []), ([], []), ([], []), ([], []), ([], []), ([], []), ([], []), ([], [])] 0; (focus (all_goals refine dp 0 0 [32, 33] [] (a_pure (sv := .one _) rfl) ?_; all_goals refine dp 1 1 [32, 33] [] puL ?_; all_goals refine dp 2 3 [32, 33] [] (callD1 (n := _) 0 (θ := []) (hD := (symbolAt_ok _ _ preB32 preB32))) ?_; all_goals refine dp 3 0 [29, 30, 31] [] (a_pure (sv := .one _) rfl) ?_; all_goals refine dp 4 1 [29, 30, 31] [] puL ?_; all_goals refine dp 5 31 [] [] (callD1 (n := _) 0 (θ := []) (hD := (symbolAt_ok _ _ preB32 preB32))) ?_; all_goals refine dp 6 63 [] [] (by first | exact puC | exact a_eqS rfl rfl rfl) ?_; all_goals (refine db 7 127 [] [] pu1 ?_ ?_ <;> (intro hc; first | cases hc | (try simp only [decide_eq_true_eq, decide_eq_false_iff_not, Bool.not_eq_true', Bool.not_eq_false', Bool.not_eq_true, Bool.not_eq_false, Bool.and_eq_true, Bool.or_eq_false_iff, Bool.not_not] at hc); first | contradiction | (exfalso; omega) | skip)); all_goals (first | refine dn 8 255 [39, 40] [] ?_ | refine dpy 8 255 [39, 40] [] (a_pure (sv := .one _) rfl) ?_); all_goals (first | refine dn 9 511 [39, 40] [] ?_ | refine dpy 9 511 [39, 40] [] puL ?_); all_goals (first | refine dn 10 1020 [37, 38] [] ?_ | refine dpy 10 1020 [37, 38] [] (a_pure (sv := .one _) rfl) ?_); all_goals (first | refine dn 11 2041 [37, 38] [] ?_ | refine dpy 11 2041 [37, 38] [] puL ?_); all_goals (first | refine dn 12 4095 [] [] ?_ | refine dpy 12 4095 [] [] (callD1 (n := _) 0 (θ := []) (hD := (sEqual_ok _ _ preB32 preB32))) ?_); all_goals refine dp 13 8191 [] [] (a_pure (sv := .one _) rfl) ?_; all_goals (refine db 14 16383 [] [] pu1 ?_ ?_ <;> (intro hc; first | cases hc | (try simp only [decide_eq_true_eq, decide_eq_false_iff_not, Bool.not_eq_true', Bool.not_eq_false', Bool.not_eq_true, Bool.not_eq_false, Bool.and_eq_true, Bool.or_eq_false_iff, Bool.not_not] at hc); first | contradiction | (exfalso; omega) | skip)); all_goals (first | refine dn 15 32767 [47, 48, 50] [] ?_ | refine dpy 15 32767 [47, 48, 50] [] (a_pure (sv := .one _) rfl) ?_); all_goals (first | refine dn 16 65535 [47, 48, 50] [] ?_ | refine dpy 16 65535 [47, 48, 50] [] puL ?_); all_goals (first | refine dn 17 131071 [47, 48, 50] [] ?_ | refine dpy 17 131071 [47, 48, 50] [] (callD0 (n := _) 0 (θ := []) (hD := (beyond_ok _ preB32))) ?_); all_goals (first | refine dn 18 262136 [44, 45, 46, 50] [] ?_ | refine dpy 18 262136 [44, 45, 46, 50] [] (a_pure (sv := .one _) rfl) ?_); all_goals (first | refine dn 19 524273 [44, 45, 46, 50] [] ?_ | refine dpy 19 524273 [44, 45, 46, 50] [] puL ?_); all_goals (first | refine dn 20 1048575 [50] [] ?_ | refine dpy 20 1048575 [50] [] (callD0 (n := _) 0 (θ := []) (hD := (beyond_ok _ preB32))) ?_); all_goals (first | refine dn 21 2097088 [44, 45, 46, 47, 48, 49] [] ?_ | refine dpy 21 2097088 [44, 45, 46, 47, 48, 49] [] pu1 ?_); all_goals (first | refine dn 22 4194303 [] [] ?_ | refine dpy 22 4194303 [] [] (callD1 (n := _) 0 (θ := []) (hD := (sameBeginning_ok _ _ _ preB32 preB32 preB32 preB32))) ?_); all_goals refine dp 23 8388607 [] [] (a_pure (sv := .one _) rfl) ?_; all_goals refine dp 24 16777215 [] [] pu1 ?_; all_goals (refine d_nil ?_; dsimp only [selT, selH, trues, SV.ren, C.ren, C.ren.all, tRen, GB.ren, calF, upOf, List.cons_append, List.nil_append, Nat.reduceAdd, setRow, List.map_cons, List.map_nil, scC, List.set_cons_zero, List.set_cons_succ, List.take_succ_cons, List.take_zero, List.drop_succ_cons, List.drop_zero]))); any_goals kernel_rfl)
    | (refine o_gs rfl rfl (fun hc => ?_) (fun hc => ?_) <;> (try simp only [decide_eq_true_eq, decide_eq_false_iff_not, Bool.not_eq_true', Bool.not_eq_false', Bool.not_eq_true, Bool.not_eq_false, Bool.and_eq_true, Bool.or_eq_false_iff, Bool.not_not] at hc) <;> (try (first | contradiction | (exfalso; omega))))
    | (refine g_cond rfl (fun hc => ?_) (fun hc => ?_) <;> (try simp only [decide_eq_true_eq, decide_eq_false_iff_not, Bool.not_eq_true', Bool.not_eq_false', Bool.not_eq_true, Bool.not_eq_false, Bool.and_eq_true, Bool.or_eq_false_iff, Bool.not_not] at hc) <;> (try (first | contradiction | (exfalso; omega))))
  all_goals (try simp only [symAt_0] at *)
  all_goals
    repeat (first | refine g_ret ?_ | refine q_sr ?_ | refine q_br ?_ | refine q_lr ?_ | refine q_cr ?_)
    refine ends_id ?_
    refine endK [] (h2 := ?_) (h3 := ?_) (nd := ?_)
    all_goals (repeat' first | with_reducible exact SVLe.refl | exact SVLe.any | exact SVLe.one (.sh rfl) | exact SVLe.one (.nil (by decide)) | refine SVLe.agg ?_ | refine SVLe.tup ?_ | exact TLe.nil | refine TLe.cons ?_ ?_ | exact CsLe.nil | refine CsLe.cons ?_ ?_ | exact CLe.refl | exact CLe.sh rfl | exact CLe.nil (by decide) | refine cle_i ?_ | refine cle_b ?_ | exact trivial | refine And.intro ?_ ?_ | exact Or.inl rfl | exact Or.inr rfl | refine Or.inr (row_eq ?_) | (refine Or.inr (bx_eq rfl rfl ?_); (try dsimp only [C.ren, C.ren.all]); (try exact rfl)) | exact SVLe.refl | refine sle_i ?_ | refine sle_b ?_)
    all_goals first | exact (show nodupB _ = true from rfl) | exact Or.inr rfl | ((unfold fits; first | (simp [*]; done) | (rw [decide_eq_false] <;> first | rfl | omega | (simp; done)) | (rw [decide_eq_true] <;> first | rfl | omega | (simp [*]; done)) | (simp_all; done) | (simp_all; omega)))
theorem l25Again_ok (c e : Conf) (d k : Int) (h1 : (c.le.length : Int) ≤ 16777216) (h2 : (c.ri.length : Int) ≤ 16777216) (h3 : (e.le.length : Int) ≤ 16777216) (h4 : (e.ri.length : Int) ≤ 16777216) (hk : k ≤ 16777216) (hk0 : -16777216 ≤ k) : Does Try.prog 109 [.one (coB c), .one (coB e), .one (int d), .one (int k)] [] (.one (boo (decide (d ≠ 0) && fits c e d k))) [] := by
  refine does_of (k := 0) Try.func109 rfl Try.ntmps109 rfl rfl fun w F0 S0 ρ0 => ?_
  dsimp only [argT, argH]
  repeat' first
    | refine g_seq ?_
    | refine g_skip ?_
    | refine g_exit ?_
    | refine g_block ?_
    | refine g_reg ?_
    | refine g_if_t rfl ?_
    | refine g_if_f rfl ?_
    | refine o_nil ?_
    | refine q_s ?_
    | refine q_se ?_
    | refine q_b ?_
    | refine q_be rfl ?_
    | refine q_bn rfl ?_
    | refine q_le ?_
    | refine q_ce ?_
    | (apply p3; (first | exact pu1 | exact puC); exact rfl)
    | (apply g_drN (id := 1) okM [[], [0], [0, 1], [0, 1, 2], [], [4], [4, 5], [4, 5, 6], [0, 1, 2, 3, 4, 5, 6, 7], [0, 1, 2, 3, 4, 5, 6, 7, 8], [0, 1, 2, 3, 4, 5, 6, 7, 8, 9], [0, 1, 2, 3, 4, 5, 6, 7, 8, 9, 10], [0, 1, 2, 3, 4, 5, 6, 7, 8, 9, 10, 11]] [([], []), ([], []), ([], []), ([], []), ([], []), ([], []), ([], []), ([], []), ([], []), ([], []), ([], []), ([], []), ([], [])] 0; (focus (all_goals refine dp 0 0 [13, 14, 15, 16] [] pu1 ?_; all_goals refine dp 1 1 [13, 14, 15, 16] [] (a_pure (sv := .one _) rfl) ?_; all_goals refine dp 2 3 [13, 14, 15, 16] [] (a_pure (sv := .one _) rfl) ?_; all_goals refine dp 3 7 [13, 14, 15, 16] [] puL ?_; all_goals refine dp 4 0 [9, 10, 11, 12] [] pu1 ?_; all_goals refine dp 5 1 [9, 10, 11, 12] [] (a_pure (sv := .one _) rfl) ?_; all_goals refine dp 6 3 [9, 10, 11, 12] [] (a_pure (sv := .one _) rfl) ?_; all_goals refine dp 7 7 [9, 10, 11, 12] [] puL ?_; all_goals refine dp 8 255 [] [] (by first | exact a_ne rfl rfl | exact a_neS rfl rfl rfl) ?_; all_goals (refine db 9 511 [] [] pu1 ?_ ?_ <;> (intro hc; first | cases hc | (try simp only [decide_eq_true_eq, decide_eq_false_iff_not, Bool.not_eq_true', Bool.not_eq_false', Bool.not_eq_true, Bool.not_eq_false, Bool.and_eq_true, Bool.or_eq_false_iff, Bool.not_not] at hc); first | contradiction | (exfalso; omega) | skip)); all_goals (first | refine dn 10 1023 [] [] ?_ | refine dpy 10 1023 [] [] pu1 ?_); all_goals (first | refine dn 11 2047 [] [] ?_ | refine dpy 11 2047 [] [] (by first | exact puC | exact a_eqS rfl rfl rfl) ?_); all_goals refine dp 12 4095 [] [] (a_pure (sv := .one _) rfl) ?_; all_goals (refine d_nil ?_; dsimp only [selT, selH, trues, SV.ren, C.ren, C.ren.all, tRen, GB.ren, calF, upOf, List.cons_append, List.nil_append, Nat.reduceAdd, setRow, List.map_cons, List.map_nil, scC, List.set_cons_zero, List.set_cons_succ, List.take_succ_cons, List.take_zero, List.drop_succ_cons, List.drop_zero]))); any_goals kernel_rfl)
    | (apply g_drN (id := 4) okM [[], [0], [0, 1], [0, 1, 2], [], [4], [4, 5], [4, 5, 6], [0, 1, 2, 3, 4, 5, 6, 7], [0, 1, 2, 3, 4, 5, 6, 7, 8], [0, 1, 2, 3, 4, 5, 6, 7, 8, 9], [0, 1, 2, 3, 4, 5, 6, 7, 8, 9, 10], [0, 1, 2, 3, 4, 5, 6, 7, 8, 9, 10, 11], [0, 1, 2, 3, 4, 5, 6, 7, 8, 9, 10, 11, 12], [0, 1, 2, 3, 4, 5, 6, 7, 8, 9], [0, 1, 2, 3, 4, 5, 6, 7, 8, 9, 14], [0, 1, 2, 3, 4, 5, 6, 7, 8, 9, 14, 15], [0, 1, 2, 3, 4, 5, 6, 7, 8, 9, 14, 15, 16], [0, 1, 2, 3, 4, 5, 6, 7, 8, 9], [0, 1, 2, 3, 4, 5, 6, 7, 8, 9, 10, 11, 12, 13, 14, 15, 16, 17, 18], [0, 1, 2, 3, 4, 5, 6, 7, 8, 9, 10, 11, 12, 13, 14, 15, 16, 17, 18, 19], [0, 1, 2, 3, 4, 5, 6, 7, 8, 9, 10, 11, 12, 13, 14, 15, 16, 17, 18, 19, 20]] [([], []), ([], []), ([], []), ([], []), ([], []), ([], []), ([], []), ([], []), ([], []), ([], []), ([], []), ([], []), ([], []), ([], []), ([], []), ([], []), ([], []), ([], []), ([], []), ([], []), ([], []), ([], [])] 0; (focus (all_goals refine dp 0 0 [28, 29, 30, 31] [] pu1 ?_; all_goals refine dp 1 1 [28, 29, 30, 31] [] (a_pure (sv := .one _) rfl) ?_; all_goals refine dp 2 3 [28, 29, 30, 31] [] (a_pure (sv := .one _) rfl) ?_; all_goals refine dp 3 7 [28, 29, 30, 31] [] puL ?_; all_goals refine dp 4 0 [24, 25, 26, 27] [] pu1 ?_; all_goals refine dp 5 1 [24, 25, 26, 27] [] (a_pure (sv := .one _) rfl) ?_; all_goals refine dp 6 3 [24, 25, 26, 27] [] (a_pure (sv := .one _) rfl) ?_; all_goals refine dp 7 7 [24, 25, 26, 27] [] puL ?_; all_goals refine dp 8 255 [] [] (callD1 (n := _) 0 (θ := []) (hD := (l00Same_ok _ _ preB32 preB32))) ?_; all_goals (refine db 9 511 [] [] pu1 ?_ ?_ <;> (intro hc; first | cases hc | (try simp only [decide_eq_true_eq, decide_eq_false_iff_not, Bool.not_eq_true', Bool.not_eq_false', Bool.not_eq_true, Bool.not_eq_false, Bool.and_eq_true, Bool.or_eq_false_iff, Bool.not_not] at hc); first | contradiction | (exfalso; omega) | skip)); all_goals (first | refine dn 10 1023 [38, 39, 40, 41, 42] [] ?_ | refine dpy 10 1023 [38, 39, 40, 41, 42] [] pu1 ?_); all_goals (first | refine dn 11 2047 [38, 39, 40, 41, 42] [] ?_ | refine dpy 11 2047 [38, 39, 40, 41, 42] [] (a_pure (sv := .one _) rfl) ?_); all_goals (first | refine dn 12 4095 [38, 39, 40, 41, 42] [] ?_ | refine dpy 12 4095 [38, 39, 40, 41, 42] [] (a_pure (sv := .one _) rfl) ?_); all_goals (first | refine dn 13 8191 [38, 39, 40, 41, 42] [] ?_ | refine dpy 13 8191 [38, 39, 40, 41, 42] [] puL ?_); all_goals (first | refine dn 14 16368 [34, 35, 36, 37, 42] [] ?_ | refine dpy 14 16368 [34, 35, 36, 37, 42] [] pu1 ?_); all_goals (first | refine dn 15 32737 [34, 35, 36, 37, 42] [] ?_ | refine dpy 15 32737 [34, 35, 36, 37, 42] [] (a_pure (sv := .one _) rfl) ?_); all_goals (first | refine dn 16 65475 [34, 35, 36, 37, 42] [] ?_ | refine dpy 16 65475 [34, 35, 36, 37, 42] [] (a_pure (sv := .one _) rfl) ?_); all_goals (first | refine dn 17 130951 [34, 35, 36, 37, 42] [] ?_ | refine dpy 17 130951 [34, 35, 36, 37, 42] [] puL ?_); all_goals (first | refine dn 18 261888 [34, 35, 36, 37, 38, 39, 40, 41] [] ?_ | refine dpy 18 261888 [34, 35, 36, 37, 38, 39, 40, 41] [] pu1 ?_); all_goals (first | refine dn 19 524287 [] [] ?_ | refine dpy 19 524287 [] [] (callD1 (n := _) 0 (θ := []) (hD := (l25Near_ok _ _ _ preB32 preB32 preB32 preB32))) ?_); all_goals refine dp 20 1048575 [] [] (a_pure (sv := .one _) rfl) ?_; all_goals refine dp 21 2097151 [] [] pu1 ?_; all_goals (refine d_nil ?_; dsimp only [selT, selH, trues, SV.ren, C.ren, C.ren.all, tRen, GB.ren, calF, upOf, List.cons_append, List.nil_append, Nat.reduceAdd, setRow, List.map_cons, List.map_nil, scC, List.set_cons_zero, List.set_cons_succ, List.take_succ_cons, List.take_zero, List.drop_succ_cons, List.drop_zero]))); any_goals kernel_rfl)
    | (apply g_drN (id := 5) okM [[], [0], [], [0, 1, 2], [0, 1, 2, 3], [0, 1, 2, 3, 4], [0, 1, 2, 3, 4, 5], [0, 1, 2, 3, 4, 5, 6], [0, 1, 2, 3, 4, 5, 6, 7], [0, 1, 2, 3, 4, 5, 6, 7, 8], [0, 1, 2, 3, 4, 5], [0, 1, 2, 3, 4, 5, 10], [0, 1, 2, 3, 4, 5, 10, 11], [0, 1, 2, 3, 4, 5, 10, 11, 12], [0, 1, 2, 3, 4, 5, 6, 7, 8, 9, 10, 11, 12, 13], [0, 1, 2, 3, 4, 5, 6, 7, 8, 9, 10, 11, 12, 13, 14], [0, 1, 2, 3, 4, 5, 6, 7, 8, 9, 10, 11, 12, 13, 14, 15], [0, 1, 2, 3, 4, 5, 6, 7, 8, 9, 10, 11, 12, 13, 14, 15, 16], [0, 1, 2, 3, 4, 5, 6, 7, 8, 9, 10, 11, 12, 13, 14, 15, 16, 17], [0, 1, 2, 3, 4, 5, 6, 7, 8, 9, 10, 11, 12, 13, 14, 15, 16, 17, 18], [0, 1, 2, 3, 4, 5, 6, 7, 8, 9, 10, 11, 12, 13, 14, 15, 16, 17, 18, 19], [0, 1, 2, 3, 4, 5, 6, 7, 8, 9, 10, 11, 12, 13, 14, 15, 16, 17, 18, 19, 20], [0, 1, 2, 3, 4, 5, 6, 7, 8, 9, 10, 11, 12, 13, 14, 15, 16], [0, 1, 2, 3, 4, 5, 6, 7, 8, 9, 10, 11, 12, 13, 14, 15, 16, 22], [0, 1, 2, 3, 4, 5, 6, 7, 8, 9, 10, 11, 12, 13, 14, 15, 16, 22, 23], [0, 1, 2, 3, 4, 5, 6, 7, 8, 9, 10, 11, 12, 13, 14, 15, 16, 22, 23, 24], [0, 1, 2, 3, 4, 5, 6, 7, 8, 9, 10, 11, 12, 13, 14, 15, 16, 17, 18, 19, 20, 21, 22, 23, 24, 25], [0, 1, 2, 3, 4, 5, 6, 7, 8, 9, 10, 11, 12, 13, 14, 15, 16], [0, 1, 2, 3, 4, 5, 6, 7, 8, 9, 10, 11, 12, 13, 14, 15, 16, 17, 18, 19, 20, 21, 22, 23, 24, 25, 26, 27], [0, 1, 2, 3, 4, 5, 6, 7, 8, 9, 10, 11, 12, 13, 14, 15, 16, 17, 18, 19, 20, 21, 22, 23, 24, 25, 26, 27, 28], [0, 1, 2, 3, 4, 5, 6, 7, 8, 9, 10, 11, 12, 13, 14, 15, 16, 17, 18, 19, 20, 21, 22, 23, 24, 25, 26, 27, 28, 29]] [([], []), ([], []), ([], []), ([], []), ([], []), ([], []), ([], []), ([], []), ([], []), ([], []), ([], []), ([], []), ([], []), ([], []), ([], []), ([], []), ([], []), ([], []), ([], []), ([], []), ([], []), ([0], []), ([], []), ([], []), ([], []), ([], []), ([1], []), ([], []), ([], []), ([], []), ([], [])] 2; (focus (all_goals refine dp 0 0 [47] [] pu1 ?_; all_goals refine dp 1 1 [47] [] (callD1 (n := _) 0 (θ := []) (hD := (l05Head_ok _ preB32))) ?_; all_goals refine dp 2 0 [45, 46] [] pu1 ?_; all_goals refine dp 3 7 [] [] (callD1 (n := _) 0 (θ := []) (hD := (l05Head_ok _ preB32))) ?_; all_goals refine dp 4 15 [] [] (by first | exact puC | exact a_eqS rfl rfl rfl) ?_; all_goals (refine db 5 31 [] [] pu1 ?_ ?_ <;> (intro hc; first | cases hc | (try simp only [decide_eq_true_eq, decide_eq_false_iff_not, Bool.not_eq_true', Bool.not_eq_false', Bool.not_eq_true, Bool.not_eq_false, Bool.and_eq_true, Bool.or_eq_false_iff, Bool.not_not] at hc); first | contradiction | (exfalso; omega) | skip)); all_goals (first | refine dn 6 63 [55, 56, 57, 58] [] ?_ | refine dpy 6 63 [55, 56, 57, 58] [] pu1 ?_); all_goals (first | refine dn 7 127 [55, 56, 57, 58] [] ?_ | refine dpy 7 127 [55, 56, 57, 58] [] (a_pure (sv := .one _) rfl) ?_); all_goals (first | refine dn 8 255 [55, 56, 57, 58] [] ?_ | refine dpy 8 255 [55, 56, 57, 58] [] (a_pure (sv := .one _) rfl) ?_); all_goals (first | refine dn 9 511 [55, 56, 57, 58] [] ?_ | refine dpy 9 511 [55, 56, 57, 58] [] puL ?_); all_goals (first | refine dn 10 1008 [51, 52, 53, 54] [] ?_ | refine dpy 10 1008 [51, 52, 53, 54] [] pu1 ?_); all_goals (first | refine dn 11 2017 [51, 52, 53, 54] [] ?_ | refine dpy 11 2017 [51, 52, 53, 54] [] (a_pure (sv := .one _) rfl) ?_); all_goals (first | refine dn 12 4035 [51, 52, 53, 54] [] ?_ | refine dpy 12 4035 [51, 52, 53, 54] [] (a_pure (sv := .one _) rfl) ?_); all_goals (first | refine dn 13 8071 [51, 52, 53, 54] [] ?_ | refine dpy 13 8071 [51, 52, 53, 54] [] puL ?_); all_goals (first | refine dn 14 16383 [] [] ?_ | refine dpy 14 16383 [] [] (callD1 (n := _) 0 (θ := []) (hD := (l00Same_ok _ _ preB32 preB32))) ?_); all_goals refine dp 15 32767 [] [] (a_pure (sv := .one _) rfl) ?_; all_goals (refine db 16 65535 [] [] pu1 ?_ ?_ <;> (intro hc; first | cases hc | (try simp only [decide_eq_true_eq, decide_eq_false_iff_not, Bool.not_eq_true', Bool.not_eq_false', Bool.not_eq_true, Bool.not_eq_false, Bool.and_eq_true, Bool.or_eq_false_iff, Bool.not_not] at hc); first | contradiction | (exfalso; omega) | skip)); all_goals (first | refine dn 17 131071 [67, 68, 69, 70, 72] [] ?_ | refine dpy 17 131071 [67, 68, 69, 70, 72] [] pu1 ?_); all_goals (first | refine dn 18 262143 [67, 68, 69, 70, 72] [] ?_ | refine dpy 18 262143 [67, 68, 69, 70, 72] [] (a_pure (sv := .one _) rfl) ?_); all_goals (first | refine dn 19 524287 [67, 68, 69, 70, 72] [] ?_ | refine dpy 19 524287 [67, 68, 69, 70, 72] [] (a_pure (sv := .one _) rfl) ?_); all_goals (first | refine dn 20 1048575 [67, 68, 69, 70, 72] [] ?_ | refine dpy 20 1048575 [67, 68, 69, 70, 72] [] puL ?_); all_goals (first | refine dn 21 2097151 [67, 68, 69, 70, 72] [] ?_ | refine duyN 21 2097151 [67, 68, 69, 70, 72] [] (callD1 (n := _) 0 (θ := []) (hD := (l05Rest_ok _ preB32))) (by exact rfl) (by exact rfl) ?_); all_goals (first | refine dn 22 4194272 [62, 63, 64, 65, 66, 72] [(true, 0)] ?_ | refine dpy 22 4194272 [62, 63, 64, 65, 66, 72] [(true, 0)] pu1 ?_); all_goals (first | refine dn 23 8388545 [62, 63, 64, 65, 66, 72] [(true, 0)] ?_ | refine dpy 23 8388545 [62, 63, 64, 65, 66, 72] [(true, 0)] (a_pure (sv := .one _) rfl) ?_); all_goals (first | refine dn 24 16777091 [62, 63, 64, 65, 66, 72] [(true, 0)] ?_ | refine dpy 24 16777091 [62, 63, 64, 65, 66, 72] [(true, 0)] (a_pure (sv := .one _) rfl) ?_); all_goals (first | refine dn 25 33554183 [62, 63, 64, 65, 66, 72] [(true, 0)] ?_ | refine dpy 25 33554183 [62, 63, 64, 65, 66, 72] [(true, 0)] puL ?_); all_goals (first | refine dn 26 67108863 [72] [] ?_ | refine duyN 26 67108863 [72] [] (callD1 (n := _) 1 (θ := []) (hD := (l05Rest_ok _ preB32))) (by exact rfl) (by exact rfl) ?_); all_goals (first | refine dn 27 134216704 [62, 63, 64, 65, 66, 67, 68, 69, 70, 71] [(true, 0), (true, 1)] ?_ | refine dpy 27 134216704 [62, 63, 64, 65, 66, 67, 68, 69, 70, 71] [(true, 0), (true, 1)] pu1 ?_); all_goals (first | refine dn 28 268435455 [] [] ?_ | refine dpy 28 268435455 [] [] (callD1 (n := _) 2 (θ := []) (hD := (l25Near_ok _ _ _ preB32 preB32 preB32 preB32))) ?_); all_goals refine dp 29 536870911 [] [] (a_pure (sv := .one _) rfl) ?_; all_goals refine dp 30 1073741823 [] [] pu1 ?_; all_goals (refine d_nil ?_; dsimp only [selT, selH, trues, SV.ren, C.ren, C.ren.all, tRen, GB.ren, calF, upOf, List.cons_append, List.nil_append, Nat.reduceAdd, setRow, List.map_cons, List.map_nil, scC, List.set_cons_zero, List.set_cons_succ, List.take_succ_cons, List.take_zero, List.drop_succ_cons, List.drop_zero]))); any_goals kernel_rfl)
    | (refine o_gs rfl rfl (fun hc => ?_) (fun hc => ?_) <;> (try simp only [decide_eq_true_eq, decide_eq_false_iff_not, Bool.not_eq_true', Bool.not_eq_false', Bool.not_eq_true, Bool.not_eq_false, Bool.and_eq_true, Bool.or_eq_false_iff, Bool.not_not] at hc) <;> (try (first | contradiction | (exfalso; omega))))
    | (refine g_cond rfl (fun hc => ?_) (fun hc => ?_) <;> (try simp only [decide_eq_true_eq, decide_eq_false_iff_not, Bool.not_eq_true', Bool.not_eq_false', Bool.not_eq_true, Bool.not_eq_false, Bool.and_eq_true, Bool.or_eq_false_iff, Bool.not_not] at hc) <;> (try (first | contradiction | (exfalso; omega))))
  all_goals
    repeat (first | refine g_ret ?_ | refine q_sr ?_ | refine q_br ?_ | refine q_lr ?_ | refine q_cr ?_)
    refine ends_id ?_
    refine endK [] (h2 := ?_) (h3 := ?_) (nd := ?_)
    all_goals (repeat' first | with_reducible exact SVLe.refl | exact SVLe.any | exact SVLe.one (.sh rfl) | exact SVLe.one (.nil (by decide)) | refine SVLe.agg ?_ | refine SVLe.tup ?_ | exact TLe.nil | refine TLe.cons ?_ ?_ | exact CsLe.nil | refine CsLe.cons ?_ ?_ | exact CLe.refl | exact CLe.sh rfl | exact CLe.nil (by decide) | refine cle_i ?_ | refine cle_b ?_ | exact trivial | refine And.intro ?_ ?_ | exact Or.inl rfl | exact Or.inr rfl | refine Or.inr (row_eq ?_) | (refine Or.inr (bx_eq rfl rfl ?_); (try dsimp only [C.ren, C.ren.all]); (try exact rfl)) | exact SVLe.refl | refine sle_i ?_ | refine sle_b ?_)
    all_goals first | exact (show nodupB _ = true from rfl) | exact Or.inr rfl | ((unfold fits; first | (simp [*]; done) | (rw [decide_eq_false] <;> first | rfl | omega | (simp; done)) | (rw [decide_eq_true] <;> first | rfl | omega | (simp [*]; done)) | (simp_all; done) | (simp_all; omega)))
end Go.Proofs.Ytncccjpbaeaafaa
end
