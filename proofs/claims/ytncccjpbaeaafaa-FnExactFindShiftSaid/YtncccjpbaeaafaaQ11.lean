/- Parts of the proof (11 of 14). -/
import Derived.Test.YtncccjpbaeaafaaQ10
section
set_option linter.unusedVariables false
set_option linter.unusedSimpArgs false
set_option maxRecDepth 100000
set_option maxHeartbeats 4000000
namespace Go.Proofs.Ytncccjpbaeaafaa
open Go Foot
/-- A runner: its box, the numbers of its sides. -/
abbrev ruBx (m : Mach) (s : Int) (a b : Nat) : GB := .bx [int m.sy, int m.st, shR m.ru, int s, .gv a, .gv b]
theorem preB4 {p : Prop} (h : p := by first | with_reducible assumption | omega | (simp only [List.length_append, List.length_cons, List.length_nil, List.length_set, List.length_replicate, List.length_take, List.length_drop, List.length_tail, List.length_dropLast, List.length_reverse] at *; omega) | exact mem_len (by assumption) (by omega) | (with_reducible refine Int.le_trans (Int.ofNat_le.2 (trimR_len _)) ?_; simp only [List.length_cons, List.length_tail]; omega) | (have := vMach_bd (by assumption); omega) | trivial) : p := h
theorem runnerOf_ok (m : Mach) (c : Conf) (hx : (c.le.length : Int) ≤ 16777216) (hy : (c.ri.length : Int) ≤ 16777216) : Does Try.prog 95 [.agg (maC m), .agg (coC c)] [] (.one (.gv 0)) [ruBx m c.st 1 2, roI c.le.reverse, roI c.ri.reverse] := by
  refine does_of (k := 0) Try.func95 rfl Try.ntmps95 rfl rfl fun w F0 S0 ρ0 => ?_
  dsimp only [argT, argH]
  repeat' first
    | refine g_seq ?_
    | refine g_skip ?_
    | refine g_exit ?_
    | refine g_block ?_
    | refine g_reg ?_
    | refine g_if_t rfl ?_
    | refine g_if_f rfl ?_
    | refine o_nil ?_
    | refine q_s ?_
    | refine q_se ?_
    | refine q_b ?_
    | refine q_be rfl ?_
    | refine q_bn rfl ?_
    | refine q_le ?_
    | refine q_ce ?_
    | (apply n3; exact a_new (gb := .bx _) rfl; exact rfl; (try dsimp only [List.map_cons, List.map_nil, scC, Nat.reduceAdd]))
    | (apply p3; exact pu1; exact rfl)
    | (apply g_drN (id := 1) okM [[], [], [1], [], [3], [3, 4], [], [6], [3, 4, 5, 6, 7], [0, 1, 2, 3, 4, 5, 6, 7, 8], [0, 1, 2, 3, 4, 5, 6, 7, 8, 9], [0, 1, 2, 3, 4, 5, 6, 7, 8, 9, 10]] [([], []), ([], []), ([], []), ([], []), ([], []), ([0], []), ([], []), ([], []), ([1], []), ([], []), ([2], []), ([], [])] 3; (focus (all_goals refine dp 0 0 [6, 7, 8, 9, 10, 11, 12, 13] [(true, 0), (true, 1)] puL ?_; all_goals refine dp 1 0 [5, 8, 9, 10, 11, 12, 13] [(true, 0), (true, 1)] (a_pure (sv := .one _) rfl) ?_; all_goals refine dp 2 1 [5, 8, 9, 10, 11, 12, 13] [(true, 0), (true, 1)] puL ?_; all_goals refine dp 3 0 [5, 6, 7, 11, 12] [] (a_pure (sv := .one _) rfl) ?_; all_goals refine dp 4 1 [5, 6, 7, 11, 12] [] puL ?_; all_goals refine duN 5 3 [5, 6, 7, 11, 12] [] (callD1 (n := _) 0 (θ := []) (hD := (reversed_ok _ preB4))) (by exact rfl) (by exact rfl) ?_; all_goals refine dp 6 0 [5, 6, 7, 8, 9, 10] [(true, 0)] (a_pure (sv := .one _) rfl) ?_; all_goals refine dp 7 1 [5, 6, 7, 8, 9, 10] [(true, 0)] puL ?_; all_goals refine duN 8 31 [5, 6, 7] [] (callD1 (n := _) 1 (θ := []) (hD := (reversed_ok _ preB4))) (by exact rfl) (by exact rfl) ?_; all_goals refine dp 9 511 [] [] (a_pure (sv := .agg _) rfl) ?_; all_goals refine duE 10 1023 [] [] (atN 2 (fun _ => a_new (gb := .bx _) rfl)) (by exact rfl) (by exact rfl) ?_; all_goals refine dp 11 2047 [] [] pu1 ?_; all_goals (refine d_nil ?_; dsimp only [selT, selH, trues, SV.ren, C.ren, C.ren.all, tRen, GB.ren, calF, upOf, List.cons_append, List.nil_append, Nat.reduceAdd, setRow, List.map_cons, List.map_nil, scC, List.set_cons_zero, List.set_cons_succ, List.take_succ_cons, List.take_zero, List.drop_succ_cons, List.drop_zero]))); any_goals kernel_rfl)
    | (refine o_gs rfl rfl (fun hc => ?_) (fun hc => ?_) <;> (try simp only [decide_eq_true_eq, decide_eq_false_iff_not, Bool.not_eq_true', Bool.not_eq_false', Bool.not_eq_true, Bool.not_eq_false, Bool.and_eq_true, Bool.or_eq_false_iff, Bool.not_not] at hc) <;> (try (first | contradiction | (exfalso; omega))))
    | (refine g_cond rfl (fun hc => ?_) (fun hc => ?_) <;> (try simp only [decide_eq_true_eq, decide_eq_false_iff_not, Bool.not_eq_true', Bool.not_eq_false', Bool.not_eq_true, Bool.not_eq_false, Bool.and_eq_true, Bool.or_eq_false_iff, Bool.not_not] at hc) <;> (try (first | contradiction | (exfalso; omega))))
  repeat (first | refine g_ret ?_ | refine q_sr ?_ | refine q_br ?_ | refine q_lr ?_ | refine q_cr ?_)
  refine ends_id ?_
  refine endK [?_, ?_, ?_] (h2 := ?_) (h3 := ?_) (nd := ?_)
  rotate_left 3
  all_goals (repeat' first | with_reducible exact SVLe.refl | exact SVLe.any | exact SVLe.one (.sh rfl) | exact SVLe.one (.nil (by decide)) | refine SVLe.agg ?_ | refine SVLe.tup ?_ | exact TLe.nil | refine TLe.cons ?_ ?_ | exact CsLe.nil | refine CsLe.cons ?_ ?_ | exact CLe.refl | exact CLe.sh rfl | exact CLe.nil (by decide) | refine cle_i ?_ | refine cle_b ?_ | exact trivial | refine And.intro ?_ ?_ | exact Or.inl rfl | exact Or.inr rfl | refine Or.inr (row_eq ?_) | (refine Or.inr (bx_eq rfl rfl ?_); (try dsimp only [C.ren, C.ren.all]); (try exact rfl)) | exact SVLe.refl | refine sle_i ?_ | refine sle_b ?_)
  all_goals first | exact (show nodupB _ = true from rfl) | exact Or.inr rfl | (rfl)
theorem nearest_ok (l : List Int) (hx : (l.length : Int) ≤ 16777216) : Does Try.prog 132 [.one (shI l)] [] (.one (int (l.getLastD 0))) [] := by
  refine does_of (k := 0) Try.func132 rfl Try.ntmps132 rfl rfl fun w F0 S0 ρ0 => ?_
  dsimp only [argT, argH]
  repeat' first
    | refine g_seq ?_
    | refine g_skip ?_
    | refine g_exit ?_
    | refine g_block ?_
    | refine g_reg ?_
    | refine g_if_t rfl ?_
    | refine g_if_f rfl ?_
    | refine o_nil ?_
    | refine q_s ?_
    | refine q_se ?_
    | refine q_b ?_
    | refine q_be rfl ?_
    | refine q_bn rfl ?_
    | refine q_le ?_
    | refine q_ce ?_
    | (apply p3; (first | exact pu1 | exact puL | exact puN | exact a_len_str rfl (fT rfl) | exact puC | exact a_eqS rfl rfl rfl | exact a_sub rfl rfl (by omega) (by omega) | exact puI); exact rfl)
    | (refine o_gs rfl rfl (fun hc => ?_) (fun hc => ?_) <;> (try simp only [decide_eq_true_eq, decide_eq_false_iff_not, Bool.not_eq_true', Bool.not_eq_false', Bool.not_eq_true, Bool.not_eq_false, Bool.and_eq_true, Bool.or_eq_false_iff, Bool.not_not] at hc) <;> (try (first | contradiction | (exfalso; omega))))
    | (refine g_cond rfl (fun hc => ?_) (fun hc => ?_) <;> (try simp only [decide_eq_true_eq, decide_eq_false_iff_not, Bool.not_eq_true', Bool.not_eq_false', Bool.not_eq_true, Bool.not_eq_false, Bool.and_eq_true, Bool.or_eq_false_iff, Bool.not_not] at hc) <;> (try (first | contradiction | (exfalso; omega))))
  · repeat (first | refine g_ret ?_ | refine q_sr ?_ | refine q_br ?_ | refine q_lr ?_ | refine q_cr ?_)
    refine ends_id ?_
    refine endK [] (h2 := ?_) (h3 := ?_) (nd := ?_)
    all_goals (repeat' first | with_reducible exact SVLe.refl | exact SVLe.any | exact SVLe.one (.sh rfl) | exact SVLe.one (.nil (by decide)) | refine SVLe.agg ?_ | refine SVLe.tup ?_ | exact TLe.nil | refine TLe.cons ?_ ?_ | exact CsLe.nil | refine CsLe.cons ?_ ?_ | exact CLe.refl | exact CLe.sh rfl | exact CLe.nil (by decide) | refine cle_i ?_ | refine cle_b ?_ | exact trivial | refine And.intro ?_ ?_ | exact Or.inl rfl | exact Or.inr rfl | refine Or.inr (row_eq ?_) | (refine Or.inr (bx_eq rfl rfl ?_); (try dsimp only [C.ren, C.ren.all]); (try exact rfl)) | exact SVLe.refl | refine sle_i ?_ | refine sle_b ?_)
    all_goals first | exact (show nodupB _ = true from rfl) | exact Or.inr rfl | ((have : l = [] := List.eq_nil_of_length_eq_zero (by omega); subst this; rfl))
  · repeat (first | refine g_ret ?_ | refine q_sr ?_ | refine q_br ?_ | refine q_lr ?_ | refine q_cr ?_)
    refine ends_id ?_
    refine endK [] (h2 := ?_) (h3 := ?_) (nd := ?_)
    all_goals (repeat' first | with_reducible exact SVLe.refl | exact SVLe.any | exact SVLe.one (.sh rfl) | exact SVLe.one (.nil (by decide)) | refine SVLe.agg ?_ | refine SVLe.tup ?_ | exact TLe.nil | refine TLe.cons ?_ ?_ | exact CsLe.nil | refine CsLe.cons ?_ ?_ | exact CLe.refl | exact CLe.sh rfl | exact CLe.nil (by decide) | refine cle_i ?_ | refine cle_b ?_ | exact trivial | refine And.intro ?_ ?_ | exact Or.inl rfl | exact Or.inr rfl | refine Or.inr (row_eq ?_) | (refine Or.inr (bx_eq rfl rfl ?_); (try dsimp only [C.ren, C.ren.all]); (try exact rfl)) | exact SVLe.refl | refine sle_i ?_ | refine sle_b ?_)
    all_goals first | exact (show nodupB _ = true from rfl) | exact Or.inr rfl | (exact (getLastD_at l 0 (by omega)).symm)
theorem pop_ok (l : List Int) (hx : (l.length : Int) ≤ 16777216) : Does Try.prog 130 [.one (.gv 0)] [roI l] (.one (.gv 1)) [.dead, roI l.dropLast] := by
  refine does_of (k := 1) Try.func130 rfl Try.ntmps130 rfl rfl fun w F0 S0 ρ0 => ?_
  dsimp only [argT, argH]
  repeat' first
    | refine g_seq ?_
    | refine g_skip ?_
    | refine g_exit ?_
    | refine g_block ?_
    | refine g_reg ?_
    | refine g_if_t rfl ?_
    | refine g_if_f rfl ?_
    | refine o_nil ?_
    | refine q_s ?_
    | refine q_se ?_
    | refine q_b ?_
    | refine q_be rfl ?_
    | refine q_bn rfl ?_
    | refine q_le ?_
    | refine q_ce ?_
    | (apply n3; exact a_nilO eI rfl; exact rfl)
    | (apply p3; (first | exact pu1 | exact puN | exact a_len_str rfl (fT rfl) | exact a_sub rfl rfl (by omega) (by omega) | exact a_max rfl rfl | exact a_slH rfl rfl rfl (fS rfl) (by omega) (by omega) (by exact rfl)); exact rfl)
    | (apply s3; exact a_slHO rfl rfl rfl (fS rfl) (by omega) (by omega) (by exact rfl) (by decide); exact rfl; exact rfl)
    | (refine o_gs rfl rfl (fun hc => ?_) (fun hc => ?_) <;> (try simp only [decide_eq_true_eq, decide_eq_false_iff_not, Bool.not_eq_true', Bool.not_eq_false', Bool.not_eq_true, Bool.not_eq_false, Bool.and_eq_true, Bool.or_eq_false_iff, Bool.not_not] at hc) <;> (try (first | contradiction | (exfalso; omega))))
    | (refine g_cond rfl (fun hc => ?_) (fun hc => ?_) <;> (try simp only [decide_eq_true_eq, decide_eq_false_iff_not, Bool.not_eq_true', Bool.not_eq_false', Bool.not_eq_true, Bool.not_eq_false, Bool.and_eq_true, Bool.or_eq_false_iff, Bool.not_not] at hc) <;> (try (first | contradiction | (exfalso; omega))))
  repeat (first | refine g_ret ?_ | refine q_sr ?_ | refine q_br ?_ | refine q_lr ?_ | refine q_cr ?_)
  refine ends_id ?_
  refine endK [?_] (h2 := ?_) (h3 := ?_) (nd := ?_)
  rotate_left 1
  all_goals (repeat' first | with_reducible exact SVLe.refl | exact SVLe.any | exact SVLe.one (.sh rfl) | exact SVLe.one (.nil (by decide)) | refine SVLe.agg ?_ | refine SVLe.tup ?_ | exact TLe.nil | refine TLe.cons ?_ ?_ | exact CsLe.nil | refine CsLe.cons ?_ ?_ | exact CLe.refl | exact CLe.sh rfl | exact CLe.nil (by decide) | refine cle_i ?_ | refine cle_b ?_ | exact trivial | refine And.intro ?_ ?_ | exact Or.inl rfl | exact Or.inr rfl | refine Or.inr (row_eq ?_) | (refine Or.inr (bx_eq rfl rfl ?_); (try dsimp only [C.ren, C.ren.all]); (try exact rfl)) | exact SVLe.refl | refine sle_i ?_ | refine sle_b ?_)
  all_goals first | exact (show nodupB _ = true from rfl) | exact Or.inr rfl | ((rw [List.dropLast_eq_take]; congr 1; split <;> omega))
@[irreducible] def pushL (l : List Int) (x : Int) : List Int := if x = 0 ∧ l = [] then l else l ++ [x]
theorem push_ok (l : List Int) (x : Int) (hx : (l.length : Int) ≤ 16777216) : Does Try.prog 131 [.one (.gv 0), .one (int x)] [roI l] (.one (.gv 1)) [.dead, roI (pushL l x)] := by
  refine does_of (k := 1) Try.func131 rfl Try.ntmps131 rfl rfl fun w F0 S0 ρ0 => ?_
  dsimp only [argT, argH]
  repeat' first
    | refine g_seq ?_
    | refine g_skip ?_
    | refine g_exit ?_
    | refine g_block ?_
    | refine g_reg ?_
    | refine g_if_t rfl ?_
    | refine g_if_f rfl ?_
    | refine o_nil ?_
    | refine q_s ?_
    | refine q_se ?_
    | refine q_b ?_
    | refine q_be rfl ?_
    | refine q_bn rfl ?_
    | refine q_le ?_
    | refine q_ce ?_
    | (apply n3; (first | exact a_litE eI [_] rfl rfl rfl rfl rfl rfl rfl rfl | exact a_appN (fP rfl) rfl rfl rfl nowR (by first | omega | (simp; omega)) (by decide) (by exact rfl)); exact rfl; (try dsimp only [List.map_cons, List.map_nil, scC, Nat.reduceAdd]))
    | (apply p3; (first | exact pu1 | exact puC | exact a_eqS rfl rfl rfl | exact puN | exact a_len_str rfl (fT rfl)); exact rfl)
    | (apply s3; exact a_appE (fP rfl) rfl rfl rfl rfl nowR (by first | omega | (simp; omega)) (by decide) (by decide) (by exact rfl); exact rfl; exact rfl)
    | refine o_no rfl rfl rfl rfl ?_
    | refine o_noN rfl rfl rfl ?_
    | (apply py3; exact rfl; exact rfl; (first | exact pu1 | exact puC | exact a_eqS rfl rfl rfl | exact puN | exact a_len_str rfl (fT rfl)); exact rfl; exact rfl)
    | (apply ny3; exact rfl; exact rfl; (first | exact a_litE eI [_] rfl rfl rfl rfl rfl rfl rfl rfl | exact a_appN (fP rfl) rfl rfl rfl nowR (by first | omega | (simp; omega)) (by decide) (by exact rfl)); exact rfl; exact rfl)
    | (refine o_gs rfl rfl (fun hc => ?_) (fun hc => ?_) <;> (try simp only [decide_eq_true_eq, decide_eq_false_iff_not, Bool.not_eq_true', Bool.not_eq_false', Bool.not_eq_true, Bool.not_eq_false, Bool.and_eq_true, Bool.or_eq_false_iff, Bool.not_not] at hc) <;> (try (first | contradiction | (exfalso; omega))))
    | (refine g_cond rfl (fun hc => ?_) (fun hc => ?_) <;> (try simp only [decide_eq_true_eq, decide_eq_false_iff_not, Bool.not_eq_true', Bool.not_eq_false', Bool.not_eq_true, Bool.not_eq_false, Bool.and_eq_true, Bool.or_eq_false_iff, Bool.not_not] at hc) <;> (try (first | contradiction | (exfalso; omega))))
  · repeat (first | refine g_ret ?_ | refine q_sr ?_ | refine q_br ?_ | refine q_lr ?_ | refine q_cr ?_)
    refine ends_id ?_
    refine endK [?_] (h2 := ?_) (h3 := ?_) (nd := ?_)
    rotate_left 1
    all_goals (repeat' first | with_reducible exact SVLe.refl | exact SVLe.any | exact SVLe.one (.sh rfl) | exact SVLe.one (.nil (by decide)) | refine SVLe.agg ?_ | refine SVLe.tup ?_ | exact TLe.nil | refine TLe.cons ?_ ?_ | exact CsLe.nil | refine CsLe.cons ?_ ?_ | exact CLe.refl | exact CLe.sh rfl | exact CLe.nil (by decide) | refine cle_i ?_ | refine cle_b ?_ | exact trivial | refine And.intro ?_ ?_ | exact Or.inl rfl | exact Or.inr rfl | refine Or.inr (row_eq ?_) | (refine Or.inr (bx_eq rfl rfl ?_); (try dsimp only [C.ren, C.ren.all]); (try exact rfl)) | exact SVLe.refl | refine sle_i ?_ | refine sle_b ?_)
    all_goals first | exact (show nodupB _ = true from rfl) | exact Or.inr rfl | ((have : l = [] := List.eq_nil_of_length_eq_zero (by omega); subst this; unfold pushL; simp [*]))
  · repeat (first | refine g_ret ?_ | refine q_sr ?_ | refine q_br ?_ | refine q_lr ?_ | refine q_cr ?_)
    refine ends_id ?_
    refine endK [?_] (h2 := ?_) (h3 := ?_) (nd := ?_)
    rotate_left 1
    all_goals (repeat' first | with_reducible exact SVLe.refl | exact SVLe.any | exact SVLe.one (.sh rfl) | exact SVLe.one (.nil (by decide)) | refine SVLe.agg ?_ | refine SVLe.tup ?_ | exact TLe.nil | refine TLe.cons ?_ ?_ | exact CsLe.nil | refine CsLe.cons ?_ ?_ | exact CLe.refl | exact CLe.sh rfl | exact CLe.nil (by decide) | refine cle_i ?_ | refine cle_b ?_ | exact trivial | refine And.intro ?_ ?_ | exact Or.inl rfl | exact Or.inr rfl | refine Or.inr (row_eq ?_) | (refine Or.inr (bx_eq rfl rfl ?_); (try dsimp only [C.ren, C.ren.all]); (try exact rfl)) | exact SVLe.refl | refine sle_i ?_ | refine sle_b ?_)
    all_goals first | exact (show nodupB _ = true from rfl) | exact Or.inr rfl | ((unfold pushL; rw [if_neg]; rintro ⟨_, rfl⟩; simp at hc))
  · repeat (first | refine g_ret ?_ | refine q_sr ?_ | refine q_br ?_ | refine q_lr ?_ | refine q_cr ?_)
    refine ends_id ?_
    refine endK [?_] (h2 := ?_) (h3 := ?_) (nd := ?_)
    rotate_left 1
    all_goals (repeat' first | with_reducible exact SVLe.refl | exact SVLe.any | exact SVLe.one (.sh rfl) | exact SVLe.one (.nil (by decide)) | refine SVLe.agg ?_ | refine SVLe.tup ?_ | exact TLe.nil | refine TLe.cons ?_ ?_ | exact CsLe.nil | refine CsLe.cons ?_ ?_ | exact CLe.refl | exact CLe.sh rfl | exact CLe.nil (by decide) | refine cle_i ?_ | refine cle_b ?_ | exact trivial | refine And.intro ?_ ?_ | exact Or.inl rfl | exact Or.inr rfl | refine Or.inr (row_eq ?_) | (refine Or.inr (bx_eq rfl rfl ?_); (try dsimp only [C.ren, C.ren.all]); (try exact rfl)) | exact SVLe.refl | refine sle_i ?_ | refine sle_b ?_)
    all_goals first | exact (show nodupB _ = true from rfl) | exact Or.inr rfl | ((unfold pushL; rw [if_neg]; rintro ⟨h, _⟩; exact hc h))
/-- A runner that is only read. -/
abbrev ruD (m : Mach) (s : Int) (l r : List Int) : C := .d (.bx false [.sc (.int .i64 m.sy), .sc (.int .i64 m.st), .sl false 3 (rows eR m.ru), .sc (.int .i64 s), .sl false 1 (rows eI l), .sl false 1 (rows eI r)])
theorem symbol_ok (m : Mach) (s : Int) (l r : List Int) (hx : (r.length : Int) ≤ 16777216) : Does Try.prog 150 [.one (ruD m s l r)] [] (.one (int (r.getLastD 0))) [] := by
  refine does_of (k := 0) Try.func150 rfl Try.ntmps150 rfl rfl fun w F0 S0 ρ0 => ?_
  dsimp only [argT, argH]
  repeat' first
    | refine g_seq ?_
    | refine g_skip ?_
    | refine g_exit ?_
    | refine g_block ?_
    | refine g_reg ?_
    | refine g_if_t rfl ?_
    | refine g_if_f rfl ?_
    | refine o_nil ?_
    | refine q_s ?_
    | refine q_se ?_
    | refine q_b ?_
    | refine q_be rfl ?_
    | refine q_bn rfl ?_
    | refine q_le ?_
    | refine q_ce ?_
    | (apply p3; (first | exact pu1 | exact puL); exact rfl)
    | (apply c4 0; exact callK1 (θ := []) (hD := (nearest_ok _ preB4)); exact rfl; exact rfl; exact rfl; (try dsimp only [SV.ren, C.ren, C.ren.all, tRen, GB.ren, calF, upOf, List.cons_append, List.nil_append, Nat.reduceAdd]))
    | (refine o_gs rfl rfl (fun hc => ?_) (fun hc => ?_) <;> (try simp only [decide_eq_true_eq, decide_eq_false_iff_not, Bool.not_eq_true', Bool.not_eq_false', Bool.not_eq_true, Bool.not_eq_false, Bool.and_eq_true, Bool.or_eq_false_iff, Bool.not_not] at hc) <;> (try (first | contradiction | (exfalso; omega))))
    | (refine g_cond rfl (fun hc => ?_) (fun hc => ?_) <;> (try simp only [decide_eq_true_eq, decide_eq_false_iff_not, Bool.not_eq_true', Bool.not_eq_false', Bool.not_eq_true, Bool.not_eq_false, Bool.and_eq_true, Bool.or_eq_false_iff, Bool.not_not] at hc) <;> (try (first | contradiction | (exfalso; omega))))
  repeat (first | refine g_ret ?_ | refine q_sr ?_ | refine q_br ?_ | refine q_lr ?_ | refine q_cr ?_)
  refine ends_id ?_
  refine endK [] (h2 := ?_) (h3 := ?_) (nd := ?_)
  all_goals (repeat' first | with_reducible exact SVLe.refl | exact SVLe.any | exact SVLe.one (.sh rfl) | exact SVLe.one (.nil (by decide)) | refine SVLe.agg ?_ | refine SVLe.tup ?_ | exact TLe.nil | refine TLe.cons ?_ ?_ | exact CsLe.nil | refine CsLe.cons ?_ ?_ | exact CLe.refl | exact CLe.sh rfl | exact CLe.nil (by decide) | refine cle_i ?_ | refine cle_b ?_ | exact trivial | refine And.intro ?_ ?_ | exact Or.inl rfl | exact Or.inr rfl | refine Or.inr (row_eq ?_) | (refine Or.inr (bx_eq rfl rfl ?_); (try dsimp only [C.ren, C.ren.all]); (try exact rfl)) | exact SVLe.refl | refine sle_i ?_ | refine sle_b ?_)
  all_goals first | exact (show nodupB _ = true from rfl) | exact Or.inr rfl | (rfl)
theorem at_ok (m : Mach) (s : Int) (l r : List Int) (hx : (r.length : Int) ≤ 16777216) (h1 : -9223372036854775808 ≤ s * m.sy) (h2 : s * m.sy < 9223372036854775808) (h3 : -9223372036854775808 ≤ s * m.sy + r.getLastD 0) (h4 : s * m.sy + r.getLastD 0 < 9223372036854775808) : Does Try.prog 129 [.one (ruD m s l r)] [] (.one (int (s * m.sy + r.getLastD 0))) [] := by
  refine does_of (k := 0) Try.func129 rfl Try.ntmps129 rfl rfl fun w F0 S0 ρ0 => ?_
  dsimp only [argT, argH]
  repeat' first
    | refine g_seq ?_
    | refine g_skip ?_
    | refine g_exit ?_
    | refine g_block ?_
    | refine g_reg ?_
    | refine g_if_t rfl ?_
    | refine g_if_f rfl ?_
    | refine o_nil ?_
    | refine q_s ?_
    | refine q_se ?_
    | refine q_b ?_
    | refine q_be rfl ?_
    | refine q_bn rfl ?_
    | refine q_le ?_
    | refine q_ce ?_
    | (apply p3; exact a_pure (sv := .one _) rfl; exact rfl)
    | (apply g_drN (id := 1) okM [[], [0], [0, 1], [0, 1, 2], [], [4], [4, 5], [4, 5, 6], [4, 5, 6, 7], [0, 1, 2, 3, 4, 5, 6, 7, 8], [], [10], [0, 1, 2, 3, 4, 5, 6, 7, 8, 9, 10, 11], [0, 1, 2, 3, 4, 5, 6, 7, 8, 9, 10, 11, 12]] [([], []), ([], []), ([], []), ([], []), ([], []), ([], []), ([], []), ([], []), ([], []), ([], []), ([], []), ([], []), ([], []), ([], [])] 0; (focus (all_goals refine dp 0 0 [7, 8, 9, 10, 11, 13, 14] [] pu1 ?_; all_goals refine dp 1 1 [7, 8, 9, 10, 11, 13, 14] [] (a_pure (sv := .one _) rfl) ?_; all_goals refine dp 2 3 [7, 8, 9, 10, 11, 13, 14] [] (a_pure (sv := .one _) rfl) ?_; all_goals refine dp 3 7 [7, 8, 9, 10, 11, 13, 14] [] puL ?_; all_goals refine dp 4 0 [3, 4, 5, 6, 13, 14] [] pu1 ?_; all_goals refine dp 5 1 [3, 4, 5, 6, 13, 14] [] (a_pure (sv := .one _) rfl) ?_; all_goals refine dp 6 3 [3, 4, 5, 6, 13, 14] [] (a_pure (sv := .one _) rfl) ?_; all_goals refine dp 7 7 [3, 4, 5, 6, 13, 14] [] (a_pure (sv := .one _) rfl) ?_; all_goals refine dp 8 15 [3, 4, 5, 6, 13, 14] [] puL ?_; all_goals refine dp 9 511 [13, 14] [] (by first | exact a_mulB rfl rfl (by omega) (by omega) (by omega) (by omega) | exact a_mul rfl rfl (by first | omega | assumption) (by first | omega | assumption)) ?_; all_goals refine dp 10 0 [3, 4, 5, 6, 7, 8, 9, 10, 11, 12] [] pu1 ?_; all_goals refine dp 11 1 [3, 4, 5, 6, 7, 8, 9, 10, 11, 12] [] (by first | exact callD1 (n := _) 0 (θ := []) (hD := (symbolC_ok _ _ preB4)) | exact callD1 (n := _) 0 (θ := []) (hD := (symbol_ok _ _ _ _ preB4))) ?_; all_goals refine dp 12 4095 [] [] (a_add rfl rfl (by omega) (by omega)) ?_; all_goals refine dp 13 8191 [] [] pu1 ?_; all_goals (refine d_nil ?_; dsimp only [selT, selH, trues, SV.ren, C.ren, C.ren.all, tRen, GB.ren, calF, upOf, List.cons_append, List.nil_append, Nat.reduceAdd, setRow, List.map_cons, List.map_nil, scC, List.set_cons_zero, List.set_cons_succ, List.take_succ_cons, List.take_zero, List.drop_succ_cons, List.drop_zero]))); any_goals kernel_rfl)
    | (refine o_gs rfl rfl (fun hc => ?_) (fun hc => ?_) <;> (try simp only [decide_eq_true_eq, decide_eq_false_iff_not, Bool.not_eq_true', Bool.not_eq_false', Bool.not_eq_true, Bool.not_eq_false, Bool.and_eq_true, Bool.or_eq_false_iff, Bool.not_not] at hc) <;> (try (first | contradiction | (exfalso; omega))))
    | (refine g_cond rfl (fun hc => ?_) (fun hc => ?_) <;> (try simp only [decide_eq_true_eq, decide_eq_false_iff_not, Bool.not_eq_true', Bool.not_eq_false', Bool.not_eq_true, Bool.not_eq_false, Bool.and_eq_true, Bool.or_eq_false_iff, Bool.not_not] at hc) <;> (try (first | contradiction | (exfalso; omega))))
  repeat (first | refine g_ret ?_ | refine q_sr ?_ | refine q_br ?_ | refine q_lr ?_ | refine q_cr ?_)
  refine ends_id ?_
  refine endK [] (h2 := ?_) (h3 := ?_) (nd := ?_)
  all_goals (repeat' first | with_reducible exact SVLe.refl | exact SVLe.any | exact SVLe.one (.sh rfl) | exact SVLe.one (.nil (by decide)) | refine SVLe.agg ?_ | refine SVLe.tup ?_ | exact TLe.nil | refine TLe.cons ?_ ?_ | exact CsLe.nil | refine CsLe.cons ?_ ?_ | exact CLe.refl | exact CLe.sh rfl | exact CLe.nil (by decide) | refine cle_i ?_ | refine cle_b ?_ | exact trivial | refine And.intro ?_ ?_ | exact Or.inl rfl | exact Or.inr rfl | refine Or.inr (row_eq ?_) | (refine Or.inr (bx_eq rfl rfl ?_); (try dsimp only [C.ren, C.ren.all]); (try exact rfl)) | exact SVLe.refl | refine sle_i ?_ | refine sle_b ?_)
  all_goals first | exact (show nodupB _ = true from rfl) | exact Or.inr rfl | (rfl)
theorem rule_ok (m : Mach) (s : Int) (l r : List Int) (hx : (r.length : Int) ≤ 16777216) (h1 : 0 ≤ s * m.sy) (h2 : s * m.sy < 9223372036854775) (h3 : 0 ≤ r.getLastD 0) (h4 : r.getLastD 0 < 9223372036854775) (h5 : s * m.sy + r.getLastD 0 < m.ru.length) : Does Try.prog 97 [.one (ruD m s l r)] [] (.agg (ruC (m.ru[(s * m.sy + r.getLastD 0).toNat]'(by omega)))) [] := by
  refine does_of (k := 0) Try.func97 rfl Try.ntmps97 rfl rfl fun w F0 S0 ρ0 => ?_
  dsimp only [argT, argH]
  repeat' first
    | refine g_seq ?_
    | refine g_skip ?_
    | refine g_exit ?_
    | refine g_block ?_
    | refine g_reg ?_
    | refine g_if_t rfl ?_
    | refine g_if_f rfl ?_
    | refine o_nil ?_
    | refine q_s ?_
    | refine q_se ?_
    | refine q_b ?_
    | refine q_be rfl ?_
    | refine q_bn rfl ?_
    | refine q_le ?_
    | refine q_ce ?_
    | (apply n3; exact a_new (gb := .bx _) rfl; exact rfl; (try dsimp only [List.map_cons, List.map_nil, scC, Nat.reduceAdd]))
    | (apply g_drN (id := 1) okM [[], [0], [0, 1], [0, 1, 2], [0, 1, 2, 3], [], [5], [0, 1, 2, 3, 4, 5, 6], [0, 1, 2, 3, 4, 5, 6, 7], [0, 1, 2, 3, 4, 5, 6, 7, 8]] [([], []), ([], []), ([], []), ([], []), ([], []), ([], []), ([], []), ([], []), ([], []), ([], [0])] 0; (focus (all_goals refine dp 0 0 [8, 9] [] pu1 ?_; all_goals refine dp 1 1 [8, 9] [] (a_pure (sv := .one _) rfl) ?_; all_goals refine dp 2 3 [8, 9] [] (a_pure (sv := .one _) rfl) ?_; all_goals refine dp 3 7 [8, 9] [] (a_pure (sv := .one _) rfl) ?_; all_goals refine dp 4 15 [8, 9] [] puL ?_; all_goals refine dp 5 0 [3, 4, 5, 6, 7] [] pu1 ?_; all_goals refine dp 6 1 [3, 4, 5, 6, 7] [] (by first | exact callD1 (n := _) 0 (θ := []) (hD := (at_ok _ _ _ _ preB4 preB4 preB4 preB4 preB4)) | exact callD1 (n := _) 0 (θ := []) (hD := (atC_ok _ _ preB4 preB4))) ?_; all_goals refine dp 7 127 [] [] puI ?_; all_goals refine dp 8 255 [] [] puL ?_; all_goals refine duE 9 511 [] [] (by first | exact a_st_bx rfl rfl rfl rfl (fN rfl rfl) (Nat.le_of_ble_eq_true rfl) rfl | exact a_stE (E := eR) ⟨_, _, _⟩ rfl rfl rfl rfl (fN rfl rfl) bnd (by exact rfl)) (by exact rfl) (by exact rfl) ?_; all_goals (refine d_nil ?_; dsimp only [selT, selH, trues, SV.ren, C.ren, C.ren.all, tRen, GB.ren, calF, upOf, List.cons_append, List.nil_append, Nat.reduceAdd, setRow, List.map_cons, List.map_nil, scC, List.set_cons_zero, List.set_cons_succ, List.take_succ_cons, List.take_zero, List.drop_succ_cons, List.drop_zero]))); any_goals kernel_rfl)
    | (refine o_gs rfl rfl (fun hc => ?_) (fun hc => ?_) <;> (try simp only [decide_eq_true_eq, decide_eq_false_iff_not, Bool.not_eq_true', Bool.not_eq_false', Bool.not_eq_true, Bool.not_eq_false, Bool.and_eq_true, Bool.or_eq_false_iff, Bool.not_not] at hc) <;> (try (first | contradiction | (exfalso; omega))))
    | (refine g_cond rfl (fun hc => ?_) (fun hc => ?_) <;> (try simp only [decide_eq_true_eq, decide_eq_false_iff_not, Bool.not_eq_true', Bool.not_eq_false', Bool.not_eq_true, Bool.not_eq_false, Bool.and_eq_true, Bool.or_eq_false_iff, Bool.not_not] at hc) <;> (try (first | contradiction | (exfalso; omega))))
  repeat (first | refine g_ret ?_ | refine q_sr ?_ | refine q_br ?_ | refine q_lr ?_ | refine q_cr ?_)
  refine ends_id ?_
  refine endK [] (h2 := ?_) (h3 := ?_) (nd := ?_)
  all_goals (repeat' first | with_reducible exact SVLe.refl | exact SVLe.any | exact SVLe.one (.sh rfl) | exact SVLe.one (.nil (by decide)) | refine SVLe.agg ?_ | refine SVLe.tup ?_ | exact TLe.nil | refine TLe.cons ?_ ?_ | exact CsLe.nil | refine CsLe.cons ?_ ?_ | exact CLe.refl | exact CLe.sh rfl | exact CLe.nil (by decide) | refine cle_i ?_ | refine cle_b ?_ | exact trivial | refine And.intro ?_ ?_ | exact Or.inl rfl | exact Or.inr rfl | refine Or.inr (row_eq ?_) | (refine Or.inr (bx_eq rfl rfl ?_); (try dsimp only [C.ren, C.ren.all]); (try exact rfl)) | exact SVLe.refl | refine sle_i ?_ | refine sle_b ?_)
  all_goals first | exact (show nodupB _ = true from rfl) | exact Or.inr rfl | (rfl)
theorem halts_ok (m : Mach) (s : Int) (l r : List Int) (hx : (r.length : Int) ≤ 16777216) (h1 : 0 ≤ s * m.sy) (h2 : s * m.sy < 9223372036854775) (h3 : 0 ≤ r.getLastD 0) (h4 : r.getLastD 0 < 9223372036854775) (h5 : s * m.sy + r.getLastD 0 < m.ru.length) : Does Try.prog 96 [.one (ruD m s l r)] [] (.one (boo (decide (m.ru[(s * m.sy + r.getLastD 0).toNat]'(by omega) = ⟨0, 0, -1⟩)))) [] := by
  refine does_of (k := 0) Try.func96 rfl Try.ntmps96 rfl rfl fun w F0 S0 ρ0 => ?_
  dsimp only [argT, argH]
  repeat' first
    | refine g_seq ?_
    | refine g_skip ?_
    | refine g_exit ?_
    | refine g_block ?_
    | refine g_reg ?_
    | refine g_if_t rfl ?_
    | refine g_if_f rfl ?_
    | refine o_nil ?_
    | refine q_s ?_
    | refine q_se ?_
    | refine q_b ?_
    | refine q_be rfl ?_
    | refine q_bn rfl ?_
    | refine q_le ?_
    | refine q_ce ?_
    | (apply p3; exact pu1; exact rfl)
    | (apply c4 0; exact callK1 (θ := []) (hD := (rule_ok _ _ _ _ preB4 preB4 preB4 preB4 preB4 preB4)); exact rfl; exact rfl; exact rfl; (try dsimp only [SV.ren, C.ren, C.ren.all, tRen, GB.ren, calF, upOf, List.cons_append, List.nil_append, Nat.reduceAdd]))
    | (apply c4 0; exact callK1 (θ := []) (hD := (ruleC_ok _ _ preB4 preB4)); exact rfl; exact rfl; exact rfl; (try dsimp only [SV.ren, C.ren, C.ren.all, tRen, GB.ren, calF, upOf, List.cons_append, List.nil_append, Nat.reduceAdd]))
    | (apply c4 0; exact callK1 (θ := []) (hD := (isRule_ok _)); exact rfl; exact rfl; exact rfl; (try dsimp only [SV.ren, C.ren, C.ren.all, tRen, GB.ren, calF, upOf, List.cons_append, List.nil_append, Nat.reduceAdd]))
    | (refine o_gs rfl rfl (fun hc => ?_) (fun hc => ?_) <;> (try simp only [decide_eq_true_eq, decide_eq_false_iff_not, Bool.not_eq_true', Bool.not_eq_false', Bool.not_eq_true, Bool.not_eq_false, Bool.and_eq_true, Bool.or_eq_false_iff, Bool.not_not] at hc) <;> (try (first | contradiction | (exfalso; omega))))
    | (refine g_cond rfl (fun hc => ?_) (fun hc => ?_) <;> (try simp only [decide_eq_true_eq, decide_eq_false_iff_not, Bool.not_eq_true', Bool.not_eq_false', Bool.not_eq_true, Bool.not_eq_false, Bool.and_eq_true, Bool.or_eq_false_iff, Bool.not_not] at hc) <;> (try (first | contradiction | (exfalso; omega))))
  repeat (first | refine g_ret ?_ | refine q_sr ?_ | refine q_br ?_ | refine q_lr ?_ | refine q_cr ?_)
  refine ends_id ?_
  refine endK [] (h2 := ?_) (h3 := ?_) (nd := ?_)
  all_goals (repeat' first | with_reducible exact SVLe.refl | exact SVLe.any | exact SVLe.one (.sh rfl) | exact SVLe.one (.nil (by decide)) | refine SVLe.agg ?_ | refine SVLe.tup ?_ | exact TLe.nil | refine TLe.cons ?_ ?_ | exact CsLe.nil | refine CsLe.cons ?_ ?_ | exact CLe.refl | exact CLe.sh rfl | exact CLe.nil (by decide) | refine cle_i ?_ | refine cle_b ?_ | exact trivial | refine And.intro ?_ ?_ | exact Or.inl rfl | exact Or.inr rfl | refine Or.inr (row_eq ?_) | (refine Or.inr (bx_eq rfl rfl ?_); (try dsimp only [C.ren, C.ren.all]); (try exact rfl)) | exact SVLe.refl | refine sle_i ?_ | refine sle_b ?_)
  all_goals first | exact (show nodupB _ = true from rfl) | exact Or.inr rfl | (simp)
end Go.Proofs.Ytncccjpbaeaafaa
end
section
set_option linter.unusedVariables false
set_option linter.unusedSimpArgs false
set_option maxRecDepth 100000
set_option maxHeartbeats 4000000
namespace Go.Proofs.Ytncccjpbaeaafaa
open Go Foot
@[irreducible] def stepL (u : Rule') (l r : List Int) : List Int := if 0 < u.m then pushL l u.w else l.dropLast
@[irreducible] def stepR (u : Rule') (l r : List Int) : List Int := if 0 < u.m then r.dropLast else pushL (pushL r.dropLast u.w) (l.getLastD 0)
theorem pushL_len (l : List Int) (x : Int) : (pushL l x).length ≤ l.length + 1 := by unfold pushL; split <;> simp
theorem preB5 {p : Prop} (h : p := by first | with_reducible assumption | omega | (simp only [List.length_append, List.length_cons, List.length_nil, List.length_set, List.length_replicate, List.length_take, List.length_drop, List.length_tail, List.length_dropLast, List.length_reverse] at *; omega) | exact mem_len (by assumption) (by omega) | (with_reducible refine Int.le_trans (Int.ofNat_le.2 (trimR_len _)) ?_; simp only [List.length_cons, List.length_tail]; omega) | (have := vMach_bd (by assumption); omega) | (with_reducible refine Int.le_trans (Int.ofNat_le.2 (pushL_len _ _)) ?_; simp only [List.length_dropLast]; omega) | trivial) : p := h
theorem step_ok (m : Mach) (s : Int) (l r : List Int) (u : Rule') (hx : (r.length : Int) ≤ 1000) (hy : (l.length : Int) ≤ 1000) (h1 : 0 ≤ s * m.sy) (h2 : s * m.sy < 9223372036854775) (h3 : 0 ≤ r.getLastD 0) (h4 : r.getLastD 0 < 9223372036854775) (h5 : s * m.sy + r.getLastD 0 < m.ru.length) (h6 : m.ru[(s * m.sy + r.getLastD 0).toNat]? = some u) : Does Try.prog 98 [.one (.gv 0)] [ruBx m s 1 2, roI l, roI r] (.one (boo (decide ((stepL u l r).length ≤ 200 ∧ (stepR u l r).length ≤ 200)))) [ruBx m u.n 3 4, .dead, .dead, roI (stepL u l r), roI (stepR u l r)] := by
  have h6' := (List.getElem?_eq_some_iff.1 h6).2
  refine does_of (k := 3) Try.func98 rfl Try.ntmps98 rfl rfl fun w F0 S0 ρ0 => ?_
  dsimp only [argT, argH]
  repeat' first
    | refine g_seq ?_
    | refine g_skip ?_
    | refine g_exit ?_
    | refine g_block ?_
    | refine g_reg ?_
    | refine g_if_t rfl ?_
    | refine g_if_f rfl ?_
    | refine o_nil ?_
    | refine q_s ?_
    | refine q_se ?_
    | refine q_b ?_
    | refine q_be rfl ?_
    | refine q_bn rfl ?_
    | refine q_le ?_
    | refine q_ce ?_
    | (apply n3; exact a_new (gb := .bx _) rfl; exact rfl; (try dsimp only [List.map_cons, List.map_nil, scC, Nat.reduceAdd]))
    | (apply p3; (first | exact pu1 | exact puL | exact puC | exact puN | exact a_len_str rfl (fT rfl)); exact rfl)
    | (apply w3; (first | exact a_st_bx rfl rfl rfl rfl (fN rfl rfl) (Nat.le_of_ble_eq_true rfl) rfl | exact a_stE (E := eR) ⟨_, _, _⟩ rfl rfl rfl rfl (fN rfl rfl) bnd (by exact rfl) | exact a_stE (E := eW) _ rfl rfl rfl rfl (fN rfl rfl) bnd (by exact rfl) | exact a_st_rowI rfl rfl rfl rfl (fN rfl rfl) bnd | exact a_stE (E := eI) _ rfl rfl rfl rfl (fN rfl rfl) bnd (by exact rfl)); exact rfl; (try dsimp only [setRow, List.map_cons, List.map_nil, scC, List.set_cons_zero, List.set_cons_succ, List.take_succ_cons, List.take_zero, List.drop_succ_cons, List.drop_zero, Nat.reduceAdd]))
    | (apply c4 0; exact callK1 (θ := []) (hD := (rule_ok _ _ _ _ preB5 preB5 preB5 preB5 preB5 preB5)); exact rfl; exact rfl; exact rfl; (try dsimp only [SV.ren, C.ren, C.ren.all, tRen, GB.ren, calF, upOf, List.cons_append, List.nil_append, Nat.reduceAdd]))
    | (apply c4 0; exact callK1 (θ := []) (hD := (ruleC_ok _ _ preB5 preB5)); exact rfl; exact rfl; exact rfl; (try dsimp only [SV.ren, C.ren, C.ren.all, tRen, GB.ren, calF, upOf, List.cons_append, List.nil_append, Nat.reduceAdd]))
    | (apply c4 1; exact callK1 (θ := [_]) (hD := (pop_ok _ preB5)); exact rfl; exact rfl; exact rfl; (try dsimp only [SV.ren, C.ren, C.ren.all, tRen, GB.ren, calF, upOf, List.cons_append, List.nil_append, Nat.reduceAdd]))
    | refine o_no rfl rfl rfl rfl ?_
    | refine o_noN rfl rfl rfl ?_
    | (apply py3; exact rfl; exact rfl; (first | exact pu1 | exact puL | exact puC | exact puN | exact a_len_str rfl (fT rfl)); exact rfl; exact rfl)
    | (apply ny3; exact rfl; exact rfl; exact a_new (gb := .bx _) rfl; exact rfl; exact rfl)
    | (apply cy4 0; exact rfl; exact rfl; exact callK1 (θ := []) (hD := (rule_ok _ _ _ _ preB5 preB5 preB5 preB5 preB5 preB5)); exact rfl; exact rfl; exact rfl; exact rfl; (try dsimp only [SV.ren, C.ren, C.ren.all, tRen, GB.ren, calF, upOf, List.cons_append, List.nil_append, Nat.reduceAdd]))
    | (apply cy4 0; exact rfl; exact rfl; exact callK1 (θ := []) (hD := (ruleC_ok _ _ preB5 preB5)); exact rfl; exact rfl; exact rfl; exact rfl; (try dsimp only [SV.ren, C.ren, C.ren.all, tRen, GB.ren, calF, upOf, List.cons_append, List.nil_append, Nat.reduceAdd]))
    | (apply cy4 1; exact rfl; exact rfl; exact callK1 (θ := [_]) (hD := (pop_ok _ preB5)); exact rfl; exact rfl; exact rfl; exact rfl; (try dsimp only [SV.ren, C.ren, C.ren.all, tRen, GB.ren, calF, upOf, List.cons_append, List.nil_append, Nat.reduceAdd]))
    | (apply g_drN (id := 4) okM [[], [], [1], [1, 2], [1, 2, 3], [], [5], [1, 2, 3, 4, 5, 6], [0, 1, 2, 3, 4, 5, 6, 7], [0, 1, 2, 3, 4, 5, 6, 7, 8], [0, 1, 2, 3, 4, 5, 6, 7, 8, 9]] [([], []), ([], []), ([], []), ([], []), ([], []), ([], []), ([], []), ([0], [1]), ([], []), ([], []), ([], [0])] 1; (focus (all_goals refine dp 0 0 [18, 19, 20, 21, 22, 23, 24] [(true, 0), (false, 1)] pu1 ?_; all_goals refine dp 1 0 [17, 22, 23] [] pu1 ?_; all_goals refine dp 2 1 [17, 22, 23] [] (a_pure (sv := .one _) rfl) ?_; all_goals refine dp 3 3 [17, 22, 23] [] (a_pure (sv := .one _) rfl) ?_; all_goals refine dp 4 7 [17, 22, 23] [] puL ?_; all_goals refine dp 5 0 [17, 18, 19, 20, 21] [] (a_pure (sv := .one _) rfl) ?_; all_goals refine dp 6 1 [17, 18, 19, 20, 21] [] puL ?_; all_goals refine duN 7 63 [17] [] (callD1 (n := _) 0 (θ := [_]) (hD := (push_ok _ _ preB5))) (by exact rfl) (by exact rfl) ?_; all_goals refine dp 8 255 [] [] (a_pure (sv := .one _) rfl) ?_; all_goals refine dp 9 511 [] [] (a_pure (sv := .one _) rfl) ?_; all_goals refine duE 10 1023 [] [] (by first | exact a_st_bx rfl rfl rfl rfl (fN rfl rfl) (Nat.le_of_ble_eq_true rfl) rfl | exact a_stE (E := eW) _ rfl rfl rfl rfl (fN rfl rfl) bnd (by exact rfl)) (by exact rfl) (by exact rfl) ?_; all_goals (refine d_nil ?_; dsimp only [selT, selH, trues, SV.ren, C.ren, C.ren.all, tRen, GB.ren, calF, upOf, List.cons_append, List.nil_append, Nat.reduceAdd, setRow, List.map_cons, List.map_nil, scC, List.set_cons_zero, List.set_cons_succ, List.take_succ_cons, List.take_zero, List.drop_succ_cons, List.drop_zero]))); any_goals kernel_rfl)
    | (apply g_drN (id := 5) okM [[], [], [1], [1, 2], [1, 2, 3], [], [5], [1, 2, 3, 4, 5, 6], [], [8], [8, 9], [8, 9, 10], [1, 2, 3, 4, 5, 6, 7, 8, 9, 10, 11], [1, 2, 3, 4, 5, 6, 7, 8, 9, 10, 11, 12], [0, 1, 2, 3, 4, 5, 6, 7, 8, 9, 10, 11, 12, 13], [0, 1, 2, 3, 4, 5, 6, 7, 8, 9, 10, 11, 12, 13, 14], [0, 1, 2, 3, 4, 5, 6, 7, 8, 9, 10, 11, 12, 13, 14, 15]] [([], []), ([], []), ([], []), ([], []), ([], []), ([], []), ([], []), ([0], [4]), ([], []), ([], []), ([], []), ([], []), ([], []), ([1], [5]), ([], []), ([], []), ([], [0])] 2; (focus (all_goals refine dp 0 0 [28, 29, 30, 31, 32, 33, 34, 35, 36, 37, 38, 39, 40] [(true, 0), (false, 4), (true, 1), (false, 5)] pu1 ?_; all_goals refine dp 1 0 [27, 32, 33, 35, 36, 37, 38] [] pu1 ?_; all_goals refine dp 2 1 [27, 32, 33, 35, 36, 37, 38] [] (a_pure (sv := .one _) rfl) ?_; all_goals refine dp 3 3 [27, 32, 33, 35, 36, 37, 38] [] (a_pure (sv := .one _) rfl) ?_; all_goals refine dp 4 7 [27, 32, 33, 35, 36, 37, 38] [] puL ?_; all_goals refine dp 5 0 [27, 28, 29, 30, 31, 35, 36, 37, 38] [] (a_pure (sv := .one _) rfl) ?_; all_goals refine dp 6 1 [27, 28, 29, 30, 31, 35, 36, 37, 38] [] puL ?_; all_goals refine duN 7 63 [27, 35, 36, 37, 38] [] (callD1 (n := _) 0 (θ := [_]) (hD := (push_ok _ _ preB5))) (by exact rfl) (by exact rfl) ?_; all_goals refine dp 8 0 [27, 28, 29, 30, 31, 32, 33, 34] [(true, 0), (false, 4)] pu1 ?_; all_goals refine dp 9 1 [27, 28, 29, 30, 31, 32, 33, 34] [(true, 0), (false, 4)] (a_pure (sv := .one _) rfl) ?_; all_goals refine dp 10 3 [27, 28, 29, 30, 31, 32, 33, 34] [(true, 0), (false, 4)] (a_pure (sv := .one _) rfl) ?_; all_goals refine dp 11 7 [27, 28, 29, 30, 31, 32, 33, 34] [(true, 0), (false, 4)] puL ?_; all_goals refine dp 12 2047 [27] [] (callD1 (n := _) 1 (θ := []) (hD := (nearest_ok _ preB5))) ?_; all_goals refine duN 13 4095 [27] [] (callD1 (n := _) 1 (θ := [_]) (hD := (push_ok _ _ preB5))) (by exact rfl) (by exact rfl) ?_; all_goals refine dp 14 16383 [] [] (a_pure (sv := .one _) rfl) ?_; all_goals refine dp 15 32767 [] [] (a_pure (sv := .one _) rfl) ?_; all_goals refine duE 16 65535 [] [] (by first | exact a_st_bx rfl rfl rfl rfl (fN rfl rfl) (Nat.le_of_ble_eq_true rfl) rfl | exact a_stE (E := eW) _ rfl rfl rfl rfl (fN rfl rfl) bnd (by exact rfl)) (by exact rfl) (by exact rfl) ?_; all_goals (refine d_nil ?_; dsimp only [selT, selH, trues, SV.ren, C.ren, C.ren.all, tRen, GB.ren, calF, upOf, List.cons_append, List.nil_append, Nat.reduceAdd, setRow, List.map_cons, List.map_nil, scC, List.set_cons_zero, List.set_cons_succ, List.take_succ_cons, List.take_zero, List.drop_succ_cons, List.drop_zero]))); any_goals kernel_rfl)
    | (refine o_gs rfl rfl (fun hc => ?_) (fun hc => ?_) <;> (try simp only [decide_eq_true_eq, decide_eq_false_iff_not, Bool.not_eq_true', Bool.not_eq_false', Bool.not_eq_true, Bool.not_eq_false, Bool.and_eq_true, Bool.or_eq_false_iff, Bool.not_not] at hc) <;> (try (first | contradiction | (exfalso; omega))))
    | (refine g_cond rfl (fun hc => ?_) (fun hc => ?_) <;> (try simp only [decide_eq_true_eq, decide_eq_false_iff_not, Bool.not_eq_true', Bool.not_eq_false', Bool.not_eq_true, Bool.not_eq_false, Bool.and_eq_true, Bool.or_eq_false_iff, Bool.not_not] at hc) <;> (try (first | contradiction | (exfalso; omega))))
  all_goals (simp only [h6'] at *)
  all_goals
    repeat (first | refine g_ret ?_ | refine q_sr ?_ | refine q_br ?_ | refine q_lr ?_ | refine q_cr ?_)
    refine ends_id ?_
    refine endK [?_, ?_] (h2 := ?_) (h3 := ?_) (nd := ?_)
    rotate_left 2
    all_goals (repeat' first | with_reducible exact SVLe.refl | exact SVLe.any | exact SVLe.one (.sh rfl) | exact SVLe.one (.nil (by decide)) | refine SVLe.agg ?_ | refine SVLe.tup ?_ | exact TLe.nil | refine TLe.cons ?_ ?_ | exact CsLe.nil | refine CsLe.cons ?_ ?_ | exact CLe.refl | exact CLe.sh rfl | exact CLe.nil (by decide) | refine cle_i ?_ | refine cle_b ?_ | exact trivial | refine And.intro ?_ ?_ | exact Or.inl rfl | exact Or.inr rfl | refine Or.inr (row_eq ?_) | (refine Or.inr (bx_eq rfl rfl ?_); (try dsimp only [C.ren, C.ren.all]); (try exact rfl)) | exact SVLe.refl | refine sle_i ?_ | refine sle_b ?_)
    all_goals first | exact (show nodupB _ = true from rfl) | exact Or.inr rfl | (((first | rw [decide_eq_decide] | (symm; rw [decide_eq_false_iff_not]) | skip); simp only [stepL, stepR, if_true, if_false, *]; try omega))
theorem config_ok (m : Mach) (s : Int) (l r : List Int) (hx : (r.length : Int) ≤ 16777216) (hy : (l.length : Int) ≤ 16777216) : Does Try.prog 77 [.one (ruD m s l r)] [] (.agg [int s, .gv 0, .gv 1]) [roI l.reverse, roI r.reverse] := by
  refine does_of (k := 0) Try.func77 rfl Try.ntmps77 rfl rfl fun w F0 S0 ρ0 => ?_
  dsimp only [argT, argH]
  repeat' first
    | refine g_seq ?_
    | refine g_skip ?_
    | refine g_exit ?_
    | refine g_block ?_
    | refine g_reg ?_
    | refine g_if_t rfl ?_
    | refine g_if_f rfl ?_
    | refine o_nil ?_
    | refine q_s ?_
    | refine q_se ?_
    | refine q_b ?_
    | refine q_be rfl ?_
    | refine q_bn rfl ?_
    | refine q_le ?_
    | refine q_ce ?_
    | (apply n3; exact a_new (gb := .bx _) rfl; exact rfl; (try dsimp only [List.map_cons, List.map_nil, scC, Nat.reduceAdd]))
    | (apply g_drN (id := 1) okM [[], [0], [0, 1], [0, 1, 2], [], [4], [4, 5], [4, 5, 6], [4, 5, 6, 7], [], [9], [9, 10], [9, 10, 11], [4, 5, 6, 7, 8, 9, 10, 11, 12], [0, 1, 2, 3, 4, 5, 6, 7, 8, 9, 10, 11, 12, 13], [0, 1, 2, 3, 4, 5, 6, 7, 8, 9, 10, 11, 12, 13, 14]] [([], []), ([], []), ([], []), ([], []), ([], []), ([], []), ([], []), ([], []), ([0], []), ([], []), ([], []), ([], []), ([], []), ([1], []), ([], []), ([], [0])] 2; (focus (all_goals refine dp 0 0 [7, 8, 9, 10, 11, 12, 13, 14, 15, 16] [(true, 0), (true, 1)] pu1 ?_; all_goals refine dp 1 1 [7, 8, 9, 10, 11, 12, 13, 14, 15, 16] [(true, 0), (true, 1)] (a_pure (sv := .one _) rfl) ?_; all_goals refine dp 2 3 [7, 8, 9, 10, 11, 12, 13, 14, 15, 16] [(true, 0), (true, 1)] (a_pure (sv := .one _) rfl) ?_; all_goals refine dp 3 7 [7, 8, 9, 10, 11, 12, 13, 14, 15, 16] [(true, 0), (true, 1)] puL ?_; all_goals refine dp 4 0 [3, 4, 5, 6, 12, 13, 14, 15] [] pu1 ?_; all_goals refine dp 5 1 [3, 4, 5, 6, 12, 13, 14, 15] [] (a_pure (sv := .one _) rfl) ?_; all_goals refine dp 6 3 [3, 4, 5, 6, 12, 13, 14, 15] [] (a_pure (sv := .one _) rfl) ?_; all_goals refine dp 7 7 [3, 4, 5, 6, 12, 13, 14, 15] [] puL ?_; all_goals refine duN 8 15 [3, 4, 5, 6, 12, 13, 14, 15] [] (callD1 (n := _) 0 (θ := []) (hD := (reversed_ok _ preB5))) (by exact rfl) (by exact rfl) ?_; all_goals refine dp 9 0 [3, 4, 5, 6, 7, 8, 9, 10, 11] [(true, 0)] pu1 ?_; all_goals refine dp 10 1 [3, 4, 5, 6, 7, 8, 9, 10, 11] [(true, 0)] (a_pure (sv := .one _) rfl) ?_; all_goals refine dp 11 3 [3, 4, 5, 6, 7, 8, 9, 10, 11] [(true, 0)] (a_pure (sv := .one _) rfl) ?_; all_goals refine dp 12 7 [3, 4, 5, 6, 7, 8, 9, 10, 11] [(true, 0)] puL ?_; all_goals refine duN 13 511 [3, 4, 5, 6] [] (callD1 (n := _) 1 (θ := []) (hD := (reversed_ok _ preB5))) (by exact rfl) (by exact rfl) ?_; all_goals refine dp 14 16383 [] [] (a_pure (sv := .agg _) rfl) ?_; all_goals refine duE 15 32767 [] [] (a_st_bx rfl rfl rfl rfl (fN rfl rfl) (Nat.le_of_ble_eq_true rfl) rfl) (by exact rfl) (by exact rfl) ?_; all_goals (refine d_nil ?_; dsimp only [selT, selH, trues, SV.ren, C.ren, C.ren.all, tRen, GB.ren, calF, upOf, List.cons_append, List.nil_append, Nat.reduceAdd, setRow, List.map_cons, List.map_nil, scC, List.set_cons_zero, List.set_cons_succ, List.take_succ_cons, List.take_zero, List.drop_succ_cons, List.drop_zero]))); any_goals kernel_rfl)
    | (refine o_gs rfl rfl (fun hc => ?_) (fun hc => ?_) <;> (try simp only [decide_eq_true_eq, decide_eq_false_iff_not, Bool.not_eq_true', Bool.not_eq_false', Bool.not_eq_true, Bool.not_eq_false, Bool.and_eq_true, Bool.or_eq_false_iff, Bool.not_not] at hc) <;> (try (first | contradiction | (exfalso; omega))))
    | (refine g_cond rfl (fun hc => ?_) (fun hc => ?_) <;> (try simp only [decide_eq_true_eq, decide_eq_false_iff_not, Bool.not_eq_true', Bool.not_eq_false', Bool.not_eq_true, Bool.not_eq_false, Bool.and_eq_true, Bool.or_eq_false_iff, Bool.not_not] at hc) <;> (try (first | contradiction | (exfalso; omega))))
  repeat (first | refine g_ret ?_ | refine q_sr ?_ | refine q_br ?_ | refine q_lr ?_ | refine q_cr ?_)
  refine ends_id ?_
  refine endK [?_, ?_] (h2 := ?_) (h3 := ?_) (nd := ?_)
  rotate_left 2
  all_goals (repeat' first | with_reducible exact SVLe.refl | exact SVLe.any | exact SVLe.one (.sh rfl) | exact SVLe.one (.nil (by decide)) | refine SVLe.agg ?_ | refine SVLe.tup ?_ | exact TLe.nil | refine TLe.cons ?_ ?_ | exact CsLe.nil | refine CsLe.cons ?_ ?_ | exact CLe.refl | exact CLe.sh rfl | exact CLe.nil (by decide) | refine cle_i ?_ | refine cle_b ?_ | exact trivial | refine And.intro ?_ ?_ | exact Or.inl rfl | exact Or.inr rfl | refine Or.inr (row_eq ?_) | (refine Or.inr (bx_eq rfl rfl ?_); (try dsimp only [C.ren, C.ren.all]); (try exact rfl)) | exact SVLe.refl | refine sle_i ?_ | refine sle_b ?_)
  all_goals first | exact (show nodupB _ = true from rfl) | exact Or.inr rfl | (rfl)
theorem l05Halts_ok (m : Mach) (c : Conf) (hc : (c.ri.length : Int) ≤ 16777216) (h1 : 0 ≤ c.st * m.sy) (h2 : c.st * m.sy < 9223372036854775) (h3 : 0 ≤ c.ri.headD 0) (h4 : c.ri.headD 0 < 9223372036854775) (h5 : c.st * m.sy + c.ri.headD 0 < m.ru.length) : Does Try.prog 87 [.one (maB m), .one (coB c)] [] (.one (boo (decide (m.ru[(c.st * m.sy + c.ri.headD 0).toNat]'(by omega) = ⟨0, 0, -1⟩)))) [] := by
  refine does_of (k := 0) Try.func87 rfl Try.ntmps87 rfl rfl fun w F0 S0 ρ0 => ?_
  dsimp only [argT, argH]
  repeat' first
    | refine g_seq ?_
    | refine g_skip ?_
    | refine g_exit ?_
    | refine g_block ?_
    | refine g_reg ?_
    | refine g_if_t rfl ?_
    | refine g_if_f rfl ?_
    | refine o_nil ?_
    | refine q_s ?_
    | refine q_se ?_
    | refine q_b ?_
    | refine q_be rfl ?_
    | refine q_bn rfl ?_
    | refine q_le ?_
    | refine q_ce ?_
    | (apply p3; exact a_pure (sv := .one _) rfl; exact rfl)
    | (apply g_drN (id := 1) okM [[], [0], [0, 1], [0, 1, 2], [], [], [4, 5], [0, 1, 2, 3, 4, 5, 6], [0, 1, 2, 3, 4, 5, 6, 7], [4, 5, 6], [0, 1, 2, 3, 4, 5, 6, 7, 8, 9], [0, 1, 2, 3, 4, 5, 6, 7, 8, 9, 10]] [([], []), ([], []), ([], []), ([], []), ([], []), ([], []), ([], []), ([], []), ([], []), ([], []), ([], []), ([], [])] 0; (focus (all_goals refine dp 0 0 [9, 10, 11, 14] [] pu1 ?_; all_goals refine dp 1 1 [9, 10, 11, 14] [] (a_pure (sv := .one _) rfl) ?_; all_goals refine dp 2 3 [9, 10, 11, 14] [] (a_pure (sv := .one _) rfl) ?_; all_goals refine dp 3 7 [9, 10, 11, 14] [] puL ?_; all_goals refine dp 4 0 [5, 6, 7, 8, 10] [] pu1 ?_; all_goals refine dp 5 0 [5, 6, 7, 8, 9] [] pu1 ?_; all_goals refine dp 6 3 [5, 6, 7, 8] [] (by first | exact callD1 (n := _) 0 (θ := []) (hD := (l05At_ok _ _ preB5 preB5 preB5 preB5 preB5)) | exact callD1 (n := _) 0 (θ := []) (hD := (l05AtC_ok _ _ preB5 preB5))) ?_; all_goals refine dp 7 127 [14] [] puI ?_; all_goals refine dp 8 255 [14] [] puL ?_; all_goals refine dp 9 28 [5, 6, 7, 8, 12, 13] [] (callD1 (n := _) 0 (θ := []) (hD := l05None_ok)) ?_; all_goals refine dp 10 1023 [] [] (by first | exact a_eqRule rfl rfl | exact a_eqRule (s := ⟨_, _, _⟩) rfl rfl | exact a_eqRule (r := ⟨_, _, _⟩) rfl rfl | exact a_eqRule (r := ⟨_, _, _⟩) (s := ⟨_, _, _⟩) rfl rfl) ?_; all_goals refine dp 11 2047 [] [] pu1 ?_; all_goals (refine d_nil ?_; dsimp only [selT, selH, trues, SV.ren, C.ren, C.ren.all, tRen, GB.ren, calF, upOf, List.cons_append, List.nil_append, Nat.reduceAdd, setRow, List.map_cons, List.map_nil, scC, List.set_cons_zero, List.set_cons_succ, List.take_succ_cons, List.take_zero, List.drop_succ_cons, List.drop_zero]))); any_goals kernel_rfl)
    | (refine o_gs rfl rfl (fun hc => ?_) (fun hc => ?_) <;> (try simp only [decide_eq_true_eq, decide_eq_false_iff_not, Bool.not_eq_true', Bool.not_eq_false', Bool.not_eq_true, Bool.not_eq_false, Bool.and_eq_true, Bool.or_eq_false_iff, Bool.not_not] at hc) <;> (try (first | contradiction | (exfalso; omega))))
    | (refine g_cond rfl (fun hc => ?_) (fun hc => ?_) <;> (try simp only [decide_eq_true_eq, decide_eq_false_iff_not, Bool.not_eq_true', Bool.not_eq_false', Bool.not_eq_true, Bool.not_eq_false, Bool.and_eq_true, Bool.or_eq_false_iff, Bool.not_not] at hc) <;> (try (first | contradiction | (exfalso; omega))))
  repeat (first | refine g_ret ?_ | refine q_sr ?_ | refine q_br ?_ | refine q_lr ?_ | refine q_cr ?_)
  refine ends_id ?_
  refine endK [] (h2 := ?_) (h3 := ?_) (nd := ?_)
  all_goals (repeat' first | with_reducible exact SVLe.refl | exact SVLe.any | exact SVLe.one (.sh rfl) | exact SVLe.one (.nil (by decide)) | refine SVLe.agg ?_ | refine SVLe.tup ?_ | exact TLe.nil | refine TLe.cons ?_ ?_ | exact CsLe.nil | refine CsLe.cons ?_ ?_ | exact CLe.refl | exact CLe.sh rfl | exact CLe.nil (by decide) | refine cle_i ?_ | refine cle_b ?_ | exact trivial | refine And.intro ?_ ?_ | exact Or.inl rfl | exact Or.inr rfl | refine Or.inr (row_eq ?_) | (refine Or.inr (bx_eq rfl rfl ?_); (try dsimp only [C.ren, C.ren.all]); (try exact rfl)) | exact SVLe.refl | refine sle_i ?_ | refine sle_b ?_)
  all_goals first | exact (show nodupB _ = true from rfl) | exact Or.inr rfl | (rfl)
theorem l05OwnConfig_ok (c : Conf) (hx : (c.le.length : Int) ≤ 16777216) (hy : (c.ri.length : Int) ≤ 16777216) : Does Try.prog 101 [.one (coB c)] [] (.agg [int c.st, .gv 0, .gv 1]) [roI c.le, roI c.ri] := by
  refine does_of (k := 0) Try.func101 rfl Try.ntmps101 rfl rfl fun w F0 S0 ρ0 => ?_
  dsimp only [argT, argH]
  repeat' first
    | refine g_seq ?_
    | refine g_skip ?_
    | refine g_exit ?_
    | refine g_block ?_
    | refine g_reg ?_
    | refine g_if_t rfl ?_
    | refine g_if_f rfl ?_
    | refine o_nil ?_
    | refine q_s ?_
    | refine q_se ?_
    | refine q_b ?_
    | refine q_be rfl ?_
    | refine q_bn rfl ?_
    | refine q_le ?_
    | refine q_ce ?_
    | (apply n3; exact a_new (gb := .bx _) rfl; exact rfl; (try dsimp only [List.map_cons, List.map_nil, scC, Nat.reduceAdd]))
    | (apply g_drN (id := 1) okM [[], [0], [0, 1], [0, 1, 2], [], [4], [4, 5], [4, 5, 6], [4, 5, 6, 7], [], [9], [9, 10], [9, 10, 11], [4, 5, 6, 7, 8, 9, 10, 11, 12], [0, 1, 2, 3, 4, 5, 6, 7, 8, 9, 10, 11, 12, 13], [0, 1, 2, 3, 4, 5, 6, 7, 8, 9, 10, 11, 12, 13, 14]] [([], []), ([], []), ([], []), ([], []), ([], []), ([], []), ([], []), ([], []), ([0], []), ([], []), ([], []), ([], []), ([], []), ([1], []), ([], []), ([], [0])] 2; (focus (all_goals refine dp 0 0 [7, 8, 9, 10, 11, 12, 13, 14, 15, 16] [(true, 0), (true, 1)] pu1 ?_; all_goals refine dp 1 1 [7, 8, 9, 10, 11, 12, 13, 14, 15, 16] [(true, 0), (true, 1)] (a_pure (sv := .one _) rfl) ?_; all_goals refine dp 2 3 [7, 8, 9, 10, 11, 12, 13, 14, 15, 16] [(true, 0), (true, 1)] (a_pure (sv := .one _) rfl) ?_; all_goals refine dp 3 7 [7, 8, 9, 10, 11, 12, 13, 14, 15, 16] [(true, 0), (true, 1)] puL ?_; all_goals refine dp 4 0 [3, 4, 5, 6, 12, 13, 14, 15] [] pu1 ?_; all_goals refine dp 5 1 [3, 4, 5, 6, 12, 13, 14, 15] [] (a_pure (sv := .one _) rfl) ?_; all_goals refine dp 6 3 [3, 4, 5, 6, 12, 13, 14, 15] [] (a_pure (sv := .one _) rfl) ?_; all_goals refine dp 7 7 [3, 4, 5, 6, 12, 13, 14, 15] [] puL ?_; all_goals refine duN 8 15 [3, 4, 5, 6, 12, 13, 14, 15] [] (callD1 (n := _) 0 (θ := []) (hD := (l00Own_ok _ preB5))) (by exact rfl) (by exact rfl) ?_; all_goals refine dp 9 0 [3, 4, 5, 6, 7, 8, 9, 10, 11] [(true, 0)] pu1 ?_; all_goals refine dp 10 1 [3, 4, 5, 6, 7, 8, 9, 10, 11] [(true, 0)] (a_pure (sv := .one _) rfl) ?_; all_goals refine dp 11 3 [3, 4, 5, 6, 7, 8, 9, 10, 11] [(true, 0)] (a_pure (sv := .one _) rfl) ?_; all_goals refine dp 12 7 [3, 4, 5, 6, 7, 8, 9, 10, 11] [(true, 0)] puL ?_; all_goals refine duN 13 511 [3, 4, 5, 6] [] (callD1 (n := _) 1 (θ := []) (hD := (l00Own_ok _ preB5))) (by exact rfl) (by exact rfl) ?_; all_goals refine dp 14 16383 [] [] (a_pure (sv := .agg _) rfl) ?_; all_goals refine duE 15 32767 [] [] (a_st_bx rfl rfl rfl rfl (fN rfl rfl) (Nat.le_of_ble_eq_true rfl) rfl) (by exact rfl) (by exact rfl) ?_; all_goals (refine d_nil ?_; dsimp only [selT, selH, trues, SV.ren, C.ren, C.ren.all, tRen, GB.ren, calF, upOf, List.cons_append, List.nil_append, Nat.reduceAdd, setRow, List.map_cons, List.map_nil, scC, List.set_cons_zero, List.set_cons_succ, List.take_succ_cons, List.take_zero, List.drop_succ_cons, List.drop_zero]))); any_goals kernel_rfl)
    | (refine o_gs rfl rfl (fun hc => ?_) (fun hc => ?_) <;> (try simp only [decide_eq_true_eq, decide_eq_false_iff_not, Bool.not_eq_true', Bool.not_eq_false', Bool.not_eq_true, Bool.not_eq_false, Bool.and_eq_true, Bool.or_eq_false_iff, Bool.not_not] at hc) <;> (try (first | contradiction | (exfalso; omega))))
    | (refine g_cond rfl (fun hc => ?_) (fun hc => ?_) <;> (try simp only [decide_eq_true_eq, decide_eq_false_iff_not, Bool.not_eq_true', Bool.not_eq_false', Bool.not_eq_true, Bool.not_eq_false, Bool.and_eq_true, Bool.or_eq_false_iff, Bool.not_not] at hc) <;> (try (first | contradiction | (exfalso; omega))))
  repeat (first | refine g_ret ?_ | refine q_sr ?_ | refine q_br ?_ | refine q_lr ?_ | refine q_cr ?_)
  refine ends_id ?_
  refine endK [?_, ?_] (h2 := ?_) (h3 := ?_) (nd := ?_)
  rotate_left 2
  all_goals (repeat' first | with_reducible exact SVLe.refl | exact SVLe.any | exact SVLe.one (.sh rfl) | exact SVLe.one (.nil (by decide)) | refine SVLe.agg ?_ | refine SVLe.tup ?_ | exact TLe.nil | refine TLe.cons ?_ ?_ | exact CsLe.nil | refine CsLe.cons ?_ ?_ | exact CLe.refl | exact CLe.sh rfl | exact CLe.nil (by decide) | refine cle_i ?_ | refine cle_b ?_ | exact trivial | refine And.intro ?_ ?_ | exact Or.inl rfl | exact Or.inr rfl | refine Or.inr (row_eq ?_) | (refine Or.inr (bx_eq rfl rfl ?_); (try dsimp only [C.ren, C.ren.all]); (try exact rfl)) | exact SVLe.refl | refine sle_i ?_ | refine sle_b ?_)
  all_goals first | exact (show nodupB _ = true from rfl) | exact Or.inr rfl | (rfl)
end Go.Proofs.Ytncccjpbaeaafaa
end
section
set_option linter.unusedVariables false
set_option linter.unusedSimpArgs false
set_option maxRecDepth 100000
set_option maxHeartbeats 4000000
namespace Go.Proofs.Ytncccjpbaeaafaa
open Go Foot
theorem vSide_bd {sy : Int} {l : List Int} (h : vSide sy l = true) : (l.length : Int) ≤ 200 ∧ (∀ x ∈ l, 0 ≤ x ∧ x ≤ sy - 1) ∧ l.getLastD 1 ≠ 0 := by
  unfold vSide at h
  simp only [Bool.and_eq_true, List.all_eq_true, decide_eq_true_eq] at h
  exact ⟨h.2.1, h.1, h.2.2⟩
theorem vSide_mk {sy : Int} {l : List Int} (h1 : (l.length : Int) ≤ 200) (h2 : ∀ x ∈ l, 0 ≤ x ∧ x ≤ sy - 1) (h3 : l.getLastD 1 ≠ 0) : vSide sy l = true := by
  unfold vSide
  simp only [Bool.and_eq_true, List.all_eq_true, decide_eq_true_eq]
  exact ⟨h2, h1, h3⟩
theorem vConf_bd {m : Mach} {c : Conf} (h : vConf m c = true) : (0 ≤ c.st ∧ c.st ≤ m.st - 1) ∧ vSide m.sy c.le = true ∧ vSide m.sy c.ri = true := by
  unfold vConf at h
  simp only [Bool.and_eq_true, decide_eq_true_eq] at h
  exact ⟨h.1.1, h.1.2, h.2⟩
theorem vConf_mk {m : Mach} {c : Conf} (h : (0 ≤ c.st ∧ c.st ≤ m.st - 1) ∧ vSide m.sy c.le = true ∧ vSide m.sy c.ri = true) : vConf m c = true := by
  unfold vConf
  simp only [Bool.and_eq_true, decide_eq_true_eq]
  exact ⟨⟨h.1, h.2.1⟩, h.2.2⟩
abbrev noR : Rule' := ⟨0, 0, -1⟩
/-- The rule for a configuration. -/
@[irreducible] def ruAt (m : Mach) (c : Conf) : Rule' := m.ru.getD (c.st * m.sy + c.ri.headD 0).toNat noR
theorem headD_bd {sy : Int} {l : List Int} (hs : 2 ≤ sy) (h : vSide sy l = true) : 0 ≤ l.headD 0 ∧ l.headD 0 ≤ sy - 1 := by
  have := (vSide_bd h).2.1
  cases l with
  | nil => simp; omega
  | cons a l => exact this a (by simp)
theorem at_bd {m : Mach} {c : Conf} (hm : vMach m = true) (hc : vConf m c = true) : 0 ≤ c.st * m.sy ∧ 0 ≤ c.ri.headD 0 ∧ c.ri.headD 0 ≤ 5 ∧ c.st * m.sy + c.ri.headD 0 < m.ru.length ∧ (m.ru.length : Int) ≤ 6000 ∧ c.st ≤ 999 ∧ 0 ≤ c.st ∧ (c.le.length : Int) ≤ 200 ∧ (c.ri.length : Int) ≤ 200 := by
  obtain ⟨⟨h1, h2⟩, ⟨h3, h4⟩, h5⟩ := vMach_bd hm
  obtain ⟨⟨h6, h7⟩, h8, h9⟩ := vConf_bd hc
  obtain ⟨h10, h11⟩ := headD_bd h1 h9
  have a1 : c.st * m.sy ≤ (m.st - 1) * m.sy := Int.mul_le_mul_of_nonneg_right h7 (by omega)
  have a2 : (m.st - 1) * m.sy = m.sy * m.st - m.sy := by rw [Int.sub_mul, Int.mul_comm]; omega
  have a3 : m.sy * m.st ≤ 6 * m.st := Int.mul_le_mul_of_nonneg_right h2 (by omega)
  exact ⟨Int.mul_nonneg h6 (by omega), h10, by omega, by omega, by omega, by omega, h6, (vSide_bd h8).1, (vSide_bd h9).1⟩
theorem ruAt_get {m : Mach} {c : Conf} (hm : vMach m = true) (hc : vConf m c = true) : m.ru[(c.st * m.sy + c.ri.headD 0).toNat]? = some (ruAt m c) := by
  have h := at_bd hm hc
  rw [ruAt, List.getD_eq_getElem?_getD, List.getElem?_eq_getElem (by omega)]
  rfl
theorem ruAt_ge {m : Mach} {c : Conf} (hm : vMach m = true) (hc : vConf m c = true) (h : (c.st * m.sy + c.ri.headD 0).toNat < m.ru.length) : m.ru[(c.st * m.sy + c.ri.headD 0).toNat] = ruAt m c :=
  (List.getElem?_eq_some_iff.1 (ruAt_get hm hc)).2
theorem ruAt_ok {m : Mach} {c : Conf} (hm : vMach m = true) (hc : vConf m c = true) (hn : ruAt m c ≠ noR) : (0 ≤ (ruAt m c).w ∧ (ruAt m c).w ≤ m.sy - 1) ∧ ((ruAt m c).m = 1 ∨ (ruAt m c).m = -1) ∧ 0 ≤ (ruAt m c).n ∧ (ruAt m c).n ≤ m.st - 1 := by
  have hg := ruAt_get hm hc
  have := hm
  unfold vMach at this
  rw [Bool.and_eq_true, List.all_eq_true] at this
  have := this.2 _ (List.mem_of_getElem? hg)
  unfold okRule at this
  rw [decide_eq_true_eq] at this
  exact this.resolve_left hn
theorem trimR_id {l : List Int} (h : l.getLastD 1 ≠ 0) : trimR l = l := by
  unfold trimR
  cases hl : l.reverse with
  | nil => rw [List.reverse_eq_nil_iff] at hl; subst hl; rfl
  | cons a r =>
    have : l = r.reverse ++ [a] := by rw [← List.reverse_reverse l, hl, List.reverse_cons]
    subst this
    rw [List.getLastD_concat] at h
    rw [List.dropWhile_cons_of_neg (by simpa using h)]
    simp
theorem trimR_norm (l : List Int) : (trimR l).getLastD 1 ≠ 0 := by
  unfold trimR
  rw [List.getLastD_eq_getLast?, List.getLast?_reverse]
  cases h : l.reverse.dropWhile (· == 0) with
  | nil => decide
  | cons a r =>
    have := List.head?_dropWhile_not (· == (0 : Int)) l.reverse
    rw [h] at this
    simp at this
    simpa using this
theorem trimR_mem {l : List Int} {x : Int} (h : x ∈ trimR l) : x ∈ l := by
  unfold trimR at h
  rw [List.mem_reverse] at h
  exact List.mem_reverse.1 ((List.dropWhile_sublist _).mem h)
theorem trimR_cons {x : Int} {l : List Int} (h : l.getLastD 1 ≠ 0) : trimR (x :: l) = if x = 0 ∧ l = [] then [] else x :: l := by
  split
  · rename_i e
    obtain ⟨rfl, rfl⟩ := e
    decide +kernel
  · rename_i hn
    apply trimR_id
    cases l with
    | nil => simpa using hn
    | cons a l => simpa using h
theorem norm_tail {l : List Int} (h : l.getLastD 1 ≠ 0) : l.tail.getLastD 1 ≠ 0 := by
  cases l with
  | nil => simp
  | cons a l =>
    cases l with
    | nil => simp
    | cons b l => simpa using h
theorem pushL_rev {x : Int} {l : List Int} (h : l.getLastD 1 ≠ 0) : pushL l.reverse x = (trimR (x :: l)).reverse := by
  rw [trimR_cons h]
  unfold pushL
  split
  · rename_i e
    rw [List.reverse_eq_nil_iff] at e
    rw [if_pos e, e.2]
  · rename_i e
    rw [List.reverse_eq_nil_iff] at e
    rw [if_neg e, List.reverse_cons]
theorem getLastD_rev (l : List Int) (d : Int) : l.reverse.getLastD d = l.headD d := by
  rw [List.getLastD_eq_getLast?, List.getLast?_reverse]
  cases l <;> rfl
theorem dropLast_rev (l : List Int) : l.reverse.dropLast = l.tail.reverse := List.dropLast_reverse
theorem stepL_rev {m : Mach} {c : Conf} (hc : vConf m c = true) (u : Rule') : stepL u c.le.reverse c.ri.reverse = (stepS u c).le.reverse := by
  obtain ⟨_, h1, h2⟩ := vConf_bd hc
  unfold stepL stepS
  split
  · exact pushL_rev (vSide_bd h1).2.2
  · exact dropLast_rev _
theorem stepR_rev {m : Mach} {c : Conf} (hc : vConf m c = true) (u : Rule') : stepR u c.le.reverse c.ri.reverse = (stepS u c).ri.reverse := by
  obtain ⟨_, h1, h2⟩ := vConf_bd hc
  unfold stepR stepS
  split
  · exact dropLast_rev _
  · rw [dropLast_rev, pushL_rev (norm_tail (vSide_bd h2).2.2), pushL_rev (trimR_norm _), getLastD_rev]
theorem stepS_n (u : Rule') (c : Conf) : (stepS u c).st = u.n := by unfold stepS; split <;> rfl
theorem stepS_ok {m : Mach} {c : Conf} (hm : vMach m = true) (hc : vConf m c = true) (hn : ruAt m c ≠ noR) (hr : roomS (stepS (ruAt m c) c) = true) : vConf m (stepS (ruAt m c) c) = true := by
  obtain ⟨hw, hmv, hst⟩ := ruAt_ok hm hc hn
  obtain ⟨_, h1, h2⟩ := vConf_bd hc
  have hb := (vMach_bd hm).1
  obtain ⟨a1, a2, a3⟩ := vSide_bd h1
  obtain ⟨b1, b2, b3⟩ := vSide_bd h2
  unfold roomS at hr
  rw [decide_eq_true_eq] at hr
  apply vConf_mk
  rw [stepS_n]
  refine ⟨hst, vSide_mk (by omega) ?_ ?_, vSide_mk (by omega) ?_ ?_⟩
  · unfold stepS
    split
    · intro x hx
      rcases List.mem_cons.1 (trimR_mem hx) with rfl | hx
      · exact hw
      · exact a2 x hx
    · intro x hx
      exact a2 x (List.mem_of_mem_tail hx)
  · unfold stepS
    split
    · exact trimR_norm _
    · exact norm_tail a3
  · unfold stepS
    split
    · intro x hx
      exact b2 x (List.mem_of_mem_tail hx)
    · intro x hx
      rcases List.mem_cons.1 (trimR_mem hx) with rfl | hx
      · exact headD_bd hb.1 h1
      · rcases List.mem_cons.1 (trimR_mem hx) with rfl | hx
        · exact hw
        · exact b2 x (List.mem_of_mem_tail hx)
  · unfold stepS
    split
    · exact norm_tail b3
    · exact trimR_norm _
theorem stepC_ok (m : Mach) (c : Conf) (hm : vMach m = true) (hc : vConf m c = true) : Does Try.prog 98 [.one (.gv 0)] [ruBx m c.st 1 2, roI c.le.reverse, roI c.ri.reverse] (.one (boo (roomS (stepS (ruAt m c) c)))) [ruBx m (stepS (ruAt m c) c).st 3 4, .dead, .dead, roI (stepS (ruAt m c) c).le.reverse, roI (stepS (ruAt m c) c).ri.reverse] := by
  have hb := at_bd hm hc
  have := step_ok m c.st c.le.reverse c.ri.reverse (ruAt m c) (by simp; omega) (by simp; omega) (by omega) (by omega) (by rw [getLastD_rev]; omega) (by rw [getLastD_rev]; omega) (by rw [getLastD_rev]; omega) (by rw [getLastD_rev]; exact ruAt_get hm hc)
  rw [stepL_rev hc, stepR_rev hc, List.length_reverse, List.length_reverse, ← stepS_n (ruAt m c) c] at this
  unfold roomS
  exact this
theorem ruleC_ok (m : Mach) (c : Conf) (hm : vMach m = true) (hc : vConf m c = true) : Does Try.prog 97 [.one (ruD m c.st c.le.reverse c.ri.reverse)] [] (.agg (ruC (ruAt m c))) [] := by
  have hb := at_bd hm hc
  have := rule_ok m c.st c.le.reverse c.ri.reverse (by simp; omega) (by omega) (by omega) (by rw [getLastD_rev]; omega) (by rw [getLastD_rev]; omega) (by rw [getLastD_rev]; omega)
  simp only [getLastD_rev, ruAt_ge hm hc] at this
  exact this
theorem haltsC_ok (m : Mach) (c : Conf) (hm : vMach m = true) (hc : vConf m c = true) : Does Try.prog 96 [.one (ruD m c.st c.le.reverse c.ri.reverse)] [] (.one (boo (decide (ruAt m c = noR)))) [] := by
  have hb := at_bd hm hc
  have := halts_ok m c.st c.le.reverse c.ri.reverse (by simp; omega) (by omega) (by omega) (by rw [getLastD_rev]; omega) (by rw [getLastD_rev]; omega) (by rw [getLastD_rev]; omega)
  simp only [getLastD_rev, ruAt_ge hm hc] at this
  exact this
theorem atC_ok (m : Mach) (c : Conf) (hm : vMach m = true) (hc : vConf m c = true) : Does Try.prog 129 [.one (ruD m c.st c.le.reverse c.ri.reverse)] [] (.one (int (c.st * m.sy + c.ri.headD 0))) [] := by
  have hb := at_bd hm hc
  have := at_ok m c.st c.le.reverse c.ri.reverse (by simp; omega) (by omega) (by omega) (by rw [getLastD_rev]; omega) (by rw [getLastD_rev]; omega)
  simp only [getLastD_rev] at this
  exact this
theorem configC_ok (m : Mach) (c : Conf) (hx : (c.le.length : Int) ≤ 16777216) (hy : (c.ri.length : Int) ≤ 16777216) : Does Try.prog 77 [.one (ruD m c.st c.le.reverse c.ri.reverse)] [] (.agg [int c.st, .gv 0, .gv 1]) [roI c.le, roI c.ri] := by
  have := config_ok m c.st c.le.reverse c.ri.reverse (by simpa using hy) (by simpa using hx)
  rw [List.reverse_reverse, List.reverse_reverse] at this
  exact this
theorem l05HaltsC_ok (m : Mach) (c : Conf) (hm : vMach m = true) (hc : vConf m c = true) : Does Try.prog 87 [.one (maB m), .one (coB c)] [] (.one (boo (decide (ruAt m c = noR)))) [] := by
  have hb := at_bd hm hc
  have := l05Halts_ok m c (by omega) (by omega) (by omega) (by omega) (by omega) (by omega)
  simp only [ruAt_ge hm hc] at this
  exact this
theorem l05AtC_ok (m : Mach) (c : Conf) (hm : vMach m = true) (hc : vConf m c = true) : Does Try.prog 88 [.one (maB m), .one (coB c)] [] (.one (int (c.st * m.sy + c.ri.headD 0))) [] := by
  have hb := at_bd hm hc
  exact l05At_ok m c (by omega) (by omega) (by omega) (by omega) (by omega)
theorem l05StepC_ok (m : Mach) (c : Conf) (hm : vMach m = true) (hc : vConf m c = true) : Does Try.prog 91 [.one (maB m), .one (coB c)] [] (.tup [(true, [int (stepS (ruAt m c) c).st, .gv 0, .gv 1]), (false, [boo (roomS (stepS (ruAt m c) c))])]) [roI (stepS (ruAt m c) c).le, roI (stepS (ruAt m c) c).ri] := by
  have hb := at_bd hm hc
  exact l05Step_ok m c (ruAt m c) (by omega) (by omega) (by omega) (by omega) (by omega) (by omega) (by omega) (ruAt_get hm hc)
end Go.Proofs.Ytncccjpbaeaafaa
end
section
set_option linter.unusedVariables false
set_option linter.unusedSimpArgs false
set_option maxRecDepth 100000
set_option maxHeartbeats 4000000
namespace Go.Proofs.Ytncccjpbaeaafaa
open Go Foot
/-- What a run that is watched comes to. -/
structure Out (σ : Type) where
  x : σ
  n : Int
  c : Conf
  hd : Int
  halts : Bool
  full : Bool
/-- A run that is watched, from a configuration on: fc sees the configurations, fs the steps. -/
def runG {σ : Type} (m : Mach) (fc : Conf → Int → σ → σ) (fs : Conf → Int → Rule' → σ → σ) : Nat → Int → Conf → Int → σ → Out σ
  | k, n, c, hd, x =>
    if ruAt m c = noR then ⟨fc c hd x, n, c, hd, true, false⟩ else
    match k with
    | 0 => ⟨fc c hd x, n, c, hd, false, false⟩
    | k + 1 => if roomS (stepS (ruAt m c) c) then runG m fc fs k (n + 1) (stepS (ruAt m c) c) (hd + (ruAt m c).m) (fs c hd (ruAt m c) (fc c hd x)) else ⟨fs c hd (ruAt m c) (fc c hd x), n, c, hd, false, true⟩
section
variable {σ : Type} {m : Mach} {fc : Conf → Int → σ → σ} {fs : Conf → Int → Rule' → σ → σ} {b n hd : Int} {c : Conf} {x : σ} {O : Out σ}
theorem run_halt {k : Nat} (h : ruAt m c = noR) (hO : runG m fc fs k n c hd x = O) : O = ⟨fc c hd x, n, c, hd, true, false⟩ := by
  rw [← hO]; unfold runG; rw [if_pos h]
theorem run_end (h : ¬ ruAt m c = noR) (hn : n = b) (hO : runG m fc fs (b - n).toNat n c hd x = O) : O = ⟨fc c hd x, n, c, hd, false, false⟩ := by
  subst hn
  rw [← hO, show (n - n).toNat = 0 by omega]; unfold runG; rw [if_neg h]
theorem run_full (h : ¬ ruAt m c = noR) (hn : n < b) (hr : roomS (stepS (ruAt m c) c) = false) (hO : runG m fc fs (b - n).toNat n c hd x = O) : O = ⟨fs c hd (ruAt m c) (fc c hd x), n, c, hd, false, true⟩ := by
  rw [← hO, show (b - n).toNat = (b - (n + 1)).toNat + 1 by omega]; unfold runG; rw [if_neg h]; simp [hr]
theorem run_next (h : ¬ ruAt m c = noR) (hn : n < b) (hr : roomS (stepS (ruAt m c) c) = true) (hO : runG m fc fs (b - n).toNat n c hd x = O) : runG m fc fs (b - (n + 1)).toNat (n + 1) (stepS (ruAt m c) c) (hd + (ruAt m c).m) (fs c hd (ruAt m c) (fc c hd x)) = O := by
  rw [← hO, show (b - n).toNat = (b - (n + 1)).toNat + 1 by omega]; conv => rhs; unfold runG
  rw [if_neg h]; simp [hr]
end
theorem ask_ok {m : Mach} {c : Conf} {b : Int} (h : askC m c b = 0) : vMach m = true ∧ vConf m c = true ∧ 1 ≤ b ∧ b ≤ 20000 := by
  unfold askC at h
  split at h
  · rename_i h1
    split at h
    · rename_i h2; exact ⟨h1.1, h1.2, h2.1, h2.2⟩
    · cases h
  · cases h
end Go.Proofs.Ytncccjpbaeaafaa
end
section
set_option linter.unusedVariables false
set_option linter.unusedSimpArgs false
set_option maxRecDepth 100000
namespace Go.Proofs.Ytncccjpbaeaafaa
open Go Foot
/-- New slices taken as1 slices that nobody writes. -/
def C.frz (H : List GB) : C → C
  | .d x => .d x
  | .gv j => match H[j]? with | some (.row z xs) => .d (.sl false z xs) | _ => .d .junk
  | .gp _ _ => .d .junk
  | .gs _ _ _ _ => .d .junk
  | .ifc t ag cs => .ifc t ag (all cs)
  | .fn k cs => .fn k (all cs)
where
  all : List C → List C
  | [] => []
  | c :: cs => c.frz H :: all cs
def tFrz (H : List GB) : List (Bool × List C) → List (Bool × List C)
  | [] => []
  | (ag, cs) :: l => (ag, C.frz.all H cs) :: tFrz H l
def SV.frz (H : List GB) : SV → SV
  | .one c => .one (c.frz H)
  | .agg cs => .agg (C.frz.all H cs)
  | .tup l => .tup (tFrz H l)
  | .any => .any
def GB.rowNo : GB → Prop
  | .row _ xs => D.noOwn.all xs
  | .dead => True
  | _ => False
def rowsNo : List GB → Prop
  | [] => True
  | gb :: l => gb.rowNo ∧ rowsNo l
theorem rowsNo_get : ∀ {H : List GB} {i : Nat} {gb : GB}, rowsNo H → H[i]? = some gb → gb.rowNo
  | [], i, gb, _, h => by simp at h
  | g0 :: l, 0, gb, h, hi => by simp at hi; subst hi; exact h.1
  | g0 :: l, i + 1, gb, h, hi => rowsNo_get h.2 (by simpa using hi)
section
variable {w : World} {S S' : Foot} {ρ ρ' : Env} {N : Nat} {H : List GB}
/-- What is known of the new slices. -/
structure Frz (w : World) (S S' : Foot) (ρ ρ' : Env) (N : Nat) (H : List GB) : Prop where
  le : Foot.le S S'
  row : ∀ j z xs v, H[j]? = some (.row z xs) → ρ (N + j) = some v → Rep w S' (.sl false z xs) v no
mutual
theorem RepC.frz (hF : Frz w S S' ρ ρ' N H) : ∀ {c : C} {v : Value}, RepC w S ρ (c.ren (calF [] N)) v → RepC w S' ρ' (c.frz H) v
  | .d x, v, h => Rep.keep h Agree.no (Agree.refl _ _) hF.le (le_refl _)
  | .gv j, v, h => by
    have h1 : RepC w S ρ (.gv (N + j)) v := h
    unfold C.frz
    split
    · rename_i z xs e
      exact hF.row j z xs v e h1.1
    · exact h1.2
  | .gp j o, v, h => RepC.one (c := .gp (calF [] N j) o) h
  | .gs j z lo hi, v, h => RepC.one (c := .gs (calF [] N j) z lo hi) h
  | .ifc t ag cs, v, h => by
    simp only [C.ren, RepC] at h
    simp only [C.frz, RepC]
    obtain ⟨u, rfl, h⟩ := h
    refine ⟨u, rfl, ?_⟩
    cases ag with
    | true => simp only [if_true] at h ⊢; obtain ⟨vs, rfl, h⟩ := h; exact ⟨vs, rfl, RepCs.frz hF h⟩
    | false => simp only [Bool.false_eq_true, if_false] at h ⊢; exact RepCs.frz hF h
  | .fn k cs, v, h => by
    simp only [C.ren, RepC] at h
    simp only [C.frz, RepC]
    obtain ⟨vs, rfl, h⟩ := h
    exact ⟨vs, rfl, RepCs.frz hF h⟩
theorem RepCs.frz (hF : Frz w S S' ρ ρ' N H) : ∀ {cs : List C} {vs : List Value}, RepCs w S ρ (C.ren.all (calF [] N) cs) vs → RepCs w S' ρ' (C.frz.all H cs) vs
  | [], vs, h => h
  | c :: cs, vs, h => by
    simp only [C.ren.all, RepCs] at h
    simp only [C.frz.all, RepCs]
    obtain ⟨v, us, rfl, h1, h2⟩ := h
    exact ⟨v, us, rfl, RepC.frz hF h1, RepCs.frz hF h2⟩
end
theorem RepT.frz (hF : Frz w S S' ρ ρ' N H) : ∀ {l : List (Bool × List C)} {vs : List Value}, RepT w S ρ (tRen (calF [] N) l) vs → RepT w S' ρ' (tFrz H l) vs
  | [], vs, h => h
  | (ag, cs) :: l, vs, h => by
    simp only [tRen, RepT] at h
    simp only [tFrz, RepT]
    obtain ⟨v, us, rfl, h1, h2⟩ := h
    refine ⟨v, us, rfl, ?_, RepT.frz hF h2⟩
    unfold RepU at *
    cases ag with
    | true => simp only [if_true] at *; obtain ⟨vs, rfl, h⟩ := h1; exact ⟨vs, rfl, RepCs.frz hF h⟩
    | false => simp only [Bool.false_eq_true, if_false] at *; exact RepCs.frz hF h1
theorem RepS.frz (hF : Frz w S S' ρ ρ' N H) {sv : SV} {v : Value} (h : RepS w S ρ (sv.ren (calF [] N)) v) : RepS w S' ρ' (sv.frz H) v := by
  cases sv with
  | one c => exact RepC.frz hF h
  | agg cs => obtain ⟨vs, rfl, h⟩ := h; exact ⟨vs, rfl, RepCs.frz hF h⟩
  | tup l => obtain ⟨us, rfl, h⟩ := h; exact ⟨us, rfl, RepT.frz hF h⟩
  | any => trivial
end
section
variable {P : Program} {g : Gh} {st : St} {dst : Option Tmp} {ty : TypeId} {pos : String} {after : Array Edge} {guard : Option (Nat × Bool)} {x : Operand}
theorem acts_frz {o : Oper} {H' : List GB} {res : SV} (hA : ∀ N, Acts P g o st (res.ren (calF [] N)) [] (upOf (calF [] N) 0 H')) (hno : rowsNo H') : Acts P g o st (res.frz H') [] [] := by
  refine ⟨fun a w S ρ F h hfr K Q hK => ?_⟩
  obtain ⟨N, hN⟩ := h.fin
  have hkey : ∀ i gb, (i, gb) ∈ upOf (calF [] N) 0 H' → N ≤ i := fun i gb hm => by
    obtain ⟨k, gb', q1, q2⟩ := upOf_mem hm
    obtain ⟨e1, _⟩ := Prod.mk.inj q2
    rw [e1]
    show N ≤ N + (0 + k)
    omega
  refine (hA N).run a w S ρ F h (fun x hx => .inr (hN _ (hkey _ _ hx))) K Q fun v w' S1 ρ' F' hd hv => ?_
  let S2 : Foot := fun b o => S1 b o ∨ ∃ j gb, H'[j]? = some gb ∧ GB.lives gb = true ∧ F' (N + j) b o
  have hmem : ∀ j gb, H'[j]? = some gb → (N + j, gb.ren (calF [] N)) ∈ upOf (calF [] N) 0 H' := fun j gb hj => by
    have key : ∀ (l : List GB) (k j : Nat), l[j]? = some gb → (N + (k + j), gb.ren (calF [] N)) ∈ upOf (calF [] N) k l := by
      intro l
      induction l with
      | nil => intro k j hj; simp at hj
      | cons g0 l ih =>
        intro k j hj
        cases j with
        | zero => simp at hj; subst hj; simp [upOf, calF]
        | succ j =>
          have := ih (k + 1) j (by simpa using hj)
          rw [show k + (j + 1) = k + 1 + j by omega]
          simp [upOf, this]
    have := key H' 0 j hj
    rwa [Nat.zero_add] at this
  have hdone : Done w w' S S2 ρ ρ F F [] [] := by
    refine ⟨fun g hg => by simp at hg, hd.keeps, ?_, ?_, Env.le.refl _, fun i hi _ => hi, fun x hx => by simp at hx, fun x hx => by simp at hx, fun x hx => by simp at hx, fun x hx => by simp at hx, fun x hx => by simp at hx⟩
    · rintro b o (hb | ⟨j, gb, hj, _, hb⟩)
      · exact hd.newS b o hb
      · exact hd.own _ (hmem j gb hj) b o hb
    · rintro b o (hb | ⟨j, gb, hj, _, hb⟩)
      · exact hd.exS b o hb
      · exact hd.ex _ (hmem j gb hj) b o hb
  refine hK v w' S2 ρ F hdone (RepS.frz (S := S.or S1) (ρ := ρ') (N := N) ⟨?_, ?_⟩ hv)
  · rintro b o (hb | hb)
    · exact .inl hb
    · exact .inr (.inl hb)
  · intro j z xs v' hj hv'
    rcases hd.rep _ (hmem j _ hj) with e | ⟨u, e1, e2⟩
    · cases e
    · simp only at e1 e2
      rw [hv'] at e1
      cases e1
      have e3 : Rep w' (S.or S1) (.sl true z xs) v' (F' (N + j)) := e2
      have hno' : D.noOwn.all xs := rowsNo_get hno hj
      refine (sl_freeze e3 hno').keep Agree.no (Agree.refl _ _) ?_ (le_refl _)
      rintro b o (hb | hb)
      · rcases hb with hb | hb
        · exact .inl hb
        · exact .inr (.inl hb)
      · exact .inr (.inr ⟨j, _, hj, rfl, hb⟩)
theorem a_callF {f : Nat} {c0 : C} {cap : List C} {xs : List Operand} {Ts : Array TypeId} {ags : List SV} {H' : List GB} {res : SV} {ld : List Nat}
    (hD : Does P f ags [] res H') (hc : opd st x = .one c0) (hv : fnv c0 = some (.func f, cap)) (hE : entB P f = true)
    (ha : ASLe st.h ld (xs.map (opd st) ++ cap.map .one) ags) (hcl : ∀ f, ags.map (SV.ren f) = ags) (hlt : ltA 0 ags = true) (hp : res.plain) (hpH : plainH H') (hno : rowsNo H') (hltr : res.lt H'.length = true) (hltH' : allG H'.length H' = true) :
    Acts P g ⟨dst, .call { callee := .value x, args := xs.toArray, argTypes := Ts }, ty, pos, after, guard⟩ st (res.frz H') [] [] := by
  refine acts_frz (fun N => ?_) hno
  exact a_call (θ := []) (m := N) (ld := ld) hD hc hv hE (by rw [hcl]; exact ha) trivial rfl rfl rfl (List.all_eq_true.2 fun i _ => rfl) (.inr ⟨hp, hpH⟩) hlt rfl hltr hltH' rfl rfl
/-- A slice that is written down and that nobody writes. -/
theorem a_litF {α : Type} (E : Enc α) (l : List α) {T z b n : Nat} {ps : List (Nat × Operand)} {cs : List C} {row : List D} (hP : lk2 tabP T = some (z, b)) (hn : ps.length = n) (ho : inOrder 0 ps = true) (hc : catCells st z ps = some cs) (hd : allD st.h cs = some row) (hrow : rows E l = row) (hz : E.z = z) (hsm : Nat.ble (n * z) 16777216 = true) (hno : D.noOwn.all (rows E l)) :
    Acts Try.prog g ⟨dst, .buildSlice T n ps.toArray, ty, pos, after, guard⟩ st (.one (.d (.sl false z (rows E l)))) [] [] :=
  acts_frz (res := .one (.gv 0)) (H' := [.row z (rows E l)]) (fun N => a_litE (i := N + 0) E l hP hn ho hc hd hrow hz hsm) ⟨hno, trivial⟩
end
section
variable {g : Gh} {t : List (Nat × SV)} {h : List (Nat × GB)} {n : Nat} {dst : Option Tmp} {ty : TypeId} {pos : String} {after : Array Edge} {guard : Option (Nat × Bool)} {x : Operand} {f : Nat} {c0 : C} {cap : List C} {xs : List Operand} {Ts : Array TypeId} {ags : List SV} {H' : List GB} {res : SV} {sv : SV}
theorem callF (hc : opd ⟨t, h, n⟩ x = .one c0 := by exact rfl) (hv : fnv c0 = some (.func f, cap) := by exact rfl) (hE : entB Try.prog f = true := by exact fQ rfl) (ha : ASLe h (rest n []) (xs.map (opd ⟨t, h, n⟩) ++ cap.map .one) ags := by (repeat (first | exact ASLe.nil | refine ASLe.cons ?_ ?_ | exact SVLe.refl | exact SVLe.any | refine SVLe.one ?_ | refine SVLe.agg ?_ | exact CsLe.nil | refine CsLe.cons ?_ ?_ | exact CLe.refl | exact CLe.sh rfl | exact CLe.nil (by decide) | refine CLe.fn ?_ | refine CLe.fnD ?_ | refine CLe.ifc ?_ | refine CLe.ifcD ?_ | exact CLe.lendA rfl rfl nowR | refine CLe.lendVA rfl rfl ?_ | refine CLe.lendPA rfl rfl rfl ?_)); first | done | fail) (hD : Does Try.prog f ags [] res H')
    (hcl : ∀ f, ags.map (SV.ren f) = ags := by (intro f; exact rfl)) (hlt : ltA 0 ags = true := by exact rfl) (hp : res.plain := by repeat (first | exact trivial | exact plain_rows (fun _ => by repeat (first | exact trivial | refine And.intro ?_ ?_)) | refine And.intro ?_ ?_)) (hpH : plainH H' := by repeat (first | exact trivial | exact plain_rows (fun _ => by repeat (first | exact trivial | refine And.intro ?_ ?_)) | refine And.intro ?_ ?_)) (hno : rowsNo H' := by repeat (first | exact trivial | exact nowR | refine And.intro ?_ ?_))
    (hltr : res.lt H'.length = true := by exact rfl) (hltH' : allG H'.length H' = true := by exact rfl) (hsv : res.frz H' = sv := by exact rfl) :
    Acts Try.prog g ⟨dst, .call { callee := .value x, args := xs.toArray, argTypes := Ts }, ty, pos, after, guard⟩ ⟨t, h, n⟩ sv [] [] :=
  hsv ▸ a_callF (ld := rest n []) hD hc hv hE ha hcl hlt hp hpH hno hltr hltH'
end
section
variable {g : Gh} {t : List (Nat × SV)} {h : List (Nat × GB)} {n : Nat} {rs : List Rs} {fs : List Bool} {u uk : List Nat} {dst : Option Tmp} {ty : TypeId} {pos : String} {after : Array Edge} {guard : Option (Nat × Bool)} {x : Operand} {f : Nat} {c0 : C} {cap : List C} {xs : List Operand} {Ts : Array TypeId} {ags : List SV} {H' : List GB} {res : SV} {sv : SV}
theorem callFD (m : Nat) (hc : opd (visSt ⟨t, h, n⟩ rs fs u uk) x = .one c0 := by exact rfl) (hv : fnv c0 = some (.func f, cap) := by exact rfl) (hE : entB Try.prog f = true := by exact fQ rfl) (ha : ASLe (visSt ⟨t, h, n⟩ rs fs u uk).h (rest (n + m) []) (xs.map (opd (visSt ⟨t, h, n⟩ rs fs u uk)) ++ cap.map .one) ags := by (repeat (first | exact ASLe.nil | refine ASLe.cons ?_ ?_ | exact SVLe.refl | exact SVLe.any | refine SVLe.one ?_ | refine SVLe.agg ?_ | exact CsLe.nil | refine CsLe.cons ?_ ?_ | exact CLe.refl | exact CLe.sh rfl | exact CLe.nil (by decide) | refine CLe.fn ?_ | refine CLe.fnD ?_ | refine CLe.ifc ?_ | refine CLe.ifcD ?_ | exact CLe.lendA rfl rfl nowR | refine CLe.lendVA rfl rfl ?_ | refine CLe.lendPA rfl rfl rfl ?_)); first | done | fail) (hD : Does Try.prog f ags [] res H')
    (hcl : ∀ f, ags.map (SV.ren f) = ags := by (intro f; exact rfl)) (hlt : ltA 0 ags = true := by exact rfl) (hp : res.plain := by repeat (first | exact trivial | exact plain_rows (fun _ => by repeat (first | exact trivial | refine And.intro ?_ ?_)) | refine And.intro ?_ ?_)) (hpH : plainH H' := by repeat (first | exact trivial | exact plain_rows (fun _ => by repeat (first | exact trivial | refine And.intro ?_ ?_)) | refine And.intro ?_ ?_)) (hno : rowsNo H' := by repeat (first | exact trivial | exact nowR | refine And.intro ?_ ?_))
    (hltr : res.lt H'.length = true := by exact rfl) (hltH' : allG H'.length H' = true := by exact rfl) (hsv : res.frz H' = sv := by exact rfl) :
    Acts Try.prog g ⟨dst, .call { callee := .value x, args := xs.toArray, argTypes := Ts }, ty, pos, after, guard⟩ (visSt ⟨t, h, n⟩ rs fs u uk) sv [] [] :=
  hsv ▸ a_callF (ld := rest (n + m) []) hD hc hv hE ha hcl hlt hp hpH hno hltr hltH'
end
end Go.Proofs.Ytncccjpbaeaafaa
end
section
set_option linter.unusedVariables false
set_option linter.unusedSimpArgs false
set_option maxRecDepth 100000
set_option maxHeartbeats 4000000
namespace Go.Proofs.Ytncccjpbaeaafaa
open Go Foot
abbrev eW : Enc (List Int) := ⟨1, fun l => [.sl false 1 (rows eI l)], fun _ => rfl, by decide⟩
abbrev shW (l : List (List Int)) : C := .d (.sl false 1 (rows eW l))
abbrev roW (l : List (List Int)) : GB := .row 1 (rows eW l)
theorem mem_len {α : Type} {xs : List (List α)} {n : Int} (h : ∀ x ∈ xs, (x.length : Int) ≤ n) {i : Nat} (hi : i < xs.length) : ((xs[i]).length : Int) ≤ n := h _ (List.getElem_mem hi)
theorem preA3 {p : Prop} (h : p := by first | with_reducible assumption | omega | (simp only [List.length_append, List.length_cons, List.length_nil, List.length_set, List.length_replicate, List.length_take, List.length_drop, List.length_tail, List.length_dropLast, List.length_reverse] at *; omega) | exact mem_len (by assumption) (by omega) | trivial) : p := h
@[irreducible] def eqWs (a b : List (List Int)) : Bool := decide (a = b)
theorem eqInt64SS_ok (xs ys : List (List Int)) (hx : (xs.length : Int) ≤ 1048576) (hy : (ys.length : Int) ≤ 1048576) (hxs : ∀ x ∈ xs, (x.length : Int) ≤ 1048576) (hys : ∀ x ∈ ys, (x.length : Int) ≤ 1048576) : Does Try.prog 79 [.one (shW xs), .one (shW ys)] [] (.one (boo (eqWs xs ys))) [] := by
  refine does_of (k := 0) Try.func79 rfl Try.ntmps79 rfl rfl fun w F0 S0 ρ0 => ?_
  dsimp only [argT, argH]
  repeat' first
    | refine g_seq ?_
    | refine g_skip ?_
    | refine g_exit ?_
    | refine g_block ?_
    | refine g_reg ?_
    | refine g_if_t rfl ?_
    | refine g_if_f rfl ?_
    | refine o_nil ?_
    | refine q_s ?_
    | refine q_se ?_
    | refine q_b ?_
    | refine q_be rfl ?_
    | refine q_bn rfl ?_
    | refine q_le ?_
    | refine q_ce ?_
    | (apply p3; (first | exact pu1 | exact puN | exact a_len_str rfl (fT rfl) | exact a_ne rfl rfl | exact a_neS rfl rfl rfl | exact puC | exact a_add rfl rfl (by omega) (by omega)); exact rfl)
    | (apply g_drN (id := 6) okM [[], [], [0, 1], [0, 1, 2], [], [], [4, 5], [4, 5, 6], [0, 1, 2, 3, 4, 5, 6, 7], [0, 1, 2, 3, 4, 5, 6, 7, 8]] [([], []), ([], []), ([], []), ([], []), ([], []), ([], []), ([], []), ([], []), ([], []), ([], [])] 0; (focus (all_goals refine dp 0 0 [18, 21, 22, 23, 24] [] pu1 ?_; all_goals refine dp 1 0 [17, 21, 22, 23, 24] [] pu1 ?_; all_goals refine dp 2 3 [21, 22, 23, 24] [] puI ?_; all_goals refine dp 3 7 [21, 22, 23, 24] [] puL ?_; all_goals refine dp 4 0 [17, 18, 19, 20, 22] [] pu1 ?_; all_goals refine dp 5 0 [17, 18, 19, 20, 21] [] pu1 ?_; all_goals refine dp 6 3 [17, 18, 19, 20] [] puI ?_; all_goals refine dp 7 7 [17, 18, 19, 20] [] puL ?_; all_goals refine dp 8 255 [] [] (callD1 (n := _) 0 (θ := []) (hD := (eqInt64S_ok _ _ preA3 preA3))) ?_; all_goals refine dp 9 511 [] [] (a_pure (sv := .one _) rfl) ?_; all_goals (refine d_nil ?_; dsimp only [selT, selH, trues, SV.ren, C.ren, C.ren.all, tRen, GB.ren, calF, upOf, List.cons_append, List.nil_append, Nat.reduceAdd, setRow, List.map_cons, List.map_nil, scC, List.set_cons_zero, List.set_cons_succ, List.take_succ_cons, List.take_zero, List.drop_succ_cons, List.drop_zero]))); any_goals kernel_rfl)
    | (refine o_gs rfl rfl (fun hc => ?_) (fun hc => ?_) <;> (try simp only [decide_eq_true_eq, decide_eq_false_iff_not, Bool.not_eq_true', Bool.not_eq_false', Bool.not_eq_true, Bool.not_eq_false, Bool.and_eq_true, Bool.or_eq_false_iff, Bool.not_not] at hc) <;> (try (first | contradiction | (exfalso; omega))))
    | (refine g_cond rfl (fun hc => ?_) (fun hc => ?_) <;> (try simp only [decide_eq_true_eq, decide_eq_false_iff_not, Bool.not_eq_true', Bool.not_eq_false', Bool.not_eq_true, Bool.not_eq_false, Bool.and_eq_true, Bool.or_eq_false_iff, Bool.not_not] at hc) <;> (try (first | contradiction | (exfalso; omega))))
  · repeat (first | refine g_ret ?_ | refine q_sr ?_ | refine q_br ?_ | refine q_lr ?_ | refine q_cr ?_)
    refine ends_id ?_
    refine endK [] (h2 := ?_) (h3 := ?_) (nd := ?_)
    all_goals (repeat' first | with_reducible exact SVLe.refl | exact SVLe.any | exact SVLe.one (.sh rfl) | exact SVLe.one (.nil (by decide)) | refine SVLe.agg ?_ | refine SVLe.tup ?_ | exact TLe.nil | refine TLe.cons ?_ ?_ | exact CsLe.nil | refine CsLe.cons ?_ ?_ | exact CLe.refl | exact CLe.sh rfl | exact CLe.nil (by decide) | refine cle_i ?_ | refine cle_b ?_ | exact trivial | refine And.intro ?_ ?_ | exact Or.inl rfl | exact Or.inr rfl | refine Or.inr (row_eq ?_) | (refine Or.inr (bx_eq rfl rfl ?_); (try dsimp only [C.ren, C.ren.all]); (try exact rfl)) | exact SVLe.refl | refine sle_i ?_ | refine sle_b ?_)
    all_goals first | exact (show nodupB _ = true from rfl) | exact Or.inr rfl | ((symm; unfold eqWs; rw [decide_eq_false_iff_not]; rintro rfl; omega))
  refine g_loop_id ?_
  refine loopK [0, 1, 4] [] (fun i : Int => 0 ≤ i ∧ i ≤ xs.length ∧ xs.take i.toNat = ys.take i.toNat) (fun i => [(5, .one (int i))]) (fun _ => []) (fun i => (xs.length - i).toNat) (0 : Int) [] (hI := ?_) (hr := ?_)
  · exact ⟨by simp, by simp, by simp⟩
  · rintro i ⟨h0, h1, h2⟩
    dsimp only [List.cons_append, List.nil_append] at *
    skip
    repeat' first
      | refine g_seq ?_
      | refine g_skip ?_
      | refine g_exit ?_
      | refine g_block ?_
      | refine g_reg ?_
      | refine g_if_t rfl ?_
      | refine g_if_f rfl ?_
      | refine o_nil ?_
      | refine q_s ?_
      | refine q_se ?_
      | refine q_b ?_
      | refine q_be rfl ?_
      | refine q_bn rfl ?_
      | refine q_le ?_
      | refine q_ce ?_
      | (apply p3; (first | exact pu1 | exact puN | exact a_len_str rfl (fT rfl) | exact puC | exact a_add rfl rfl (by omega) (by omega)); exact rfl)
      | (apply g_drN (id := 6) okM [[], [], [0, 1], [0, 1, 2], [], [], [4, 5], [4, 5, 6], [0, 1, 2, 3, 4, 5, 6, 7], [0, 1, 2, 3, 4, 5, 6, 7, 8]] [([], []), ([], []), ([], []), ([], []), ([], []), ([], []), ([], []), ([], []), ([], []), ([], [])] 0; (focus (all_goals refine dp 0 0 [18, 21, 22, 23, 24] [] pu1 ?_; all_goals refine dp 1 0 [17, 21, 22, 23, 24] [] pu1 ?_; all_goals refine dp 2 3 [21, 22, 23, 24] [] puI ?_; all_goals refine dp 3 7 [21, 22, 23, 24] [] puL ?_; all_goals refine dp 4 0 [17, 18, 19, 20, 22] [] pu1 ?_; all_goals refine dp 5 0 [17, 18, 19, 20, 21] [] pu1 ?_; all_goals refine dp 6 3 [17, 18, 19, 20] [] puI ?_; all_goals refine dp 7 7 [17, 18, 19, 20] [] puL ?_; all_goals refine dp 8 255 [] [] (callD1 (n := _) 0 (θ := []) (hD := (eqInt64S_ok _ _ preA3 preA3))) ?_; all_goals refine dp 9 511 [] [] (a_pure (sv := .one _) rfl) ?_; all_goals (refine d_nil ?_; dsimp only [selT, selH, trues, SV.ren, C.ren, C.ren.all, tRen, GB.ren, calF, upOf, List.cons_append, List.nil_append, Nat.reduceAdd, setRow, List.map_cons, List.map_nil, scC, List.set_cons_zero, List.set_cons_succ, List.take_succ_cons, List.take_zero, List.drop_succ_cons, List.drop_zero]))); any_goals kernel_rfl)
      | (refine o_gs rfl rfl (fun hc => ?_) (fun hc => ?_) <;> (try simp only [decide_eq_true_eq, decide_eq_false_iff_not, Bool.not_eq_true', Bool.not_eq_false', Bool.not_eq_true, Bool.not_eq_false, Bool.and_eq_true, Bool.or_eq_false_iff, Bool.not_not] at hc) <;> (try (first | contradiction | (exfalso; omega))))
      | (refine g_cond rfl (fun hc => ?_) (fun hc => ?_) <;> (try simp only [decide_eq_true_eq, decide_eq_false_iff_not, Bool.not_eq_true', Bool.not_eq_false', Bool.not_eq_true, Bool.not_eq_false, Bool.and_eq_true, Bool.or_eq_false_iff, Bool.not_not] at hc) <;> (try (first | contradiction | (exfalso; omega))))
    · repeat (first | refine g_ret ?_ | refine q_sr ?_ | refine q_br ?_ | refine q_lr ?_ | refine q_cr ?_)
      refine ends_id ?_
      refine endK [] (h2 := ?_) (h3 := ?_) (nd := ?_)
      all_goals (repeat' first | with_reducible exact SVLe.refl | exact SVLe.any | exact SVLe.one (.sh rfl) | exact SVLe.one (.nil (by decide)) | refine SVLe.agg ?_ | refine SVLe.tup ?_ | exact TLe.nil | refine TLe.cons ?_ ?_ | exact CsLe.nil | refine CsLe.cons ?_ ?_ | exact CLe.refl | exact CLe.sh rfl | exact CLe.nil (by decide) | refine cle_i ?_ | refine cle_b ?_ | exact trivial | refine And.intro ?_ ?_ | exact Or.inl rfl | exact Or.inr rfl | refine Or.inr (row_eq ?_) | (refine Or.inr (bx_eq rfl rfl ?_); (try dsimp only [C.ren, C.ren.all]); (try exact rfl)) | exact SVLe.refl | refine sle_i ?_ | refine sle_b ?_)
      all_goals first | exact (show nodupB _ = true from rfl) | exact Or.inr rfl | ((symm; unfold eqWs; rw [decide_eq_false_iff_not]; rintro rfl; unfold eqI at *; simp_all))
    · refine q_again (i + 1) [] (by exact stk) ?_ ?_
      · exact ⟨by omega, by omega, take_next h0 (by omega) (by omega) h2 (by unfold eqI at *; simp_all)⟩
      · omega
    · have hl := take_end (by omega) (by omega) h2
      repeat (first | refine g_ret ?_ | refine q_sr ?_ | refine q_br ?_ | refine q_lr ?_ | refine q_cr ?_)
      refine ends_id ?_
      refine endK [] (h2 := ?_) (h3 := ?_) (nd := ?_)
      all_goals (repeat' first | with_reducible exact SVLe.refl | exact SVLe.any | exact SVLe.one (.sh rfl) | exact SVLe.one (.nil (by decide)) | refine SVLe.agg ?_ | refine SVLe.tup ?_ | exact TLe.nil | refine TLe.cons ?_ ?_ | exact CsLe.nil | refine CsLe.cons ?_ ?_ | exact CLe.refl | exact CLe.sh rfl | exact CLe.nil (by decide) | refine cle_i ?_ | refine cle_b ?_ | exact trivial | refine And.intro ?_ ?_ | exact Or.inl rfl | exact Or.inr rfl | refine Or.inr (row_eq ?_) | (refine Or.inr (bx_eq rfl rfl ?_); (try dsimp only [C.ren, C.ren.all]); (try exact rfl)) | exact SVLe.refl | refine sle_i ?_ | refine sle_b ?_)
      all_goals first | exact (show nodupB _ = true from rfl) | exact Or.inr rfl | ((symm; unfold eqWs; rw [decide_eq_true_eq]; exact hl))
end Go.Proofs.Ytncccjpbaeaafaa
end
section
set_option linter.unusedVariables false
set_option linter.unusedSimpArgs false
set_option maxRecDepth 100000
set_option maxHeartbeats 4000000
namespace Go.Proofs.Ytncccjpbaeaafaa
open Go Foot
/-- A proof: its kind, its numbers, its words. -/
structure Prf where
  k : Int
  nu : List Int
  wo : List (List Int)
abbrev prC (p : Prf) : List C := [int p.k, shI p.nu, shW p.wo]
abbrev prO (p : Prf) (a b : Nat) : List C := [int p.k, .gv a, .gv b]
theorem preA4 {p : Prop} (h : p := by first | with_reducible assumption | omega | (simp only [List.length_append, List.length_cons, List.length_nil, List.length_set, List.length_replicate, List.length_take, List.length_drop, List.length_tail, List.length_dropLast, List.length_reverse] at *; omega) | exact mem_len (by assumption) (by omega) | trivial) : p := h
@[irreducible] def eqP (a b : Prf) : Bool := decide (a.k = b.k ∧ a.nu = b.nu ∧ a.wo = b.wo)
theorem eqProof_ok (a b : Prf) (h1 : (a.nu.length : Int) ≤ 1048576) (h2 : (b.nu.length : Int) ≤ 1048576) (h3 : (a.wo.length : Int) ≤ 1048576) (h4 : (b.wo.length : Int) ≤ 1048576) (h5 : ∀ x ∈ a.wo, (x.length : Int) ≤ 1048576) (h6 : ∀ x ∈ b.wo, (x.length : Int) ≤ 1048576) : Does Try.prog 40 [.agg (prC a), .agg (prC b)] [] (.one (boo (eqP a b))) [] := by
  refine does_of (k := 0) Try.func40 rfl Try.ntmps40 rfl rfl fun w F0 S0 ρ0 => ?_
  dsimp only [argT, argH]
  repeat' first
    | refine g_seq ?_
    | refine g_skip ?_
    | refine g_exit ?_
    | refine g_block ?_
    | refine g_reg ?_
    | refine g_if_t rfl ?_
    | refine g_if_f rfl ?_
    | refine o_nil ?_
    | refine q_s ?_
    | refine q_se ?_
    | refine q_b ?_
    | refine q_be rfl ?_
    | refine q_bn rfl ?_
    | refine q_le ?_
    | refine q_ce ?_
    | (apply n3; exact a_new (gb := .bx _) rfl; exact rfl; (try dsimp only [List.map_cons, List.map_nil, scC, Nat.reduceAdd]))
    | (apply p3; (first | exact a_ne rfl rfl | exact a_neS rfl rfl rfl | exact puL); exact rfl)
    | (apply c4 0; exact callK1 (θ := []) (hD := (eqInt64S_ok _ _ preA4 preA4)); exact rfl; exact rfl; exact rfl; (try dsimp only [SV.ren, C.ren, C.ren.all, tRen, GB.ren, calF, upOf, List.cons_append, List.nil_append, Nat.reduceAdd]))
    | (apply c4 0; exact callK1 (θ := []) (hD := (eqInt64SS_ok _ _ preA4 preA4 preA4 preA4)); exact rfl; exact rfl; exact rfl; (try dsimp only [SV.ren, C.ren, C.ren.all, tRen, GB.ren, calF, upOf, List.cons_append, List.nil_append, Nat.reduceAdd]))
    | (refine o_gs rfl rfl (fun hc => ?_) (fun hc => ?_) <;> (try simp only [decide_eq_true_eq, decide_eq_false_iff_not, Bool.not_eq_true', Bool.not_eq_false', Bool.not_eq_true, Bool.not_eq_false, Bool.and_eq_true, Bool.or_eq_false_iff, Bool.not_not] at hc) <;> (try (first | contradiction | (exfalso; omega))))
    | (refine g_cond rfl (fun hc => ?_) (fun hc => ?_) <;> (try simp only [decide_eq_true_eq, decide_eq_false_iff_not, Bool.not_eq_true', Bool.not_eq_false', Bool.not_eq_true, Bool.not_eq_false, Bool.and_eq_true, Bool.or_eq_false_iff, Bool.not_not] at hc) <;> (try (first | contradiction | (exfalso; omega))))
  all_goals
    repeat (first | refine g_ret ?_ | refine q_sr ?_ | refine q_br ?_ | refine q_lr ?_ | refine q_cr ?_)
    refine ends_id ?_
    refine endK [] (h2 := ?_) (h3 := ?_) (nd := ?_)
    all_goals (repeat' first | with_reducible exact SVLe.refl | exact SVLe.any | exact SVLe.one (.sh rfl) | exact SVLe.one (.nil (by decide)) | refine SVLe.agg ?_ | refine SVLe.tup ?_ | exact TLe.nil | refine TLe.cons ?_ ?_ | exact CsLe.nil | refine CsLe.cons ?_ ?_ | exact CLe.refl | exact CLe.sh rfl | exact CLe.nil (by decide) | refine cle_i ?_ | refine cle_b ?_ | exact trivial | refine And.intro ?_ ?_ | exact Or.inl rfl | exact Or.inr rfl | refine Or.inr (row_eq ?_) | (refine Or.inr (bx_eq rfl rfl ?_); (try dsimp only [C.ren, C.ren.all]); (try exact rfl)) | exact SVLe.refl | refine sle_i ?_ | refine sle_b ?_)
    all_goals first | exact (show nodupB _ = true from rfl) | exact Or.inr rfl | ((symm; unfold eqP; (try unfold eqI at *); (try unfold eqWs at *); simp_all))
end Go.Proofs.Ytncccjpbaeaafaa
end
section
set_option linter.unusedVariables false
set_option linter.unusedSimpArgs false
set_option maxRecDepth 100000
set_option maxHeartbeats 4000000
namespace Go.Proofs.Ytncccjpbaeaafaa
open Go Foot
end Go.Proofs.Ytncccjpbaeaafaa
end
section
set_option linter.unusedVariables false
set_option linter.unusedSimpArgs false
set_option maxRecDepth 100000
set_option maxHeartbeats 4000000
namespace Go.Proofs.Ytncccjpbaeaafaa
open Go Foot
theorem preB32 {p : Prop} (h : p := by first | with_reducible assumption | omega | (simp only [List.length_append, List.length_cons, List.length_nil, List.length_set, List.length_replicate, List.length_take, List.length_drop, List.length_tail, List.length_dropLast, List.length_reverse] at *; omega) | exact mem_len (by assumption) (by omega) | (with_reducible refine Int.le_trans (Int.ofNat_le.2 (trimR_len _)) ?_; simp only [List.length_cons, List.length_tail]; omega) | (exact (ruAt_ok (by assumption) (by assumption) (by assumption)).2.1) | (exact (ruAt_ok (by assumption) (by assumption) (by assumption)).2.1) | (have := vMach_bd (by assumption); omega) | (simp only [mC_ch, mC_tu]; omega) | (with_reducible refine Int.le_trans (Int.ofNat_le.2 (pushL_len _ _)) ?_; simp only [List.length_dropLast]; omega) | exact (ask_ok (by assumption)).1 | exact (ask_ok (by assumption)).2.1 | exact (ask_ok (by assumption)).2.2.1 | exact (ask_ok (by assumption)).2.2.2 | trivial) : p := h
theorem sEqual_ok (xs ys : List Int) (hx : (xs.length : Int) ≤ 16777216) (hy : (ys.length : Int) ≤ 16777216) : Does Try.prog 114 [.one (shI xs), .one (shI ys)] [] (.one (boo (eqI xs ys))) [] := by
  refine does_of (k := 0) Try.func114 rfl Try.ntmps114 rfl rfl fun w F0 S0 ρ0 => ?_
  dsimp only [argT, argH]
  repeat' first
    | refine g_seq ?_
    | refine g_skip ?_
    | refine g_exit ?_
    | refine g_block ?_
    | refine g_reg ?_
    | refine g_if_t rfl ?_
    | refine g_if_f rfl ?_
    | refine o_nil ?_
    | refine q_s ?_
    | refine q_se ?_
    | refine q_b ?_
    | refine q_be rfl ?_
    | refine q_bn rfl ?_
    | refine q_le ?_
    | refine q_ce ?_
    | (apply p3; (first | exact pu1 | exact puN | exact a_len_str rfl (fT rfl) | exact a_ne rfl rfl | exact a_neS rfl rfl rfl | exact puC | exact a_add rfl rfl (by omega) (by omega)); exact rfl)
    | (apply g_drN (id := 6) okM [[], [], [0, 1], [0, 1, 2], [], [], [4, 5], [4, 5, 6], [0, 1, 2, 3, 4, 5, 6, 7]] [([], []), ([], []), ([], []), ([], []), ([], []), ([], []), ([], []), ([], []), ([], [])] 0; (focus (all_goals refine dp 0 0 [17, 20, 21, 22, 23] [] pu1 ?_; all_goals refine dp 1 0 [16, 20, 21, 22, 23] [] pu1 ?_; all_goals refine dp 2 3 [20, 21, 22, 23] [] puI ?_; all_goals refine dp 3 7 [20, 21, 22, 23] [] puL ?_; all_goals refine dp 4 0 [16, 17, 18, 19, 21] [] pu1 ?_; all_goals refine dp 5 0 [16, 17, 18, 19, 20] [] pu1 ?_; all_goals refine dp 6 3 [16, 17, 18, 19] [] puI ?_; all_goals refine dp 7 7 [16, 17, 18, 19] [] puL ?_; all_goals refine dp 8 255 [] [] (by first | exact a_ne rfl rfl | exact a_neS rfl rfl rfl) ?_; all_goals (refine d_nil ?_; dsimp only [selT, selH, trues, SV.ren, C.ren, C.ren.all, tRen, GB.ren, calF, upOf, List.cons_append, List.nil_append, Nat.reduceAdd, setRow, List.map_cons, List.map_nil, scC, List.set_cons_zero, List.set_cons_succ, List.take_succ_cons, List.take_zero, List.drop_succ_cons, List.drop_zero]))); any_goals kernel_rfl)
    | (refine o_gs rfl rfl (fun hc => ?_) (fun hc => ?_) <;> (try simp only [decide_eq_true_eq, decide_eq_false_iff_not, Bool.not_eq_true', Bool.not_eq_false', Bool.not_eq_true, Bool.not_eq_false, Bool.and_eq_true, Bool.or_eq_false_iff, Bool.not_not] at hc) <;> (try (first | contradiction | (exfalso; omega))))
    | (refine g_cond rfl (fun hc => ?_) (fun hc => ?_) <;> (try simp only [decide_eq_true_eq, decide_eq_false_iff_not, Bool.not_eq_true', Bool.not_eq_false', Bool.not_eq_true, Bool.not_eq_false, Bool.and_eq_true, Bool.or_eq_false_iff, Bool.not_not] at hc) <;> (try (first | contradiction | (exfalso; omega))))
  · repeat (first | refine g_ret ?_ | refine q_sr ?_ | refine q_br ?_ | refine q_lr ?_ | refine q_cr ?_)
    refine ends_id ?_
    refine endK [] (h2 := ?_) (h3 := ?_) (nd := ?_)
    all_goals (repeat' first | with_reducible exact SVLe.refl | exact SVLe.any | exact SVLe.one (.sh rfl) | exact SVLe.one (.nil (by decide)) | refine SVLe.agg ?_ | refine SVLe.tup ?_ | exact TLe.nil | refine TLe.cons ?_ ?_ | exact CsLe.nil | refine CsLe.cons ?_ ?_ | exact CLe.refl | exact CLe.sh rfl | exact CLe.nil (by decide) | refine cle_i ?_ | refine cle_b ?_ | exact trivial | refine And.intro ?_ ?_ | exact Or.inl rfl | exact Or.inr rfl | refine Or.inr (row_eq ?_) | (refine Or.inr (bx_eq rfl rfl ?_); (try dsimp only [C.ren, C.ren.all]); (try exact rfl)) | exact SVLe.refl | refine sle_i ?_ | refine sle_b ?_)
    all_goals first | exact (show nodupB _ = true from rfl) | exact Or.inr rfl | ((symm; unfold eqI; rw [decide_eq_false_iff_not]; rintro rfl; omega))
  refine g_loop_id ?_
  refine loopK [0, 1, 4, 12] [] (fun i : Int => 0 ≤ i ∧ i ≤ xs.length ∧ xs.take i.toNat = ys.take i.toNat) (fun i => [(13, .one (int i))]) (fun _ => []) (fun i => (xs.length - i).toNat) (0 : Int) [] (hI := ?_) (hr := ?_)
  · exact ⟨by simp, by simp, by simp⟩
  · rintro i ⟨h0, h1, h2⟩
    dsimp only [List.cons_append, List.nil_append] at *
    skip
    repeat' first
      | refine g_seq ?_
      | refine g_skip ?_
      | refine g_exit ?_
      | refine g_block ?_
      | refine g_reg ?_
      | refine g_if_t rfl ?_
      | refine g_if_f rfl ?_
      | refine o_nil ?_
      | refine q_s ?_
      | refine q_se ?_
      | refine q_b ?_
      | refine q_be rfl ?_
      | refine q_bn rfl ?_
      | refine q_le ?_
      | refine q_ce ?_
      | (apply p3; (first | exact pu1 | exact puC | exact a_add rfl rfl (by omega) (by omega)); exact rfl)
      | (apply g_drN (id := 6) okM [[], [], [0, 1], [0, 1, 2], [], [], [4, 5], [4, 5, 6], [0, 1, 2, 3, 4, 5, 6, 7]] [([], []), ([], []), ([], []), ([], []), ([], []), ([], []), ([], []), ([], []), ([], [])] 0; (focus (all_goals refine dp 0 0 [17, 20, 21, 22, 23] [] pu1 ?_; all_goals refine dp 1 0 [16, 20, 21, 22, 23] [] pu1 ?_; all_goals refine dp 2 3 [20, 21, 22, 23] [] puI ?_; all_goals refine dp 3 7 [20, 21, 22, 23] [] puL ?_; all_goals refine dp 4 0 [16, 17, 18, 19, 21] [] pu1 ?_; all_goals refine dp 5 0 [16, 17, 18, 19, 20] [] pu1 ?_; all_goals refine dp 6 3 [16, 17, 18, 19] [] puI ?_; all_goals refine dp 7 7 [16, 17, 18, 19] [] puL ?_; all_goals refine dp 8 255 [] [] (by first | exact a_ne rfl rfl | exact a_neS rfl rfl rfl) ?_; all_goals (refine d_nil ?_; dsimp only [selT, selH, trues, SV.ren, C.ren, C.ren.all, tRen, GB.ren, calF, upOf, List.cons_append, List.nil_append, Nat.reduceAdd, setRow, List.map_cons, List.map_nil, scC, List.set_cons_zero, List.set_cons_succ, List.take_succ_cons, List.take_zero, List.drop_succ_cons, List.drop_zero]))); any_goals kernel_rfl)
      | (refine o_gs rfl rfl (fun hc => ?_) (fun hc => ?_) <;> (try simp only [decide_eq_true_eq, decide_eq_false_iff_not, Bool.not_eq_true', Bool.not_eq_false', Bool.not_eq_true, Bool.not_eq_false, Bool.and_eq_true, Bool.or_eq_false_iff, Bool.not_not] at hc) <;> (try (first | contradiction | (exfalso; omega))))
      | (refine g_cond rfl (fun hc => ?_) (fun hc => ?_) <;> (try simp only [decide_eq_true_eq, decide_eq_false_iff_not, Bool.not_eq_true', Bool.not_eq_false', Bool.not_eq_true, Bool.not_eq_false, Bool.and_eq_true, Bool.or_eq_false_iff, Bool.not_not] at hc) <;> (try (first | contradiction | (exfalso; omega))))
    · repeat (first | refine g_ret ?_ | refine q_sr ?_ | refine q_br ?_ | refine q_lr ?_ | refine q_cr ?_)
      refine ends_id ?_
      refine endK [] (h2 := ?_) (h3 := ?_) (nd := ?_)
      all_goals (repeat' first | with_reducible exact SVLe.refl | exact SVLe.any | exact SVLe.one (.sh rfl) | exact SVLe.one (.nil (by decide)) | refine SVLe.agg ?_ | refine SVLe.tup ?_ | exact TLe.nil | refine TLe.cons ?_ ?_ | exact CsLe.nil | refine CsLe.cons ?_ ?_ | exact CLe.refl | exact CLe.sh rfl | exact CLe.nil (by decide) | refine cle_i ?_ | refine cle_b ?_ | exact trivial | refine And.intro ?_ ?_ | exact Or.inl rfl | exact Or.inr rfl | refine Or.inr (row_eq ?_) | (refine Or.inr (bx_eq rfl rfl ?_); (try dsimp only [C.ren, C.ren.all]); (try exact rfl)) | exact SVLe.refl | refine sle_i ?_ | refine sle_b ?_)
      all_goals first | exact (show nodupB _ = true from rfl) | exact Or.inr rfl | ((symm; unfold eqI; rw [decide_eq_false_iff_not]; rintro rfl; simp_all))
    · refine q_again (i + 1) [] (by exact stk) ?_ ?_
      · exact ⟨by omega, by omega, take_next h0 (by omega) (by omega) h2 (by simp_all)⟩
      · omega
    · have hl := take_end (by omega) (by omega) h2
      repeat (first | refine g_ret ?_ | refine q_sr ?_ | refine q_br ?_ | refine q_lr ?_ | refine q_cr ?_)
      refine ends_id ?_
      refine endK [] (h2 := ?_) (h3 := ?_) (nd := ?_)
      all_goals (repeat' first | with_reducible exact SVLe.refl | exact SVLe.any | exact SVLe.one (.sh rfl) | exact SVLe.one (.nil (by decide)) | refine SVLe.agg ?_ | refine SVLe.tup ?_ | exact TLe.nil | refine TLe.cons ?_ ?_ | exact CsLe.nil | refine CsLe.cons ?_ ?_ | exact CLe.refl | exact CLe.sh rfl | exact CLe.nil (by decide) | refine cle_i ?_ | refine cle_b ?_ | exact trivial | refine And.intro ?_ ?_ | exact Or.inl rfl | exact Or.inr rfl | refine Or.inr (row_eq ?_) | (refine Or.inr (bx_eq rfl rfl ?_); (try dsimp only [C.ren, C.ren.all]); (try exact rfl)) | exact SVLe.refl | refine sle_i ?_ | refine sle_b ?_)
      all_goals first | exact (show nodupB _ = true from rfl) | exact Or.inr rfl | ((symm; unfold eqI; rw [decide_eq_true_eq]; exact hl))
theorem l00Same_ok (xs ys : List Int) (hx : (xs.length : Int) ≤ 16777216) (hy : (ys.length : Int) ≤ 16777216) : Does Try.prog 136 [.one (shI xs), .one (shI ys)] [] (.one (boo (eqI xs ys))) [] := by
  refine does_of (k := 0) Try.func136 rfl Try.ntmps136 rfl rfl fun w F0 S0 ρ0 => ?_
  dsimp only [argT, argH]
  repeat' first
    | refine g_seq ?_
    | refine g_skip ?_
    | refine g_exit ?_
    | refine g_block ?_
    | refine g_reg ?_
    | refine g_if_t rfl ?_
    | refine g_if_f rfl ?_
    | refine o_nil ?_
    | refine q_s ?_
    | refine q_se ?_
    | refine q_b ?_
    | refine q_be rfl ?_
    | refine q_bn rfl ?_
    | refine q_le ?_
    | refine q_ce ?_
    | (apply p3; (first | exact pu1 | exact puN | exact a_len_str rfl (fT rfl) | exact a_ne rfl rfl | exact a_neS rfl rfl rfl | exact puC | exact a_add rfl rfl (by omega) (by omega)); exact rfl)
    | (apply g_drN (id := 6) okM [[], [], [0, 1], [0, 1, 2], [], [], [4, 5], [4, 5, 6], [0, 1, 2, 3, 4, 5, 6, 7]] [([], []), ([], []), ([], []), ([], []), ([], []), ([], []), ([], []), ([], []), ([], [])] 0; (focus (all_goals refine dp 0 0 [18, 21, 22, 23, 24] [] pu1 ?_; all_goals refine dp 1 0 [17, 21, 22, 23, 24] [] pu1 ?_; all_goals refine dp 2 3 [21, 22, 23, 24] [] puI ?_; all_goals refine dp 3 7 [21, 22, 23, 24] [] puL ?_; all_goals refine dp 4 0 [17, 18, 19, 20, 22] [] pu1 ?_; all_goals refine dp 5 0 [17, 18, 19, 20, 21] [] pu1 ?_; all_goals refine dp 6 3 [17, 18, 19, 20] [] puI ?_; all_goals refine dp 7 7 [17, 18, 19, 20] [] puL ?_; all_goals refine dp 8 255 [] [] (by first | exact a_ne rfl rfl | exact a_neS rfl rfl rfl) ?_; all_goals (refine d_nil ?_; dsimp only [selT, selH, trues, SV.ren, C.ren, C.ren.all, tRen, GB.ren, calF, upOf, List.cons_append, List.nil_append, Nat.reduceAdd, setRow, List.map_cons, List.map_nil, scC, List.set_cons_zero, List.set_cons_succ, List.take_succ_cons, List.take_zero, List.drop_succ_cons, List.drop_zero]))); any_goals kernel_rfl)
    | (refine o_gs rfl rfl (fun hc => ?_) (fun hc => ?_) <;> (try simp only [decide_eq_true_eq, decide_eq_false_iff_not, Bool.not_eq_true', Bool.not_eq_false', Bool.not_eq_true, Bool.not_eq_false, Bool.and_eq_true, Bool.or_eq_false_iff, Bool.not_not] at hc) <;> (try (first | contradiction | (exfalso; omega))))
    | (refine g_cond rfl (fun hc => ?_) (fun hc => ?_) <;> (try simp only [decide_eq_true_eq, decide_eq_false_iff_not, Bool.not_eq_true', Bool.not_eq_false', Bool.not_eq_true, Bool.not_eq_false, Bool.and_eq_true, Bool.or_eq_false_iff, Bool.not_not] at hc) <;> (try (first | contradiction | (exfalso; omega))))
  · repeat (first | refine g_ret ?_ | refine q_sr ?_ | refine q_br ?_ | refine q_lr ?_ | refine q_cr ?_)
    refine ends_id ?_
    refine endK [] (h2 := ?_) (h3 := ?_) (nd := ?_)
    all_goals (repeat' first | with_reducible exact SVLe.refl | exact SVLe.any | exact SVLe.one (.sh rfl) | exact SVLe.one (.nil (by decide)) | refine SVLe.agg ?_ | refine SVLe.tup ?_ | exact TLe.nil | refine TLe.cons ?_ ?_ | exact CsLe.nil | refine CsLe.cons ?_ ?_ | exact CLe.refl | exact CLe.sh rfl | exact CLe.nil (by decide) | refine cle_i ?_ | refine cle_b ?_ | exact trivial | refine And.intro ?_ ?_ | exact Or.inl rfl | exact Or.inr rfl | refine Or.inr (row_eq ?_) | (refine Or.inr (bx_eq rfl rfl ?_); (try dsimp only [C.ren, C.ren.all]); (try exact rfl)) | exact SVLe.refl | refine sle_i ?_ | refine sle_b ?_)
    all_goals first | exact (show nodupB _ = true from rfl) | exact Or.inr rfl | ((symm; unfold eqI; rw [decide_eq_false_iff_not]; rintro rfl; omega))
  refine g_loop_id ?_
  refine loopK [0, 1, 4] [] (fun i : Int => 0 ≤ i ∧ i ≤ xs.length ∧ xs.take i.toNat = ys.take i.toNat) (fun i => [(5, .one (int i))]) (fun _ => []) (fun i => (xs.length - i).toNat) (0 : Int) [] (hI := ?_) (hr := ?_)
  · exact ⟨by simp, by simp, by simp⟩
  · rintro i ⟨h0, h1, h2⟩
    dsimp only [List.cons_append, List.nil_append] at *
    skip
    repeat' first
      | refine g_seq ?_
      | refine g_skip ?_
      | refine g_exit ?_
      | refine g_block ?_
      | refine g_reg ?_
      | refine g_if_t rfl ?_
      | refine g_if_f rfl ?_
      | refine o_nil ?_
      | refine q_s ?_
      | refine q_se ?_
      | refine q_b ?_
      | refine q_be rfl ?_
      | refine q_bn rfl ?_
      | refine q_le ?_
      | refine q_ce ?_
      | (apply p3; (first | exact pu1 | exact puN | exact a_len_str rfl (fT rfl) | exact puC | exact a_add rfl rfl (by omega) (by omega)); exact rfl)
      | (apply g_drN (id := 6) okM [[], [], [0, 1], [0, 1, 2], [], [], [4, 5], [4, 5, 6], [0, 1, 2, 3, 4, 5, 6, 7]] [([], []), ([], []), ([], []), ([], []), ([], []), ([], []), ([], []), ([], []), ([], [])] 0; (focus (all_goals refine dp 0 0 [18, 21, 22, 23, 24] [] pu1 ?_; all_goals refine dp 1 0 [17, 21, 22, 23, 24] [] pu1 ?_; all_goals refine dp 2 3 [21, 22, 23, 24] [] puI ?_; all_goals refine dp 3 7 [21, 22, 23, 24] [] puL ?_; all_goals refine dp 4 0 [17, 18, 19, 20, 22] [] pu1 ?_; all_goals refine dp 5 0 [17, 18, 19, 20, 21] [] pu1 ?_; all_goals refine dp 6 3 [17, 18, 19, 20] [] puI ?_; all_goals refine dp 7 7 [17, 18, 19, 20] [] puL ?_; all_goals refine dp 8 255 [] [] (by first | exact a_ne rfl rfl | exact a_neS rfl rfl rfl) ?_; all_goals (refine d_nil ?_; dsimp only [selT, selH, trues, SV.ren, C.ren, C.ren.all, tRen, GB.ren, calF, upOf, List.cons_append, List.nil_append, Nat.reduceAdd, setRow, List.map_cons, List.map_nil, scC, List.set_cons_zero, List.set_cons_succ, List.take_succ_cons, List.take_zero, List.drop_succ_cons, List.drop_zero]))); any_goals kernel_rfl)
      | (refine o_gs rfl rfl (fun hc => ?_) (fun hc => ?_) <;> (try simp only [decide_eq_true_eq, decide_eq_false_iff_not, Bool.not_eq_true', Bool.not_eq_false', Bool.not_eq_true, Bool.not_eq_false, Bool.and_eq_true, Bool.or_eq_false_iff, Bool.not_not] at hc) <;> (try (first | contradiction | (exfalso; omega))))
      | (refine g_cond rfl (fun hc => ?_) (fun hc => ?_) <;> (try simp only [decide_eq_true_eq, decide_eq_false_iff_not, Bool.not_eq_true', Bool.not_eq_false', Bool.not_eq_true, Bool.not_eq_false, Bool.and_eq_true, Bool.or_eq_false_iff, Bool.not_not] at hc) <;> (try (first | contradiction | (exfalso; omega))))
    · repeat (first | refine g_ret ?_ | refine q_sr ?_ | refine q_br ?_ | refine q_lr ?_ | refine q_cr ?_)
      refine ends_id ?_
      refine endK [] (h2 := ?_) (h3 := ?_) (nd := ?_)
      all_goals (repeat' first | with_reducible exact SVLe.refl | exact SVLe.any | exact SVLe.one (.sh rfl) | exact SVLe.one (.nil (by decide)) | refine SVLe.agg ?_ | refine SVLe.tup ?_ | exact TLe.nil | refine TLe.cons ?_ ?_ | exact CsLe.nil | refine CsLe.cons ?_ ?_ | exact CLe.refl | exact CLe.sh rfl | exact CLe.nil (by decide) | refine cle_i ?_ | refine cle_b ?_ | exact trivial | refine And.intro ?_ ?_ | exact Or.inl rfl | exact Or.inr rfl | refine Or.inr (row_eq ?_) | (refine Or.inr (bx_eq rfl rfl ?_); (try dsimp only [C.ren, C.ren.all]); (try exact rfl)) | exact SVLe.refl | refine sle_i ?_ | refine sle_b ?_)
      all_goals first | exact (show nodupB _ = true from rfl) | exact Or.inr rfl | ((symm; unfold eqI; rw [decide_eq_false_iff_not]; rintro rfl; simp_all))
    · refine q_again (i + 1) [] (by exact stk) ?_ ?_
      · exact ⟨by omega, by omega, take_next h0 (by omega) (by omega) h2 (by simp_all)⟩
      · omega
    · have hl := take_end (by omega) (by omega) h2
      repeat (first | refine g_ret ?_ | refine q_sr ?_ | refine q_br ?_ | refine q_lr ?_ | refine q_cr ?_)
      refine ends_id ?_
      refine endK [] (h2 := ?_) (h3 := ?_) (nd := ?_)
      all_goals (repeat' first | with_reducible exact SVLe.refl | exact SVLe.any | exact SVLe.one (.sh rfl) | exact SVLe.one (.nil (by decide)) | refine SVLe.agg ?_ | refine SVLe.tup ?_ | exact TLe.nil | refine TLe.cons ?_ ?_ | exact CsLe.nil | refine CsLe.cons ?_ ?_ | exact CLe.refl | exact CLe.sh rfl | exact CLe.nil (by decide) | refine cle_i ?_ | refine cle_b ?_ | exact trivial | refine And.intro ?_ ?_ | exact Or.inl rfl | exact Or.inr rfl | refine Or.inr (row_eq ?_) | (refine Or.inr (bx_eq rfl rfl ?_); (try dsimp only [C.ren, C.ren.all]); (try exact rfl)) | exact SVLe.refl | refine sle_i ?_ | refine sle_b ?_)
      all_goals first | exact (show nodupB _ = true from rfl) | exact Or.inr rfl | ((symm; unfold eqI; rw [decide_eq_true_eq]; exact hl))
/-- The symbol at a place. -/
@[irreducible] def symAt (l : List Int) (k : Int) : Int := l.getD k.toNat 0
theorem symbolAt_ok (l : List Int) (k : Int) (h0 : 0 ≤ k) (hx : (l.length : Int) ≤ 16777216) : Does Try.prog 116 [.one (shI l), .one (int k)] [] (.one (int (symAt l k))) [] := by
  refine does_of (k := 0) Try.func116 rfl Try.ntmps116 rfl rfl fun w F0 S0 ρ0 => ?_
  dsimp only [argT, argH]
  repeat' first
    | refine g_seq ?_
    | refine g_skip ?_
    | refine g_exit ?_
    | refine g_block ?_
    | refine g_reg ?_
    | refine g_if_t rfl ?_
    | refine g_if_f rfl ?_
    | refine o_nil ?_
    | refine q_s ?_
    | refine q_se ?_
    | refine q_b ?_
    | refine q_be rfl ?_
    | refine q_bn rfl ?_
    | refine q_le ?_
    | refine q_ce ?_
    | (apply p3; (first | exact pu1 | exact puL | exact puN | exact a_len_str rfl (fT rfl) | exact puC | exact puI); exact rfl)
    | (refine o_gs rfl rfl (fun hc => ?_) (fun hc => ?_) <;> (try simp only [decide_eq_true_eq, decide_eq_false_iff_not, Bool.not_eq_true', Bool.not_eq_false', Bool.not_eq_true, Bool.not_eq_false, Bool.and_eq_true, Bool.or_eq_false_iff, Bool.not_not] at hc) <;> (try (first | contradiction | (exfalso; omega))))
    | (refine g_cond rfl (fun hc => ?_) (fun hc => ?_) <;> (try simp only [decide_eq_true_eq, decide_eq_false_iff_not, Bool.not_eq_true', Bool.not_eq_false', Bool.not_eq_true, Bool.not_eq_false, Bool.and_eq_true, Bool.or_eq_false_iff, Bool.not_not] at hc) <;> (try (first | contradiction | (exfalso; omega))))
  · repeat (first | refine g_ret ?_ | refine q_sr ?_ | refine q_br ?_ | refine q_lr ?_ | refine q_cr ?_)
    refine ends_id ?_
    refine endK [] (h2 := ?_) (h3 := ?_) (nd := ?_)
    all_goals (repeat' first | with_reducible exact SVLe.refl | exact SVLe.any | exact SVLe.one (.sh rfl) | exact SVLe.one (.nil (by decide)) | refine SVLe.agg ?_ | refine SVLe.tup ?_ | exact TLe.nil | refine TLe.cons ?_ ?_ | exact CsLe.nil | refine CsLe.cons ?_ ?_ | exact CLe.refl | exact CLe.sh rfl | exact CLe.nil (by decide) | refine cle_i ?_ | refine cle_b ?_ | exact trivial | refine And.intro ?_ ?_ | exact Or.inl rfl | exact Or.inr rfl | refine Or.inr (row_eq ?_) | (refine Or.inr (bx_eq rfl rfl ?_); (try dsimp only [C.ren, C.ren.all]); (try exact rfl)) | exact SVLe.refl | refine sle_i ?_ | refine sle_b ?_)
    all_goals first | exact (show nodupB _ = true from rfl) | exact Or.inr rfl | ((unfold symAt; rw [List.getD_eq_getElem?_getD, List.getElem?_eq_none (by omega)]; rfl))
  · repeat (first | refine g_ret ?_ | refine q_sr ?_ | refine q_br ?_ | refine q_lr ?_ | refine q_cr ?_)
    refine ends_id ?_
    refine endK [] (h2 := ?_) (h3 := ?_) (nd := ?_)
    all_goals (repeat' first | with_reducible exact SVLe.refl | exact SVLe.any | exact SVLe.one (.sh rfl) | exact SVLe.one (.nil (by decide)) | refine SVLe.agg ?_ | refine SVLe.tup ?_ | exact TLe.nil | refine TLe.cons ?_ ?_ | exact CsLe.nil | refine CsLe.cons ?_ ?_ | exact CLe.refl | exact CLe.sh rfl | exact CLe.nil (by decide) | refine cle_i ?_ | refine cle_b ?_ | exact trivial | refine And.intro ?_ ?_ | exact Or.inl rfl | exact Or.inr rfl | refine Or.inr (row_eq ?_) | (refine Or.inr (bx_eq rfl rfl ?_); (try dsimp only [C.ren, C.ren.all]); (try exact rfl)) | exact SVLe.refl | refine sle_i ?_ | refine sle_b ?_)
    all_goals first | exact (show nodupB _ = true from rfl) | exact Or.inr rfl | ((unfold symAt; rw [List.getD_eq_getElem?_getD, List.getElem?_eq_getElem (by omega)]; rfl))
theorem l13Cell_ok (l : List Int) (k : Int) (h0 : 0 ≤ k) (hx : (l.length : Int) ≤ 16777216) : Does Try.prog 153 [.one (shI l), .one (int k)] [] (.one (int (symAt l k))) [] := by
  refine does_of (k := 0) Try.func153 rfl Try.ntmps153 rfl rfl fun w F0 S0 ρ0 => ?_
  dsimp only [argT, argH]
  repeat' first
    | refine g_seq ?_
    | refine g_skip ?_
    | refine g_exit ?_
    | refine g_block ?_
    | refine g_reg ?_
    | refine g_if_t rfl ?_
    | refine g_if_f rfl ?_
    | refine o_nil ?_
    | refine q_s ?_
    | refine q_se ?_
    | refine q_b ?_
    | refine q_be rfl ?_
    | refine q_bn rfl ?_
    | refine q_le ?_
    | refine q_ce ?_
    | (apply p3; (first | exact pu1 | exact puL | exact puN | exact a_len_str rfl (fT rfl) | exact puC | exact puI); exact rfl)
    | (refine o_gs rfl rfl (fun hc => ?_) (fun hc => ?_) <;> (try simp only [decide_eq_true_eq, decide_eq_false_iff_not, Bool.not_eq_true', Bool.not_eq_false', Bool.not_eq_true, Bool.not_eq_false, Bool.and_eq_true, Bool.or_eq_false_iff, Bool.not_not] at hc) <;> (try (first | contradiction | (exfalso; omega))))
    | (refine g_cond rfl (fun hc => ?_) (fun hc => ?_) <;> (try simp only [decide_eq_true_eq, decide_eq_false_iff_not, Bool.not_eq_true', Bool.not_eq_false', Bool.not_eq_true, Bool.not_eq_false, Bool.and_eq_true, Bool.or_eq_false_iff, Bool.not_not] at hc) <;> (try (first | contradiction | (exfalso; omega))))
  · repeat (first | refine g_ret ?_ | refine q_sr ?_ | refine q_br ?_ | refine q_lr ?_ | refine q_cr ?_)
    refine ends_id ?_
    refine endK [] (h2 := ?_) (h3 := ?_) (nd := ?_)
    all_goals (repeat' first | with_reducible exact SVLe.refl | exact SVLe.any | exact SVLe.one (.sh rfl) | exact SVLe.one (.nil (by decide)) | refine SVLe.agg ?_ | refine SVLe.tup ?_ | exact TLe.nil | refine TLe.cons ?_ ?_ | exact CsLe.nil | refine CsLe.cons ?_ ?_ | exact CLe.refl | exact CLe.sh rfl | exact CLe.nil (by decide) | refine cle_i ?_ | refine cle_b ?_ | exact trivial | refine And.intro ?_ ?_ | exact Or.inl rfl | exact Or.inr rfl | refine Or.inr (row_eq ?_) | (refine Or.inr (bx_eq rfl rfl ?_); (try dsimp only [C.ren, C.ren.all]); (try exact rfl)) | exact SVLe.refl | refine sle_i ?_ | refine sle_b ?_)
    all_goals first | exact (show nodupB _ = true from rfl) | exact Or.inr rfl | ((unfold symAt; rw [List.getD_eq_getElem?_getD, List.getElem?_eq_getElem (by omega)]; rfl))
  · repeat (first | refine g_ret ?_ | refine q_sr ?_ | refine q_br ?_ | refine q_lr ?_ | refine q_cr ?_)
    refine ends_id ?_
    refine endK [] (h2 := ?_) (h3 := ?_) (nd := ?_)
    all_goals (repeat' first | with_reducible exact SVLe.refl | exact SVLe.any | exact SVLe.one (.sh rfl) | exact SVLe.one (.nil (by decide)) | refine SVLe.agg ?_ | refine SVLe.tup ?_ | exact TLe.nil | refine TLe.cons ?_ ?_ | exact CsLe.nil | refine CsLe.cons ?_ ?_ | exact CLe.refl | exact CLe.sh rfl | exact CLe.nil (by decide) | refine cle_i ?_ | refine cle_b ?_ | exact trivial | refine And.intro ?_ ?_ | exact Or.inl rfl | exact Or.inr rfl | refine Or.inr (row_eq ?_) | (refine Or.inr (bx_eq rfl rfl ?_); (try dsimp only [C.ren, C.ren.all]); (try exact rfl)) | exact SVLe.refl | refine sle_i ?_ | refine sle_b ?_)
    all_goals first | exact (show nodupB _ = true from rfl) | exact Or.inr rfl | ((unfold symAt; rw [List.getD_eq_getElem?_getD, List.getElem?_eq_none (by omega)]; rfl))
/-- The same symbols at the beginning. -/
@[irreducible] def near (a b : List Int) (k : Int) : Bool := (List.range k.toNat).all fun i => decide (symAt a i = symAt b i)
theorem near_no {a b : List Int} {k i : Int} (h0 : 0 ≤ i) (h : i < k) (hn : ¬ symAt a i = symAt b i) : near a b k = false := by
  unfold near
  rw [List.all_eq_false]
  exact ⟨i.toNat, by simp; omega, by rw [show ((i.toNat : Nat) : Int) = i by omega]; simpa using hn⟩
theorem near_next {a b : List Int} {i : Int} (h0 : 0 ≤ i) (h : near a b i = true) (hn : symAt a i = symAt b i) : near a b (i + 1) = true := by
  unfold near at *
  rw [show (i + 1).toNat = i.toNat + 1 by omega, List.range_succ, List.all_append, h]
  simp [show ((i.toNat : Nat) : Int) = i by omega, hn]
theorem near_0 (a b : List Int) : near a b 0 = true := by unfold near; rfl
theorem near_le {a b : List Int} {k : Int} (h : k ≤ 0) : near a b k = true := by unfold near; rw [show k.toNat = 0 by omega]; rfl
theorem sameBeginning_ok (a b : List Int) (k : Int) (ha : (a.length : Int) ≤ 16777216) (hb : (b.length : Int) ≤ 16777216) (hk : k ≤ 16777216) (hk0 : -16777216 ≤ k) : Does Try.prog 115 [.one (shI a), .one (shI b), .one (int k)] [] (.one (boo (near a b k))) [] := by
  refine does_of (k := 0) Try.func115 rfl Try.ntmps115 rfl rfl fun w F0 S0 ρ0 => ?_
  dsimp only [argT, argH]
  repeat' first
    | refine g_seq ?_
    | refine g_skip ?_
    | refine g_exit ?_
    | refine g_block ?_
    | refine g_reg ?_
    | refine g_if_t rfl ?_
    | refine g_if_f rfl ?_
    | refine o_nil ?_
    | refine q_s ?_
    | refine q_se ?_
    | refine q_b ?_
    | refine q_be rfl ?_
    | refine q_bn rfl ?_
    | refine q_le ?_
    | refine q_ce ?_
    | (apply p3; (first | exact pu1 | exact puC | exact a_ne rfl rfl | exact a_neS rfl rfl rfl | exact a_add rfl rfl (by omega) (by omega)); exact rfl)
    | (apply c4 0; exact callK1 (θ := []) (hD := (symbolAt_ok _ _ preB32 preB32)); exact rfl; exact rfl; exact rfl; (try dsimp only [SV.ren, C.ren, C.ren.all, tRen, GB.ren, calF, upOf, List.cons_append, List.nil_append, Nat.reduceAdd]))
    | (refine o_gs rfl rfl (fun hc => ?_) (fun hc => ?_) <;> (try simp only [decide_eq_true_eq, decide_eq_false_iff_not, Bool.not_eq_true', Bool.not_eq_false', Bool.not_eq_true, Bool.not_eq_false, Bool.and_eq_true, Bool.or_eq_false_iff, Bool.not_not] at hc) <;> (try (first | contradiction | (exfalso; omega))))
    | (refine g_cond rfl (fun hc => ?_) (fun hc => ?_) <;> (try simp only [decide_eq_true_eq, decide_eq_false_iff_not, Bool.not_eq_true', Bool.not_eq_false', Bool.not_eq_true, Bool.not_eq_false, Bool.and_eq_true, Bool.or_eq_false_iff, Bool.not_not] at hc) <;> (try (first | contradiction | (exfalso; omega))))
  refine g_loop_id ?_
  refine loopK [0, 1, 6, 8] [] (fun i : Int => 0 ≤ i ∧ (i ≤ k ∨ i = 0) ∧ near a b i = true) (fun i => [(9, .one (int i))]) (fun _ => []) (fun i => (k - i).toNat) (0 : Int) [] (hI := ?_) (hr := ?_)
  · exact ⟨by simp, by simp, near_0 a b⟩
  · rintro i ⟨h0, h1, h2⟩
    dsimp only [List.cons_append, List.nil_append] at *
    skip
    repeat' first
      | refine g_seq ?_
      | refine g_skip ?_
      | refine g_exit ?_
      | refine g_block ?_
      | refine g_reg ?_
      | refine g_if_t rfl ?_
      | refine g_if_f rfl ?_
      | refine o_nil ?_
      | refine q_s ?_
      | refine q_se ?_
      | refine q_b ?_
      | refine q_be rfl ?_
      | refine q_bn rfl ?_
      | refine q_le ?_
      | refine q_ce ?_
      | (apply p3; (first | exact pu1 | exact puC | exact a_ne rfl rfl | exact a_neS rfl rfl rfl | exact a_add rfl rfl (by omega) (by omega)); exact rfl)
      | (apply c4 0; exact callK1 (θ := []) (hD := (symbolAt_ok _ _ preB32 preB32)); exact rfl; exact rfl; exact rfl; (try dsimp only [SV.ren, C.ren, C.ren.all, tRen, GB.ren, calF, upOf, List.cons_append, List.nil_append, Nat.reduceAdd]))
      | (refine o_gs rfl rfl (fun hc => ?_) (fun hc => ?_) <;> (try simp only [decide_eq_true_eq, decide_eq_false_iff_not, Bool.not_eq_true', Bool.not_eq_false', Bool.not_eq_true, Bool.not_eq_false, Bool.and_eq_true, Bool.or_eq_false_iff, Bool.not_not] at hc) <;> (try (first | contradiction | (exfalso; omega))))
      | (refine g_cond rfl (fun hc => ?_) (fun hc => ?_) <;> (try simp only [decide_eq_true_eq, decide_eq_false_iff_not, Bool.not_eq_true', Bool.not_eq_false', Bool.not_eq_true, Bool.not_eq_false, Bool.and_eq_true, Bool.or_eq_false_iff, Bool.not_not] at hc) <;> (try (first | contradiction | (exfalso; omega))))
    · have hn := near_no (k := k) h0 (by omega) (by assumption)
      repeat (first | refine g_ret ?_ | refine q_sr ?_ | refine q_br ?_ | refine q_lr ?_ | refine q_cr ?_)
      refine ends_id ?_
      refine endK [] (h2 := ?_) (h3 := ?_) (nd := ?_)
      all_goals (repeat' first | with_reducible exact SVLe.refl | exact SVLe.any | exact SVLe.one (.sh rfl) | exact SVLe.one (.nil (by decide)) | refine SVLe.agg ?_ | refine SVLe.tup ?_ | exact TLe.nil | refine TLe.cons ?_ ?_ | exact CsLe.nil | refine CsLe.cons ?_ ?_ | exact CLe.refl | exact CLe.sh rfl | exact CLe.nil (by decide) | refine cle_i ?_ | refine cle_b ?_ | exact trivial | refine And.intro ?_ ?_ | exact Or.inl rfl | exact Or.inr rfl | refine Or.inr (row_eq ?_) | (refine Or.inr (bx_eq rfl rfl ?_); (try dsimp only [C.ren, C.ren.all]); (try exact rfl)) | exact SVLe.refl | refine sle_i ?_ | refine sle_b ?_)
      all_goals first | exact (show nodupB _ = true from rfl) | exact Or.inr rfl | ((exact hn.symm))
    · refine q_again (i + 1) [] (by exact stk) ?_ ?_
      · exact ⟨by omega, by omega, near_next h0 h2 (by assumption)⟩
      · omega
    · have hn : near a b k = true := by
        by_cases h : 0 < k
        · rw [show k = i by omega]; exact h2
        · exact near_le (by omega)
      repeat (first | refine g_ret ?_ | refine q_sr ?_ | refine q_br ?_ | refine q_lr ?_ | refine q_cr ?_)
      refine ends_id ?_
      refine endK [] (h2 := ?_) (h3 := ?_) (nd := ?_)
      all_goals (repeat' first | with_reducible exact SVLe.refl | exact SVLe.any | exact SVLe.one (.sh rfl) | exact SVLe.one (.nil (by decide)) | refine SVLe.agg ?_ | refine SVLe.tup ?_ | exact TLe.nil | refine TLe.cons ?_ ?_ | exact CsLe.nil | refine CsLe.cons ?_ ?_ | exact CLe.refl | exact CLe.sh rfl | exact CLe.nil (by decide) | refine cle_i ?_ | refine cle_b ?_ | exact trivial | refine And.intro ?_ ?_ | exact Or.inl rfl | exact Or.inr rfl | refine Or.inr (row_eq ?_) | (refine Or.inr (bx_eq rfl rfl ?_); (try dsimp only [C.ren, C.ren.all]); (try exact rfl)) | exact SVLe.refl | refine sle_i ?_ | refine sle_b ?_)
      all_goals first | exact (show nodupB _ = true from rfl) | exact Or.inr rfl | ((exact hn.symm))
theorem l25Near_ok (a b : List Int) (k : Int) (ha : (a.length : Int) ≤ 16777216) (hb : (b.length : Int) ≤ 16777216) (hk : k ≤ 16777216) (hk0 : -16777216 ≤ k) : Does Try.prog 137 [.one (shI a), .one (shI b), .one (int k)] [] (.one (boo (near a b k))) [] := by
  refine does_of (k := 0) Try.func137 rfl Try.ntmps137 rfl rfl fun w F0 S0 ρ0 => ?_
  dsimp only [argT, argH]
  repeat' first
    | refine g_seq ?_
    | refine g_skip ?_
    | refine g_exit ?_
    | refine g_block ?_
    | refine g_reg ?_
    | refine g_if_t rfl ?_
    | refine g_if_f rfl ?_
    | refine o_nil ?_
    | refine q_s ?_
    | refine q_se ?_
    | refine q_b ?_
    | refine q_be rfl ?_
    | refine q_bn rfl ?_
    | refine q_le ?_
    | refine q_ce ?_
    | (apply p3; (first | exact pu1 | exact puC | exact a_ne rfl rfl | exact a_neS rfl rfl rfl | exact a_add rfl rfl (by omega) (by omega)); exact rfl)
    | (apply c4 0; exact callK1 (θ := []) (hD := (l13Cell_ok _ _ preB32 preB32)); exact rfl; exact rfl; exact rfl; (try dsimp only [SV.ren, C.ren, C.ren.all, tRen, GB.ren, calF, upOf, List.cons_append, List.nil_append, Nat.reduceAdd]))
    | (refine o_gs rfl rfl (fun hc => ?_) (fun hc => ?_) <;> (try simp only [decide_eq_true_eq, decide_eq_false_iff_not, Bool.not_eq_true', Bool.not_eq_false', Bool.not_eq_true, Bool.not_eq_false, Bool.and_eq_true, Bool.or_eq_false_iff, Bool.not_not] at hc) <;> (try (first | contradiction | (exfalso; omega))))
    | (refine g_cond rfl (fun hc => ?_) (fun hc => ?_) <;> (try simp only [decide_eq_true_eq, decide_eq_false_iff_not, Bool.not_eq_true', Bool.not_eq_false', Bool.not_eq_true, Bool.not_eq_false, Bool.and_eq_true, Bool.or_eq_false_iff, Bool.not_not] at hc) <;> (try (first | contradiction | (exfalso; omega))))
  refine g_loop_id ?_
  refine loopK [0, 1, 2, 6] [] (fun i : Int => 0 ≤ i ∧ (i ≤ k ∨ i = 0) ∧ near a b i = true) (fun i => [(7, .one (int i))]) (fun _ => []) (fun i => (k - i).toNat) (0 : Int) [] (hI := ?_) (hr := ?_)
  · exact ⟨by simp, by simp, near_0 a b⟩
  · rintro i ⟨h0, h1, h2⟩
    dsimp only [List.cons_append, List.nil_append] at *
    skip
    repeat' first
      | refine g_seq ?_
      | refine g_skip ?_
      | refine g_exit ?_
      | refine g_block ?_
      | refine g_reg ?_
      | refine g_if_t rfl ?_
      | refine g_if_f rfl ?_
      | refine o_nil ?_
      | refine q_s ?_
      | refine q_se ?_
      | refine q_b ?_
      | refine q_be rfl ?_
      | refine q_bn rfl ?_
      | refine q_le ?_
      | refine q_ce ?_
      | (apply p3; (first | exact pu1 | exact puC | exact a_ne rfl rfl | exact a_neS rfl rfl rfl | exact a_add rfl rfl (by omega) (by omega)); exact rfl)
      | (apply c4 0; exact callK1 (θ := []) (hD := (l13Cell_ok _ _ preB32 preB32)); exact rfl; exact rfl; exact rfl; (try dsimp only [SV.ren, C.ren, C.ren.all, tRen, GB.ren, calF, upOf, List.cons_append, List.nil_append, Nat.reduceAdd]))
      | (refine o_gs rfl rfl (fun hc => ?_) (fun hc => ?_) <;> (try simp only [decide_eq_true_eq, decide_eq_false_iff_not, Bool.not_eq_true', Bool.not_eq_false', Bool.not_eq_true, Bool.not_eq_false, Bool.and_eq_true, Bool.or_eq_false_iff, Bool.not_not] at hc) <;> (try (first | contradiction | (exfalso; omega))))
      | (refine g_cond rfl (fun hc => ?_) (fun hc => ?_) <;> (try simp only [decide_eq_true_eq, decide_eq_false_iff_not, Bool.not_eq_true', Bool.not_eq_false', Bool.not_eq_true, Bool.not_eq_false, Bool.and_eq_true, Bool.or_eq_false_iff, Bool.not_not] at hc) <;> (try (first | contradiction | (exfalso; omega))))
    · have hn := near_no (k := k) h0 (by omega) (by assumption)
      repeat (first | refine g_ret ?_ | refine q_sr ?_ | refine q_br ?_ | refine q_lr ?_ | refine q_cr ?_)
      refine ends_id ?_
      refine endK [] (h2 := ?_) (h3 := ?_) (nd := ?_)
      all_goals (repeat' first | with_reducible exact SVLe.refl | exact SVLe.any | exact SVLe.one (.sh rfl) | exact SVLe.one (.nil (by decide)) | refine SVLe.agg ?_ | refine SVLe.tup ?_ | exact TLe.nil | refine TLe.cons ?_ ?_ | exact CsLe.nil | refine CsLe.cons ?_ ?_ | exact CLe.refl | exact CLe.sh rfl | exact CLe.nil (by decide) | refine cle_i ?_ | refine cle_b ?_ | exact trivial | refine And.intro ?_ ?_ | exact Or.inl rfl | exact Or.inr rfl | refine Or.inr (row_eq ?_) | (refine Or.inr (bx_eq rfl rfl ?_); (try dsimp only [C.ren, C.ren.all]); (try exact rfl)) | exact SVLe.refl | refine sle_i ?_ | refine sle_b ?_)
      all_goals first | exact (show nodupB _ = true from rfl) | exact Or.inr rfl | ((exact hn.symm))
    · refine q_again (i + 1) [] (by exact stk) ?_ ?_
      · exact ⟨by omega, by omega, near_next h0 h2 (by assumption)⟩
      · omega
    · have hn : near a b k = true := by
        by_cases h : 0 < k
        · rw [show k = i by omega]; exact h2
        · exact near_le (by omega)
      repeat (first | refine g_ret ?_ | refine q_sr ?_ | refine q_br ?_ | refine q_lr ?_ | refine q_cr ?_)
      refine ends_id ?_
      refine endK [] (h2 := ?_) (h3 := ?_) (nd := ?_)
      all_goals (repeat' first | with_reducible exact SVLe.refl | exact SVLe.any | exact SVLe.one (.sh rfl) | exact SVLe.one (.nil (by decide)) | refine SVLe.agg ?_ | refine SVLe.tup ?_ | exact TLe.nil | refine TLe.cons ?_ ?_ | exact CsLe.nil | refine CsLe.cons ?_ ?_ | exact CLe.refl | exact CLe.sh rfl | exact CLe.nil (by decide) | refine cle_i ?_ | refine cle_b ?_ | exact trivial | refine And.intro ?_ ?_ | exact Or.inl rfl | exact Or.inr rfl | refine Or.inr (row_eq ?_) | (refine Or.inr (bx_eq rfl rfl ?_); (try dsimp only [C.ren, C.ren.all]); (try exact rfl)) | exact SVLe.refl | refine sle_i ?_ | refine sle_b ?_)
      all_goals first | exact (show nodupB _ = true from rfl) | exact Or.inr rfl | ((exact hn.symm))
theorem beyond_ok (l : List Int) (hx : (l.length : Int) ≤ 16777216) : Does Try.prog 117 [.one (shI l)] [] (.one (shI l.tail)) [] := by
  have e : l.drop (if (l.length : Int) < 1 then (l.length : Int) else 1).toNat = l.tail := by
    cases l with
    | nil => rfl
    | cons a l => rw [if_neg (by simp only [List.length_cons]; omega)]; rfl
  refine does_of (k := 0) Try.func117 rfl Try.ntmps117 rfl rfl fun w F0 S0 ρ0 => ?_
  dsimp only [argT, argH]
  repeat' first
    | refine g_seq ?_
    | refine g_skip ?_
    | refine g_exit ?_
    | refine g_block ?_
    | refine g_reg ?_
    | refine g_if_t rfl ?_
    | refine g_if_f rfl ?_
    | refine o_nil ?_
    | refine q_s ?_
    | refine q_se ?_
    | refine q_b ?_
    | refine q_be rfl ?_
    | refine q_bn rfl ?_
    | refine q_le ?_
    | refine q_ce ?_
    | (apply p3; (first | exact pu1 | exact puN | exact a_len_str rfl (fT rfl) | exact a_min rfl rfl | exact a_slT rfl rfl rfl (fS rfl) (by omega) (by omega) (by exact rfl)); exact rfl)
    | (apply s3; exact a_slTO rfl rfl rfl (fS rfl) (by omega) (by omega) (by exact rfl) (by decide); exact rfl; exact rfl)
    | (refine o_gs rfl rfl (fun hc => ?_) (fun hc => ?_) <;> (try simp only [decide_eq_true_eq, decide_eq_false_iff_not, Bool.not_eq_true', Bool.not_eq_false', Bool.not_eq_true, Bool.not_eq_false, Bool.and_eq_true, Bool.or_eq_false_iff, Bool.not_not] at hc) <;> (try (first | contradiction | (exfalso; omega))))
    | (refine g_cond rfl (fun hc => ?_) (fun hc => ?_) <;> (try simp only [decide_eq_true_eq, decide_eq_false_iff_not, Bool.not_eq_true', Bool.not_eq_false', Bool.not_eq_true, Bool.not_eq_false, Bool.and_eq_true, Bool.or_eq_false_iff, Bool.not_not] at hc) <;> (try (first | contradiction | (exfalso; omega))))
  rw [← e]
  repeat (first | refine g_ret ?_ | refine q_sr ?_ | refine q_br ?_ | refine q_lr ?_ | refine q_cr ?_)
  refine ends_id ?_
  refine endK [] (h2 := ?_) (h3 := ?_) (nd := ?_)
  all_goals (repeat' first | with_reducible exact SVLe.refl | exact SVLe.any | exact SVLe.one (.sh rfl) | exact SVLe.one (.nil (by decide)) | refine SVLe.agg ?_ | refine SVLe.tup ?_ | exact TLe.nil | refine TLe.cons ?_ ?_ | exact CsLe.nil | refine CsLe.cons ?_ ?_ | exact CLe.refl | exact CLe.sh rfl | exact CLe.nil (by decide) | refine cle_i ?_ | refine cle_b ?_ | exact trivial | refine And.intro ?_ ?_ | exact Or.inl rfl | exact Or.inr rfl | refine Or.inr (row_eq ?_) | (refine Or.inr (bx_eq rfl rfl ?_); (try dsimp only [C.ren, C.ren.all]); (try exact rfl)) | exact SVLe.refl | refine sle_i ?_ | refine sle_b ?_)
  all_goals first | exact (show nodupB _ = true from rfl) | exact Or.inr rfl | (rfl)
/-- A configuration comes again, moved. -/
@[irreducible] def fits (c e : Conf) (d k : Int) : Bool := decide (c.st = e.st) && (if 0 < d then eqI c.ri e.ri && near c.le e.le k else decide (c.ri.headD 0 = e.ri.headD 0) && eqI c.le e.le && near c.ri.tail e.ri.tail k)
theorem symAt_0 (l : List Int) : symAt l 0 = l.headD 0 := by unfold symAt; cases l <;> rfl
theorem shiftFits_ok (c e : Conf) (d k : Int) (h1 : (c.le.length : Int) ≤ 16777216) (h2 : (c.ri.length : Int) ≤ 16777216) (h3 : (e.le.length : Int) ≤ 16777216) (h4 : (e.ri.length : Int) ≤ 16777216) (hk : k ≤ 16777216) (hk0 : -16777216 ≤ k) : Does Try.prog 76 [.agg (coC c), .agg (coC e), .one (int d), .one (int k)] [] (.one (boo (fits c e d k))) [] := by
  refine does_of (k := 0) Try.func76 rfl Try.ntmps76 rfl rfl fun w F0 S0 ρ0 => ?_
  dsimp only [argT, argH]
  repeat' first
    | refine g_seq ?_
    | refine g_skip ?_
    | refine g_exit ?_
    | refine g_block ?_
    | refine g_reg ?_
    | refine g_if_t rfl ?_
    | refine g_if_f rfl ?_
    | refine o_nil ?_
    | refine q_s ?_
    | refine q_se ?_
    | refine q_b ?_
    | refine q_be rfl ?_
    | refine q_bn rfl ?_
    | refine q_le ?_
    | refine q_ce ?_
    | (apply n3; exact a_new (gb := .bx _) rfl; exact rfl; (try dsimp only [List.map_cons, List.map_nil, scC, Nat.reduceAdd]))
    | (apply p3; (first | exact pu1 | exact puL | exact a_ne rfl rfl | exact a_neS rfl rfl rfl | exact puC); exact rfl)
    | (apply c4 0; exact callK1 (θ := []) (hD := (sEqual_ok _ _ preB32 preB32)); exact rfl; exact rfl; exact rfl; (try dsimp only [SV.ren, C.ren, C.ren.all, tRen, GB.ren, calF, upOf, List.cons_append, List.nil_append, Nat.reduceAdd]))
    | (apply c4 0; exact callK1 (θ := []) (hD := (sameBeginning_ok _ _ _ preB32 preB32 preB32 preB32)); exact rfl; exact rfl; exact rfl; (try dsimp only [SV.ren, C.ren, C.ren.all, tRen, GB.ren, calF, upOf, List.cons_append, List.nil_append, Nat.reduceAdd]))
    | refine o_no rfl rfl rfl rfl ?_
    | refine o_noN rfl rfl rfl ?_
    | (apply py3; exact rfl; exact rfl; (first | exact pu1 | exact puL | exact a_ne rfl rfl | exact a_neS rfl rfl rfl | exact puC); exact rfl; exact rfl)
    | (apply ny3; exact rfl; exact rfl; exact a_new (gb := .bx _) rfl; exact rfl; exact rfl)
    | (apply cy4 0; exact rfl; exact rfl; exact callK1 (θ := []) (hD := (sEqual_ok _ _ preB32 preB32)); exact rfl; exact rfl; exact rfl; exact rfl; (try dsimp only [SV.ren, C.ren, C.ren.all, tRen, GB.ren, calF, upOf, List.cons_append, List.nil_append, Nat.reduceAdd]))
    | (apply cy4 0; exact rfl; exact rfl; exact callK1 (θ := []) (hD := (sameBeginning_ok _ _ _ preB32 preB32 preB32 preB32)); exact rfl; exact rfl; exact rfl; exact rfl; (try dsimp only [SV.ren, C.ren, C.ren.all, tRen, GB.ren, calF, upOf, List.cons_append, List.nil_append, Nat.reduceAdd]))
    | (apply g_drN (id := 5) okM [[], [0], [0, 1], [], [3], [0, 1, 2, 3, 4], [0, 1, 2, 3, 4, 5], [0, 1, 2, 3, 4, 5, 6], [0, 1, 2, 3, 4, 5, 6, 7], [0, 1, 2, 3, 4, 5, 6, 7, 8], [0, 1, 2, 3, 4, 5, 6, 7], [0, 1, 2, 3, 4, 5, 6, 7, 10], [0, 1, 2, 3, 4, 5, 6, 7, 8, 9, 10, 11], [0, 1, 2, 3, 4, 5, 6, 7, 8, 9, 10, 11, 12], [0, 1, 2, 3, 4, 5, 6, 7, 8, 9, 10, 11, 12, 13], [0, 1, 2, 3, 4, 5, 6, 7, 8, 9, 10, 11, 12, 13, 14], [0, 1, 2, 3, 4, 5, 6, 7, 8, 9, 10, 11, 12, 13, 14, 15], [0, 1, 2, 3, 4, 5, 6, 7, 8, 9, 10, 11, 12, 13, 14, 15, 16], [0, 1, 2, 3, 4, 5, 6, 7, 8, 9, 10, 11, 12, 13, 14], [0, 1, 2, 3, 4, 5, 6, 7, 8, 9, 10, 11, 12, 13, 14, 18], [0, 1, 2, 3, 4, 5, 6, 7, 8, 9, 10, 11, 12, 13, 14, 15, 16, 17, 18, 19], [0, 1, 2, 3, 4, 5, 6, 7, 8, 9, 10, 11, 12, 13, 14], [0, 1, 2, 3, 4, 5, 6, 7, 8, 9, 10, 11, 12, 13, 14, 15, 16, 17, 18, 19, 20, 21], [0, 1, 2, 3, 4, 5, 6, 7, 8, 9, 10, 11, 12, 13, 14, 15, 16, 17, 18, 19, 20, 21, 22], [0, 1, 2, 3, 4, 5, 6, 7, 8, 9, 10, 11, 12, 13, 14, 15, 16, 17, 18, 19, 20, 21, 22, 23]] [([], []), ([], []), ([], []), ([], []), ([], []), ([], []), ([], []), ([], []), ([], []), ([], []), ([], []), ([], []), ([], []), ([], []), ([], []), ([], []), ([], []), ([], []), ([], []), ([], []), ([], []), ([], []), ([], []), ([], []), ([], [])] 0; (focus (all_goals refine dp 0 0 [32, 33] [] (a_pure (sv := .one _) rfl) ?_; all_goals refine dp 1 1 [32, 33] [] puL ?_; all_goals refine dp 2 3 [32, 33] [] (callD1 (n := _) 0 (θ := []) (hD := (symbolAt_ok _ _ preB32 preB32))) ?_; all_goals refine dp 3 0 [29, 30, 31] [] (a_pure (sv := .one _) rfl) ?_; all_goals refine dp 4 1 [29, 30, 31] [] puL ?_; all_goals refine dp 5 31 [] [] (callD1 (n := _) 0 (θ := []) (hD := (symbolAt_ok _ _ preB32 preB32))) ?_; all_goals refine dp 6 63 [] [] (by first | exact puC | exact a_eqS rfl rfl rfl) ?_; all_goals (refine db 7 127 [] [] pu1 ?_ ?_ <;> (intro hc; first | cases hc | (try simp only [decide_eq_true_eq, decide_eq_false_iff_not, Bool.not_eq_true', Bool.not_eq_false', Bool.not_eq_true, Bool.not_eq_false, Bool.and_eq_true, Bool.or_eq_false_iff, Bool.not_not] at hc); first | contradiction | (exfalso; omega) | skip)); all_goals (first | refine dn 8 255 [39, 40] [] ?_ | refine dpy 8 255 [39, 40] [] (a_pure (sv := .one _) rfl) ?_); all_goals (first | refine dn 9 511 [39, 40] [] ?_ | refine dpy 9 511 [39, 40] [] puL ?_); all_goals (first | refine dn 10 1020 [37, 38] [] ?_ | refine dpy 10 1020 [37, 38] [] (a_pure (sv := .one _) rfl) ?_); all_goals (first | refine dn 11 2041 [37, 38] [] ?_ | refine dpy 11 2041 [37, 38] [] puL ?_); all_goals (first | refine dn 12 4095 [] [] ?_ | refine dpy 12 4095 [] [] (callD1 (n := _) 0 (θ := []) (hD := (sEqual_ok _ _ preB32 preB32))) ?_); all_goals refine dp 13 8191 [] [] (a_pure (sv := .one _) rfl) ?_; all_goals (refine db 14 16383 [] [] pu1 ?_ ?_ <;> (intro hc; first | cases hc | (try simp only [decide_eq_true_eq, decide_eq_false_iff_not, Bool.not_eq_true', Bool.not_eq_false', Bool.not_eq_true, Bool.not_eq_false, Bool.and_eq_true, Bool.or_eq_false_iff, Bool.not_not] at hc); first | contradiction | (exfalso; omega) | skip)); all_goals (first | refine dn 15 32767 [47, 48, 50] [] ?_ | refine dpy 15 32767 [47, 48, 50] [] (a_pure (sv := .one _) rfl) ?_); all_goals (first | refine dn 16 65535 [47, 48, 50] [] ?_ | refine dpy 16 65535 [47, 48, 50] [] puL ?_); all_goals (first | refine dn 17 131071 [47, 48, 50] [] ?_ | refine dpy 17 131071 [47, 48, 50] [] (callD0 (n := _) 0 (θ := []) (hD := (beyond_ok _ preB32))) ?_); all_goals (first | refine dn 18 262136 [44, 45, 46, 50] [] ?_ | refine dpy 18 262136 [44, 45, 46, 50] [] (a_pure (sv := .one _) rfl) ?_); all_goals (first | refine dn 19 524273 [44, 45, 46, 50] [] ?_ | refine dpy 19 524273 [44, 45, 46, 50] [] puL ?_); all_goals (first | refine dn 20 1048575 [50] [] ?_ | refine dpy 20 1048575 [50] [] (callD0 (n := _) 0 (θ := []) (hD := (beyond_ok _ preB32))) ?_); all_goals (first | refine dn 21 2097088 [44, 45, 46, 47, 48, 49] [] ?_ | refine dpy 21 2097088 [44, 45, 46, 47, 48, 49] [] pu1 ?_); all_goals (first | refine dn 22 4194303 [] [] ?_ | refine dpy 22 4194303 [] [] (callD1 (n := _) 0 (θ := []) (hD := (sameBeginning_ok _ _ _ preB32 preB32 preB32 preB32))) ?_); all_goals refine dp 23 8388607 [] [] (a_pure (sv := .one _) rfl) ?_; all_goals refine dp 24 16777215 [] [] pu1 ?_; all_goals (refine d_nil ?_; dsimp only [selT, selH, trues, SV.ren, C.ren, C.ren.all, tRen, GB.ren, calF, upOf, List.cons_append, List.nil_append, Nat.reduceAdd, setRow, List.map_cons, List.map_nil, scC, List.set_cons_zero, List.set_cons_succ, List.take_succ_cons, List.take_zero, List.drop_succ_cons, List.drop_zero]))); any_goals kernel_rfl)
    | (refine o_gs rfl rfl (fun hc => ?_) (fun hc => ?_) <;> (try simp only [decide_eq_true_eq, decide_eq_false_iff_not, Bool.not_eq_true', Bool.not_eq_false', Bool.not_eq_true, Bool.not_eq_false, Bool.and_eq_true, Bool.or_eq_false_iff, Bool.not_not] at hc) <;> (try (first | contradiction | (exfalso; omega))))
    | (refine g_cond rfl (fun hc => ?_) (fun hc => ?_) <;> (try simp only [decide_eq_true_eq, decide_eq_false_iff_not, Bool.not_eq_true', Bool.not_eq_false', Bool.not_eq_true, Bool.not_eq_false, Bool.and_eq_true, Bool.or_eq_false_iff, Bool.not_not] at hc) <;> (try (first | contradiction | (exfalso; omega))))
  all_goals (try simp only [symAt_0] at *)
  all_goals
    repeat (first | refine g_ret ?_ | refine q_sr ?_ | refine q_br ?_ | refine q_lr ?_ | refine q_cr ?_)
    refine ends_id ?_
    refine endK [] (h2 := ?_) (h3 := ?_) (nd := ?_)
    all_goals (repeat' first | with_reducible exact SVLe.refl | exact SVLe.any | exact SVLe.one (.sh rfl) | exact SVLe.one (.nil (by decide)) | refine SVLe.agg ?_ | refine SVLe.tup ?_ | exact TLe.nil | refine TLe.cons ?_ ?_ | exact CsLe.nil | refine CsLe.cons ?_ ?_ | exact CLe.refl | exact CLe.sh rfl | exact CLe.nil (by decide) | refine cle_i ?_ | refine cle_b ?_ | exact trivial | refine And.intro ?_ ?_ | exact Or.inl rfl | exact Or.inr rfl | refine Or.inr (row_eq ?_) | (refine Or.inr (bx_eq rfl rfl ?_); (try dsimp only [C.ren, C.ren.all]); (try exact rfl)) | exact SVLe.refl | refine sle_i ?_ | refine sle_b ?_)
    all_goals first | exact (show nodupB _ = true from rfl) | exact Or.inr rfl | ((unfold fits; first | (simp [*]; done) | (rw [decide_eq_false] <;> first | rfl | omega | (simp; done)) | (rw [decide_eq_true] <;> first | rfl | omega | (simp [*]; done)) | (simp_all; done) | (simp_all; omega)))
theorem l25Again_ok (c e : Conf) (d k : Int) (h1 : (c.le.length : Int) ≤ 16777216) (h2 : (c.ri.length : Int) ≤ 16777216) (h3 : (e.le.length : Int) ≤ 16777216) (h4 : (e.ri.length : Int) ≤ 16777216) (hk : k ≤ 16777216) (hk0 : -16777216 ≤ k) : Does Try.prog 109 [.one (coB c), .one (coB e), .one (int d), .one (int k)] [] (.one (boo (decide (d ≠ 0) && fits c e d k))) [] := by
  refine does_of (k := 0) Try.func109 rfl Try.ntmps109 rfl rfl fun w F0 S0 ρ0 => ?_
  dsimp only [argT, argH]
  repeat' first
    | refine g_seq ?_
    | refine g_skip ?_
    | refine g_exit ?_
    | refine g_block ?_
    | refine g_reg ?_
    | refine g_if_t rfl ?_
    | refine g_if_f rfl ?_
    | refine o_nil ?_
    | refine q_s ?_
    | refine q_se ?_
    | refine q_b ?_
    | refine q_be rfl ?_
    | refine q_bn rfl ?_
    | refine q_le ?_
    | refine q_ce ?_
    | (apply p3; (first | exact pu1 | exact puC); exact rfl)
    | (apply g_drN (id := 1) okM [[], [0], [0, 1], [0, 1, 2], [], [4], [4, 5], [4, 5, 6], [0, 1, 2, 3, 4, 5, 6, 7], [0, 1, 2, 3, 4, 5, 6, 7, 8], [0, 1, 2, 3, 4, 5, 6, 7, 8, 9], [0, 1, 2, 3, 4, 5, 6, 7, 8, 9, 10], [0, 1, 2, 3, 4, 5, 6, 7, 8, 9, 10, 11]] [([], []), ([], []), ([], []), ([], []), ([], []), ([], []), ([], []), ([], []), ([], []), ([], []), ([], []), ([], []), ([], [])] 0; (focus (all_goals refine dp 0 0 [13, 14, 15, 16] [] pu1 ?_; all_goals refine dp 1 1 [13, 14, 15, 16] [] (a_pure (sv := .one _) rfl) ?_; all_goals refine dp 2 3 [13, 14, 15, 16] [] (a_pure (sv := .one _) rfl) ?_; all_goals refine dp 3 7 [13, 14, 15, 16] [] puL ?_; all_goals refine dp 4 0 [9, 10, 11, 12] [] pu1 ?_; all_goals refine dp 5 1 [9, 10, 11, 12] [] (a_pure (sv := .one _) rfl) ?_; all_goals refine dp 6 3 [9, 10, 11, 12] [] (a_pure (sv := .one _) rfl) ?_; all_goals refine dp 7 7 [9, 10, 11, 12] [] puL ?_; all_goals refine dp 8 255 [] [] (by first | exact a_ne rfl rfl | exact a_neS rfl rfl rfl) ?_; all_goals (refine db 9 511 [] [] pu1 ?_ ?_ <;> (intro hc; first | cases hc | (try simp only [decide_eq_true_eq, decide_eq_false_iff_not, Bool.not_eq_true', Bool.not_eq_false', Bool.not_eq_true, Bool.not_eq_false, Bool.and_eq_true, Bool.or_eq_false_iff, Bool.not_not] at hc); first | contradiction | (exfalso; omega) | skip)); all_goals (first | refine dn 10 1023 [] [] ?_ | refine dpy 10 1023 [] [] pu1 ?_); all_goals (first | refine dn 11 2047 [] [] ?_ | refine dpy 11 2047 [] [] (by first | exact puC | exact a_eqS rfl rfl rfl) ?_); all_goals refine dp 12 4095 [] [] (a_pure (sv := .one _) rfl) ?_; all_goals (refine d_nil ?_; dsimp only [selT, selH, trues, SV.ren, C.ren, C.ren.all, tRen, GB.ren, calF, upOf, List.cons_append, List.nil_append, Nat.reduceAdd, setRow, List.map_cons, List.map_nil, scC, List.set_cons_zero, List.set_cons_succ, List.take_succ_cons, List.take_zero, List.drop_succ_cons, List.drop_zero]))); any_goals kernel_rfl)
    | (apply g_drN (id := 4) okM [[], [0], [0, 1], [0, 1, 2], [], [4], [4, 5], [4, 5, 6], [0, 1, 2, 3, 4, 5, 6, 7], [0, 1, 2, 3, 4, 5, 6, 7, 8], [0, 1, 2, 3, 4, 5, 6, 7, 8, 9], [0, 1, 2, 3, 4, 5, 6, 7, 8, 9, 10], [0, 1, 2, 3, 4, 5, 6, 7, 8, 9, 10, 11], [0, 1, 2, 3, 4, 5, 6, 7, 8, 9, 10, 11, 12], [0, 1, 2, 3, 4, 5, 6, 7, 8, 9], [0, 1, 2, 3, 4, 5, 6, 7, 8, 9, 14], [0, 1, 2, 3, 4, 5, 6, 7, 8, 9, 14, 15], [0, 1, 2, 3, 4, 5, 6, 7, 8, 9, 14, 15, 16], [0, 1, 2, 3, 4, 5, 6, 7, 8, 9], [0, 1, 2, 3, 4, 5, 6, 7, 8, 9, 10, 11, 12, 13, 14, 15, 16, 17, 18], [0, 1, 2, 3, 4, 5, 6, 7, 8, 9, 10, 11, 12, 13, 14, 15, 16, 17, 18, 19], [0, 1, 2, 3, 4, 5, 6, 7, 8, 9, 10, 11, 12, 13, 14, 15, 16, 17, 18, 19, 20]] [([], []), ([], []), ([], []), ([], []), ([], []), ([], []), ([], []), ([], []), ([], []), ([], []), ([], []), ([], []), ([], []), ([], []), ([], []), ([], []), ([], []), ([], []), ([], []), ([], []), ([], []), ([], [])] 0; (focus (all_goals refine dp 0 0 [28, 29, 30, 31] [] pu1 ?_; all_goals refine dp 1 1 [28, 29, 30, 31] [] (a_pure (sv := .one _) rfl) ?_; all_goals refine dp 2 3 [28, 29, 30, 31] [] (a_pure (sv := .one _) rfl) ?_; all_goals refine dp 3 7 [28, 29, 30, 31] [] puL ?_; all_goals refine dp 4 0 [24, 25, 26, 27] [] pu1 ?_; all_goals refine dp 5 1 [24, 25, 26, 27] [] (a_pure (sv := .one _) rfl) ?_; all_goals refine dp 6 3 [24, 25, 26, 27] [] (a_pure (sv := .one _) rfl) ?_; all_goals refine dp 7 7 [24, 25, 26, 27] [] puL ?_; all_goals refine dp 8 255 [] [] (callD1 (n := _) 0 (θ := []) (hD := (l00Same_ok _ _ preB32 preB32))) ?_; all_goals (refine db 9 511 [] [] pu1 ?_ ?_ <;> (intro hc; first | cases hc | (try simp only [decide_eq_true_eq, decide_eq_false_iff_not, Bool.not_eq_true', Bool.not_eq_false', Bool.not_eq_true, Bool.not_eq_false, Bool.and_eq_true, Bool.or_eq_false_iff, Bool.not_not] at hc); first | contradiction | (exfalso; omega) | skip)); all_goals (first | refine dn 10 1023 [38, 39, 40, 41, 42] [] ?_ | refine dpy 10 1023 [38, 39, 40, 41, 42] [] pu1 ?_); all_goals (first | refine dn 11 2047 [38, 39, 40, 41, 42] [] ?_ | refine dpy 11 2047 [38, 39, 40, 41, 42] [] (a_pure (sv := .one _) rfl) ?_); all_goals (first | refine dn 12 4095 [38, 39, 40, 41, 42] [] ?_ | refine dpy 12 4095 [38, 39, 40, 41, 42] [] (a_pure (sv := .one _) rfl) ?_); all_goals (first | refine dn 13 8191 [38, 39, 40, 41, 42] [] ?_ | refine dpy 13 8191 [38, 39, 40, 41, 42] [] puL ?_); all_goals (first | refine dn 14 16368 [34, 35, 36, 37, 42] [] ?_ | refine dpy 14 16368 [34, 35, 36, 37, 42] [] pu1 ?_); all_goals (first | refine dn 15 32737 [34, 35, 36, 37, 42] [] ?_ | refine dpy 15 32737 [34, 35, 36, 37, 42] [] (a_pure (sv := .one _) rfl) ?_); all_goals (first | refine dn 16 65475 [34, 35, 36, 37, 42] [] ?_ | refine dpy 16 65475 [34, 35, 36, 37, 42] [] (a_pure (sv := .one _) rfl) ?_); all_goals (first | refine dn 17 130951 [34, 35, 36, 37, 42] [] ?_ | refine dpy 17 130951 [34, 35, 36, 37, 42] [] puL ?_); all_goals (first | refine dn 18 261888 [34, 35, 36, 37, 38, 39, 40, 41] [] ?_ | refine dpy 18 261888 [34, 35, 36, 37, 38, 39, 40, 41] [] pu1 ?_); all_goals (first | refine dn 19 524287 [] [] ?_ | refine dpy 19 524287 [] [] (callD1 (n := _) 0 (θ := []) (hD := (l25Near_ok _ _ _ preB32 preB32 preB32 preB32))) ?_); all_goals refine dp 20 1048575 [] [] (a_pure (sv := .one _) rfl) ?_; all_goals refine dp 21 2097151 [] [] pu1 ?_; all_goals (refine d_nil ?_; dsimp only [selT, selH, trues, SV.ren, C.ren, C.ren.all, tRen, GB.ren, calF, upOf, List.cons_append, List.nil_append, Nat.reduceAdd, setRow, List.map_cons, List.map_nil, scC, List.set_cons_zero, List.set_cons_succ, List.take_succ_cons, List.take_zero, List.drop_succ_cons, List.drop_zero]))); any_goals kernel_rfl)
    | (apply g_drN (id := 5) okM [[], [0], [], [0, 1, 2], [0, 1, 2, 3], [0, 1, 2, 3, 4], [0, 1, 2, 3, 4, 5], [0, 1, 2, 3, 4, 5, 6], [0, 1, 2, 3, 4, 5, 6, 7], [0, 1, 2, 3, 4, 5, 6, 7, 8], [0, 1, 2, 3, 4, 5], [0, 1, 2, 3, 4, 5, 10], [0, 1, 2, 3, 4, 5, 10, 11], [0, 1, 2, 3, 4, 5, 10, 11, 12], [0, 1, 2, 3, 4, 5, 6, 7, 8, 9, 10, 11, 12, 13], [0, 1, 2, 3, 4, 5, 6, 7, 8, 9, 10, 11, 12, 13, 14], [0, 1, 2, 3, 4, 5, 6, 7, 8, 9, 10, 11, 12, 13, 14, 15], [0, 1, 2, 3, 4, 5, 6, 7, 8, 9, 10, 11, 12, 13, 14, 15, 16], [0, 1, 2, 3, 4, 5, 6, 7, 8, 9, 10, 11, 12, 13, 14, 15, 16, 17], [0, 1, 2, 3, 4, 5, 6, 7, 8, 9, 10, 11, 12, 13, 14, 15, 16, 17, 18], [0, 1, 2, 3, 4, 5, 6, 7, 8, 9, 10, 11, 12, 13, 14, 15, 16, 17, 18, 19], [0, 1, 2, 3, 4, 5, 6, 7, 8, 9, 10, 11, 12, 13, 14, 15, 16, 17, 18, 19, 20], [0, 1, 2, 3, 4, 5, 6, 7, 8, 9, 10, 11, 12, 13, 14, 15, 16], [0, 1, 2, 3, 4, 5, 6, 7, 8, 9, 10, 11, 12, 13, 14, 15, 16, 22], [0, 1, 2, 3, 4, 5, 6, 7, 8, 9, 10, 11, 12, 13, 14, 15, 16, 22, 23], [0, 1, 2, 3, 4, 5, 6, 7, 8, 9, 10, 11, 12, 13, 14, 15, 16, 22, 23, 24], [0, 1, 2, 3, 4, 5, 6, 7, 8, 9, 10, 11, 12, 13, 14, 15, 16, 17, 18, 19, 20, 21, 22, 23, 24, 25], [0, 1, 2, 3, 4, 5, 6, 7, 8, 9, 10, 11, 12, 13, 14, 15, 16], [0, 1, 2, 3, 4, 5, 6, 7, 8, 9, 10, 11, 12, 13, 14, 15, 16, 17, 18, 19, 20, 21, 22, 23, 24, 25, 26, 27], [0, 1, 2, 3, 4, 5, 6, 7, 8, 9, 10, 11, 12, 13, 14, 15, 16, 17, 18, 19, 20, 21, 22, 23, 24, 25, 26, 27, 28], [0, 1, 2, 3, 4, 5, 6, 7, 8, 9, 10, 11, 12, 13, 14, 15, 16, 17, 18, 19, 20, 21, 22, 23, 24, 25, 26, 27, 28, 29]] [([], []), ([], []), ([], []), ([], []), ([], []), ([], []), ([], []), ([], []), ([], []), ([], []), ([], []), ([], []), ([], []), ([], []), ([], []), ([], []), ([], []), ([], []), ([], []), ([], []), ([], []), ([0], []), ([], []), ([], []), ([], []), ([], []), ([1], []), ([], []), ([], []), ([], []), ([], [])] 2; (focus (all_goals refine dp 0 0 [47] [] pu1 ?_; all_goals refine dp 1 1 [47] [] (callD1 (n := _) 0 (θ := []) (hD := (l05Head_ok _ preB32))) ?_; all_goals refine dp 2 0 [45, 46] [] pu1 ?_; all_goals refine dp 3 7 [] [] (callD1 (n := _) 0 (θ := []) (hD := (l05Head_ok _ preB32))) ?_; all_goals refine dp 4 15 [] [] (by first | exact puC | exact a_eqS rfl rfl rfl) ?_; all_goals (refine db 5 31 [] [] pu1 ?_ ?_ <;> (intro hc; first | cases hc | (try simp only [decide_eq_true_eq, decide_eq_false_iff_not, Bool.not_eq_true', Bool.not_eq_false', Bool.not_eq_true, Bool.not_eq_false, Bool.and_eq_true, Bool.or_eq_false_iff, Bool.not_not] at hc); first | contradiction | (exfalso; omega) | skip)); all_goals (first | refine dn 6 63 [55, 56, 57, 58] [] ?_ | refine dpy 6 63 [55, 56, 57, 58] [] pu1 ?_); all_goals (first | refine dn 7 127 [55, 56, 57, 58] [] ?_ | refine dpy 7 127 [55, 56, 57, 58] [] (a_pure (sv := .one _) rfl) ?_); all_goals (first | refine dn 8 255 [55, 56, 57, 58] [] ?_ | refine dpy 8 255 [55, 56, 57, 58] [] (a_pure (sv := .one _) rfl) ?_); all_goals (first | refine dn 9 511 [55, 56, 57, 58] [] ?_ | refine dpy 9 511 [55, 56, 57, 58] [] puL ?_); all_goals (first | refine dn 10 1008 [51, 52, 53, 54] [] ?_ | refine dpy 10 1008 [51, 52, 53, 54] [] pu1 ?_); all_goals (first | refine dn 11 2017 [51, 52, 53, 54] [] ?_ | refine dpy 11 2017 [51, 52, 53, 54] [] (a_pure (sv := .one _) rfl) ?_); all_goals (first | refine dn 12 4035 [51, 52, 53, 54] [] ?_ | refine dpy 12 4035 [51, 52, 53, 54] [] (a_pure (sv := .one _) rfl) ?_); all_goals (first | refine dn 13 8071 [51, 52, 53, 54] [] ?_ | refine dpy 13 8071 [51, 52, 53, 54] [] puL ?_); all_goals (first | refine dn 14 16383 [] [] ?_ | refine dpy 14 16383 [] [] (callD1 (n := _) 0 (θ := []) (hD := (l00Same_ok _ _ preB32 preB32))) ?_); all_goals refine dp 15 32767 [] [] (a_pure (sv := .one _) rfl) ?_; all_goals (refine db 16 65535 [] [] pu1 ?_ ?_ <;> (intro hc; first | cases hc | (try simp only [decide_eq_true_eq, decide_eq_false_iff_not, Bool.not_eq_true', Bool.not_eq_false', Bool.not_eq_true, Bool.not_eq_false, Bool.and_eq_true, Bool.or_eq_false_iff, Bool.not_not] at hc); first | contradiction | (exfalso; omega) | skip)); all_goals (first | refine dn 17 131071 [67, 68, 69, 70, 72] [] ?_ | refine dpy 17 131071 [67, 68, 69, 70, 72] [] pu1 ?_); all_goals (first | refine dn 18 262143 [67, 68, 69, 70, 72] [] ?_ | refine dpy 18 262143 [67, 68, 69, 70, 72] [] (a_pure (sv := .one _) rfl) ?_); all_goals (first | refine dn 19 524287 [67, 68, 69, 70, 72] [] ?_ | refine dpy 19 524287 [67, 68, 69, 70, 72] [] (a_pure (sv := .one _) rfl) ?_); all_goals (first | refine dn 20 1048575 [67, 68, 69, 70, 72] [] ?_ | refine dpy 20 1048575 [67, 68, 69, 70, 72] [] puL ?_); all_goals (first | refine dn 21 2097151 [67, 68, 69, 70, 72] [] ?_ | refine duyN 21 2097151 [67, 68, 69, 70, 72] [] (callD1 (n := _) 0 (θ := []) (hD := (l05Rest_ok _ preB32))) (by exact rfl) (by exact rfl) ?_); all_goals (first | refine dn 22 4194272 [62, 63, 64, 65, 66, 72] [(true, 0)] ?_ | refine dpy 22 4194272 [62, 63, 64, 65, 66, 72] [(true, 0)] pu1 ?_); all_goals (first | refine dn 23 8388545 [62, 63, 64, 65, 66, 72] [(true, 0)] ?_ | refine dpy 23 8388545 [62, 63, 64, 65, 66, 72] [(true, 0)] (a_pure (sv := .one _) rfl) ?_); all_goals (first | refine dn 24 16777091 [62, 63, 64, 65, 66, 72] [(true, 0)] ?_ | refine dpy 24 16777091 [62, 63, 64, 65, 66, 72] [(true, 0)] (a_pure (sv := .one _) rfl) ?_); all_goals (first | refine dn 25 33554183 [62, 63, 64, 65, 66, 72] [(true, 0)] ?_ | refine dpy 25 33554183 [62, 63, 64, 65, 66, 72] [(true, 0)] puL ?_); all_goals (first | refine dn 26 67108863 [72] [] ?_ | refine duyN 26 67108863 [72] [] (callD1 (n := _) 1 (θ := []) (hD := (l05Rest_ok _ preB32))) (by exact rfl) (by exact rfl) ?_); all_goals (first | refine dn 27 134216704 [62, 63, 64, 65, 66, 67, 68, 69, 70, 71] [(true, 0), (true, 1)] ?_ | refine dpy 27 134216704 [62, 63, 64, 65, 66, 67, 68, 69, 70, 71] [(true, 0), (true, 1)] pu1 ?_); all_goals (first | refine dn 28 268435455 [] [] ?_ | refine dpy 28 268435455 [] [] (callD1 (n := _) 2 (θ := []) (hD := (l25Near_ok _ _ _ preB32 preB32 preB32 preB32))) ?_); all_goals refine dp 29 536870911 [] [] (a_pure (sv := .one _) rfl) ?_; all_goals refine dp 30 1073741823 [] [] pu1 ?_; all_goals (refine d_nil ?_; dsimp only [selT, selH, trues, SV.ren, C.ren, C.ren.all, tRen, GB.ren, calF, upOf, List.cons_append, List.nil_append, Nat.reduceAdd, setRow, List.map_cons, List.map_nil, scC, List.set_cons_zero, List.set_cons_succ, List.take_succ_cons, List.take_zero, List.drop_succ_cons, List.drop_zero]))); any_goals kernel_rfl)
    | (refine o_gs rfl rfl (fun hc => ?_) (fun hc => ?_) <;> (try simp only [decide_eq_true_eq, decide_eq_false_iff_not, Bool.not_eq_true', Bool.not_eq_false', Bool.not_eq_true, Bool.not_eq_false, Bool.and_eq_true, Bool.or_eq_false_iff, Bool.not_not] at hc) <;> (try (first | contradiction | (exfalso; omega))))
    | (refine g_cond rfl (fun hc => ?_) (fun hc => ?_) <;> (try simp only [decide_eq_true_eq, decide_eq_false_iff_not, Bool.not_eq_true', Bool.not_eq_false', Bool.not_eq_true, Bool.not_eq_false, Bool.and_eq_true, Bool.or_eq_false_iff, Bool.not_not] at hc) <;> (try (first | contradiction | (exfalso; omega))))
  all_goals
    repeat (first | refine g_ret ?_ | refine q_sr ?_ | refine q_br ?_ | refine q_lr ?_ | refine q_cr ?_)
    refine ends_id ?_
    refine endK [] (h2 := ?_) (h3 := ?_) (nd := ?_)
    all_goals (repeat' first | with_reducible exact SVLe.refl | exact SVLe.any | exact SVLe.one (.sh rfl) | exact SVLe.one (.nil (by decide)) | refine SVLe.agg ?_ | refine SVLe.tup ?_ | exact TLe.nil | refine TLe.cons ?_ ?_ | exact CsLe.nil | refine CsLe.cons ?_ ?_ | exact CLe.refl | exact CLe.sh rfl | exact CLe.nil (by decide) | refine cle_i ?_ | refine cle_b ?_ | exact trivial | refine And.intro ?_ ?_ | exact Or.inl rfl | exact Or.inr rfl | refine Or.inr (row_eq ?_) | (refine Or.inr (bx_eq rfl rfl ?_); (try dsimp only [C.ren, C.ren.all]); (try exact rfl)) | exact SVLe.refl | refine sle_i ?_ | refine sle_b ?_)
    all_goals first | exact (show nodupB _ = true from rfl) | exact Or.inr rfl | ((unfold fits; first | (simp [*]; done) | (rw [decide_eq_false] <;> first | rfl | omega | (simp; done)) | (rw [decide_eq_true] <;> first | rfl | omega | (simp [*]; done)) | (simp_all; done) | (simp_all; omega)))
end Go.Proofs.Ytncccjpbaeaafaa
end
section
set_option linter.unusedVariables false
set_option linter.unusedSimpArgs false
set_option maxRecDepth 100000
set_option maxHeartbeats 4000000
namespace Go.Proofs.Ytncccjpbaeaafaa
open Go Foot
theorem preB35 {p : Prop} (h : p := by first | with_reducible assumption | omega | (simp only [List.length_append, List.length_cons, List.length_nil, List.length_set, List.length_replicate, List.length_take, List.length_drop, List.length_tail, List.length_dropLast, List.length_reverse] at *; omega) | exact mem_len (by assumption) (by omega) | (with_reducible refine Int.le_trans (Int.ofNat_le.2 (trimR_len _)) ?_; simp only [List.length_cons, List.length_tail]; omega) | (exact (ruAt_ok (by assumption) (by assumption) (by assumption)).2.1) | (exact (ruAt_ok (by assumption) (by assumption) (by assumption)).2.1) | (have := vMach_bd (by assumption); omega) | (simp only [mC_ch, mC_tu]; omega) | (with_reducible refine Int.le_trans (Int.ofNat_le.2 (pushL_len _ _)) ?_; simp only [List.length_dropLast]; omega) | exact (ask_ok (by assumption)).1 | exact (ask_ok (by assumption)).2.1 | exact (ask_ok (by assumption)).2.2.1 | exact (ask_ok (by assumption)).2.2.2 | trivial) : p := h
theorem l25Blank_ok : Does Try.prog 69 [] [] (.agg [int 0, .gv 0, .gv 1]) [roI [], roI []] := by
  refine does_of (k := 0) Try.func69 rfl Try.ntmps69 rfl rfl fun w F0 S0 ρ0 => ?_
  dsimp only [argT, argH]
  repeat' first
    | refine g_seq ?_
    | refine g_skip ?_
    | refine g_exit ?_
    | refine g_block ?_
    | refine g_reg ?_
    | refine g_if_t rfl ?_
    | refine g_if_f rfl ?_
    | refine o_nil ?_
    | refine q_s ?_
    | refine q_se ?_
    | refine q_b ?_
    | refine q_be rfl ?_
    | refine q_bn rfl ?_
    | refine q_le ?_
    | refine q_ce ?_
    | (apply n3; (first | exact a_new (gb := .bx _) rfl | exact a_litE eI [] rfl rfl rfl rfl rfl rfl rfl rfl); exact rfl; (try dsimp only [List.map_cons, List.map_nil, scC, Nat.reduceAdd]))
    | (apply p3; exact a_pure (sv := .agg _) rfl; exact rfl)
    | (apply w3; exact a_st_bx rfl rfl rfl rfl (fN rfl rfl) (Nat.le_of_ble_eq_true rfl) rfl; exact rfl; (try dsimp only [setRow, List.map_cons, List.map_nil, scC, List.set_cons_zero, List.set_cons_succ, List.take_succ_cons, List.take_zero, List.drop_succ_cons, List.drop_zero, Nat.reduceAdd]))
    | (refine o_gs rfl rfl (fun hc => ?_) (fun hc => ?_) <;> (try simp only [decide_eq_true_eq, decide_eq_false_iff_not, Bool.not_eq_true', Bool.not_eq_false', Bool.not_eq_true, Bool.not_eq_false, Bool.and_eq_true, Bool.or_eq_false_iff, Bool.not_not] at hc) <;> (try (first | contradiction | (exfalso; omega))))
    | (refine g_cond rfl (fun hc => ?_) (fun hc => ?_) <;> (try simp only [decide_eq_true_eq, decide_eq_false_iff_not, Bool.not_eq_true', Bool.not_eq_false', Bool.not_eq_true, Bool.not_eq_false, Bool.and_eq_true, Bool.or_eq_false_iff, Bool.not_not] at hc) <;> (try (first | contradiction | (exfalso; omega))))
  repeat (first | refine g_ret ?_ | refine q_sr ?_ | refine q_br ?_ | refine q_lr ?_ | refine q_cr ?_)
  refine ends_id ?_
  refine endK [?_, ?_] (h2 := ?_) (h3 := ?_) (nd := ?_)
  rotate_left 2
  all_goals (repeat' first | with_reducible exact SVLe.refl | exact SVLe.any | exact SVLe.one (.sh rfl) | exact SVLe.one (.nil (by decide)) | refine SVLe.agg ?_ | refine SVLe.tup ?_ | exact TLe.nil | refine TLe.cons ?_ ?_ | exact CsLe.nil | refine CsLe.cons ?_ ?_ | exact CLe.refl | exact CLe.sh rfl | exact CLe.nil (by decide) | refine cle_i ?_ | refine cle_b ?_ | exact trivial | refine And.intro ?_ ?_ | exact Or.inl rfl | exact Or.inr rfl | refine Or.inr (row_eq ?_) | (refine Or.inr (bx_eq rfl rfl ?_); (try dsimp only [C.ren, C.ren.all]); (try exact rfl)) | exact SVLe.refl | refine sle_i ?_ | refine sle_b ?_)
  all_goals first | exact (show nodupB _ = true from rfl) | exact Or.inr rfl | (rfl)
theorem ru_move {m : Mach} {c : Conf} (hm : vMach m = true) (hc : vConf m c = true) (h : (c.st * m.sy + c.ri.headD 0).toNat < m.ru.length) : (m.ru[(c.st * m.sy + c.ri.headD 0).toNat]).m = (ruAt m c).m := by rw [ruAt_ge hm hc]
theorem l25Side_ok (m : Mach) (c : Conf) (hm : vMach m = true) (hc : vConf m c = true) : Does Try.prog 108 [.one (maB m), .one (coB c)] [] (.one (int (ruAt m c).m)) [] := by
  have hbd := at_bd hm hc
  refine does_of (k := 0) Try.func108 rfl Try.ntmps108 rfl rfl fun w F0 S0 ρ0 => ?_
  dsimp only [argT, argH]
  repeat' first
    | refine g_seq ?_
    | refine g_skip ?_
    | refine g_exit ?_
    | refine g_block ?_
    | refine g_reg ?_
    | refine g_if_t rfl ?_
    | refine g_if_f rfl ?_
    | refine o_nil ?_
    | refine q_s ?_
    | refine q_se ?_
    | refine q_b ?_
    | refine q_be rfl ?_
    | refine q_bn rfl ?_
    | refine q_le ?_
    | refine q_ce ?_
    | (apply p3; exact a_pure (sv := .one _) rfl; exact rfl)
    | (apply g_drN (id := 1) okM [[], [0], [0, 1], [0, 1, 2], [], [], [4, 5], [0, 1, 2, 3, 4, 5, 6], [0, 1, 2, 3, 4, 5, 6, 7], [0, 1, 2, 3, 4, 5, 6, 7, 8], [0, 1, 2, 3, 4, 5, 6, 7, 8, 9]] [([], []), ([], []), ([], []), ([], []), ([], []), ([], []), ([], []), ([], []), ([], []), ([], []), ([], [])] 0; (focus (all_goals refine dp 0 0 [9, 10, 11] [] pu1 ?_; all_goals refine dp 1 1 [9, 10, 11] [] (a_pure (sv := .one _) rfl) ?_; all_goals refine dp 2 3 [9, 10, 11] [] (a_pure (sv := .one _) rfl) ?_; all_goals refine dp 3 7 [9, 10, 11] [] puL ?_; all_goals refine dp 4 0 [5, 6, 7, 8, 10] [] pu1 ?_; all_goals refine dp 5 0 [5, 6, 7, 8, 9] [] pu1 ?_; all_goals refine dp 6 3 [5, 6, 7, 8] [] (callD1 (n := _) 0 (θ := []) (hD := (l05AtC_ok _ _ preB35 preB35))) ?_; all_goals refine dp 7 127 [] [] puI ?_; all_goals refine dp 8 255 [] [] (a_pure (sv := .one _) rfl) ?_; all_goals refine dp 9 511 [] [] puL ?_; all_goals refine dp 10 1023 [] [] pu1 ?_; all_goals (refine d_nil ?_; dsimp only [selT, selH, trues, SV.ren, C.ren, C.ren.all, tRen, GB.ren, calF, upOf, List.cons_append, List.nil_append, Nat.reduceAdd, setRow, List.map_cons, List.map_nil, scC, List.set_cons_zero, List.set_cons_succ, List.take_succ_cons, List.take_zero, List.drop_succ_cons, List.drop_zero]))); any_goals kernel_rfl)
    | (refine o_gs rfl rfl (fun hc => ?_) (fun hc => ?_) <;> (try simp only [decide_eq_true_eq, decide_eq_false_iff_not, Bool.not_eq_true', Bool.not_eq_false', Bool.not_eq_true, Bool.not_eq_false, Bool.and_eq_true, Bool.or_eq_false_iff, Bool.not_not] at hc) <;> (try (first | contradiction | (exfalso; omega))))
    | (refine g_cond rfl (fun hc => ?_) (fun hc => ?_) <;> (try simp only [decide_eq_true_eq, decide_eq_false_iff_not, Bool.not_eq_true', Bool.not_eq_false', Bool.not_eq_true, Bool.not_eq_false, Bool.and_eq_true, Bool.or_eq_false_iff, Bool.not_not] at hc) <;> (try (first | contradiction | (exfalso; omega))))
  simp only [ru_move hm hc]
  repeat (first | refine g_ret ?_ | refine q_sr ?_ | refine q_br ?_ | refine q_lr ?_ | refine q_cr ?_)
  refine ends_id ?_
  refine endK [] (h2 := ?_) (h3 := ?_) (nd := ?_)
  all_goals (repeat' first | with_reducible exact SVLe.refl | exact SVLe.any | exact SVLe.one (.sh rfl) | exact SVLe.one (.nil (by decide)) | refine SVLe.agg ?_ | refine SVLe.tup ?_ | exact TLe.nil | refine TLe.cons ?_ ?_ | exact CsLe.nil | refine CsLe.cons ?_ ?_ | exact CLe.refl | exact CLe.sh rfl | exact CLe.nil (by decide) | refine cle_i ?_ | refine cle_b ?_ | exact trivial | refine And.intro ?_ ?_ | exact Or.inl rfl | exact Or.inr rfl | refine Or.inr (row_eq ?_) | (refine Or.inr (bx_eq rfl rfl ?_); (try dsimp only [C.ren, C.ren.all]); (try exact rfl)) | exact SVLe.refl | refine sle_i ?_ | refine sle_b ?_)
  all_goals first | exact (show nodupB _ = true from rfl) | exact Or.inr rfl | (rfl)
section
variable {m : Mach} {d n a b : Int} {c : Conf} {O : Option (Conf × Int × Int)}
end
end Go.Proofs.Ytncccjpbaeaafaa
end
section
set_option linter.unusedVariables false
set_option linter.unusedSimpArgs false
set_option maxRecDepth 100000
namespace Go.Proofs.Ytncccjpbaeaafaa
open Go Foot
section
variable {P : Program} {g : Gh} {st : St} {sv : SV} {dst : Option Tmp} {ty : TypeId} {pos : String} {after : Array Edge} {guard : Option (Nat × Bool)} {x : Operand}
theorem a_invP {f m Ty k i : Nat} {cs : List C} {name : String} {xs : List Operand} {Ts : Array TypeId} {ags : List SV} {H H' : List GB} {res : SV} {θ ld : List Nat} {up : List (Nat × GB)}
    (hD : Does P f ags H res H') (hc : opd st x = .one (.ifc Ty false [.gv i])) (hg : lkG st.h i = .bx cs) (hM : ∀ (b o : Nat) (w : World), (method (P.types.size + Made.depth) Ty (.pointer (some ⟨b, o, none⟩)) name).run P w = .ok (f, .pointer (some ⟨b, o + k, none⟩)) w) (hE : entB P f = true)
    (ha : ASLe st.h ld (.one (.gp i k) :: xs.map (opd st)) (ags.map (SV.ren (calF θ m)))) (hH : rootsEq (calF θ m) st 0 H) (hk : H.length = θ.length) (hθ : nodupB θ = true) (hm : θ.all (fun t => Nat.blt t m) = true) (hld : ld.all (fun i => !(θ.any (Nat.beq i))) = true)
    (hpl : ld = [] ∨ (res.plain ∧ plainH H')) (hlt : ltA H.length ags = true) (hltH : allG H.length H = true) (hltr : res.lt H'.length = true) (hltH' : allG H'.length H' = true) (hsv : res.ren (calF θ m) = sv) (hup : upOf (calF θ m) 0 H' = up) :
    Acts P g ⟨dst, .call { callee := .invoke x name, args := xs.toArray, argTypes := Ts }, ty, pos, after, guard⟩ st sv θ up := by
  refine call_core hD ha hH hk hθ hm hld hpl hlt hltH hltr hltH' hsv hup fun a w S ρ F h => ?_
  have h1 := opd_one h hc
  simp only [RepC, Bool.false_eq_true, if_false] at h1
  obtain ⟨u, e1, h2⟩ := h1
  simp only [RepCs] at h2
  obtain ⟨v, us, e2, h3, h4⟩ := h2
  simp only [List.cons.injEq] at e2
  obtain ⟨rfl, rfl⟩ := e2
  obtain ⟨b, off, hu⟩ : ∃ b off, u = .pointer (some ⟨b, off, none⟩) := by
    rcases h.root i with r0 | ⟨u', r1, r2⟩
    · rw [hg] at r0; cases r0
    · rw [hg] at r2
      simp only [RepG] at r2
      obtain ⟨b, off, vs, e, _⟩ := r2
      have := h3.1
      rw [r1] at this
      cases this
      exact ⟨b, off, e⟩
  subst hu
  have h5 : RepC w S ρ (.gp i k) (.pointer (some ⟨b, off + k, none⟩)) := ⟨_, b, off, h3.1, rfl, rfl⟩
  refine ⟨.pointer (some ⟨b, off + k, none⟩) :: xs.map a.eval, ?_, ⟨_, _, rfl, h5, repA_opd h xs⟩⟩
  have : (execOp a.eval ⟨dst, .call { callee := .invoke x name, args := xs.toArray, argTypes := Ts }, ty, pos, after, guard⟩).run P w = (callFunc f (.pointer (some ⟨b, off + k, none⟩) :: xs.map a.eval).toArray).run P w := by
    generalize hu : Value.pointer (some ⟨b, off, none⟩) = u at *
    have e3 : (#[Value.iface Ty u] ++ (xs.map a.eval).toArray).extract 1 (#[Value.iface Ty u] ++ (xs.map a.eval).toArray).size = (xs.map a.eval).toArray := by
      simp only [List.append_toArray, List.singleton_append, List.extract_toArray, List.extract_eq_take_drop, List.size_toArray, List.length_cons, List.length_map, Nat.add_sub_cancel, List.drop_succ_cons, List.drop_zero]
      congr 1
      exact List.take_of_length_le (by simp)
    have e4 : (callMethod (Value.iface Ty u) name (xs.map a.eval).toArray).run P w = (callFunc f (.pointer (some ⟨b, off + k, none⟩) :: xs.map a.eval).toArray).run P w := by
      show (do let (f, receiver) ← method ((← program).types.size + Made.depth) Ty u name; callFunc f (#[receiver] ++ (xs.map a.eval).toArray) : Sem Next).run P w = _
      rw [Sem.run_bind, run_program, Result.andThen_ok, Sem.run_bind, ← hu, hM, Result.andThen_ok]
      simp
    rw [← e4]
    show (do let d ← resolve a.eval { callee := .invoke x name, args := xs.toArray, argTypes := Ts } ty; invoke d.target d.args : Sem Next).run P w = _
    have e5 : (resolve a.eval { callee := .invoke x name, args := xs.toArray, argTypes := Ts } ty) = pure { target := .fn (.method name) #[], args := #[Value.iface Ty u] ++ (xs.map a.eval).toArray } := by
      simp only [resolve, e1, List.map_toArray]
    rw [e5, pure_bind]
    show (invoke (.fn (.method name) #[]) (#[Value.iface Ty u] ++ (xs.map a.eval).toArray)).run P w = _
    simp only [invoke]
    have e6 : (#[Value.iface Ty u] ++ (xs.map a.eval).toArray)[0]? = some (Value.iface Ty u) := by simp
    rw [e6]
    simp only []
    rw [e3]
  rw [this, run_callFunc hE]
end
section
variable {g : Gh} {dst : Option Tmp} {ty : TypeId} {pos : String} {after : Array Edge} {guard : Option (Nat × Bool)} {x : Operand} {f Ty i : Nat} {cs : List C} {name : String} {xs : List Operand} {Ts : Array TypeId} {ags : List SV} {H H' : List GB} {res : SV} {θ : List Nat} {t : List (Nat × SV)} {h : List (Nat × GB)} {n : Nat}
theorem callMP (k : Nat) (hc : opd ⟨t, h, n⟩ x = .one (.ifc Ty false [.gv i]) := by exact rfl) (hg : lkG h i = .bx cs := by exact rfl) (ha : ASLe h (rest n θ) (.one (.gp i k) :: xs.map (opd ⟨t, h, n⟩)) (ags.map (SV.ren (calF θ n))) := by (repeat (first | exact ASLe.nil | refine ASLe.cons ?_ ?_ | exact SVLe.refl | exact SVLe.any | refine SVLe.one ?_ | refine SVLe.agg ?_ | exact CsLe.nil | refine CsLe.cons ?_ ?_ | exact CLe.refl | exact CLe.sh rfl | exact CLe.nil (by decide) | refine CLe.fn ?_ | refine CLe.fnD ?_ | refine CLe.ifc ?_ | refine CLe.ifcD ?_ | exact CLe.lendA rfl rfl nowR | refine CLe.lendVA rfl rfl ?_ | refine CLe.lendPA rfl rfl rfl ?_)); first | done | fail) (hH : rootsEq (calF θ n) ⟨t, h, n⟩ 0 H := by repeat (first | exact trivial | refine And.intro ?_ ?_ | exact rfl)) (hD : Does Try.prog f ags H res H')
    (hM : ∀ (b o : Nat) (w : World), (method (Try.prog.types.size + Made.depth) Ty (.pointer (some ⟨b, o, none⟩)) name).run Try.prog w = .ok (f, .pointer (some ⟨b, o + k, none⟩)) w := by intro _ _ _; kernel_rfl) (hE : entB Try.prog f = true := by exact fQ rfl)
    (hk : H.length = θ.length := by exact rfl) (hθ : nodupB θ = true := by exact rfl) (hm : θ.all (fun t => Nat.blt t n) = true := by exact rfl) (hp : res.plain := by repeat (first | exact trivial | exact plain_rows (fun _ => by repeat (first | exact trivial | refine And.intro ?_ ?_)) | refine And.intro ?_ ?_)) (hp' : plainH H' := by repeat (first | exact trivial | exact plain_rows (fun _ => by repeat (first | exact trivial | refine And.intro ?_ ?_)) | refine And.intro ?_ ?_))
    (hlt : ltA H.length ags = true := by exact rfl) (hltH : allG H.length H = true := by exact rfl) (hltr : res.lt H'.length = true := by exact rfl) (hltH' : allG H'.length H' = true := by exact rfl) :
    Acts Try.prog g ⟨dst, .call { callee := .invoke x name, args := xs.toArray, argTypes := Ts }, ty, pos, after, guard⟩ ⟨t, h, n⟩ (res.ren (calF θ n)) θ (upOf (calF θ n) 0 H') :=
  a_invP (k := k) (m := n) hD hc hg hM hE ha hH hk hθ hm (rest_ok n θ) (.inr ⟨hp, hp'⟩) hlt hltH hltr hltH' rfl rfl
end
section
variable {g : Gh} {dst : Option Tmp} {ty : TypeId} {pos : String} {after : Array Edge} {guard : Option (Nat × Bool)} {x : Operand} {f Ty : Nat} {c1 : C} {name : String} {xs : List Operand} {Ts : Array TypeId} {ags : List SV} {H H' : List GB} {res : SV} {θ : List Nat} {t : List (Nat × SV)} {h : List (Nat × GB)} {n : Nat}
theorem callM0 (hc : opd ⟨t, h, n⟩ x = .one (.ifc Ty false [c1]) := by exact rfl) (ha : ASLe h [] (.one c1 :: xs.map (opd ⟨t, h, n⟩)) (ags.map (SV.ren (calF θ n))) := by (repeat (first | exact ASLe.nil | refine ASLe.cons ?_ ?_ | exact SVLe.refl | refine SVLe.one ?_ | refine SVLe.agg ?_ | exact CsLe.nil | refine CsLe.cons ?_ ?_ | exact CLe.refl | exact CLe.sh rfl | exact CLe.nil (by decide) | refine CLe.fn ?_ | refine CLe.fnD ?_ | refine CLe.ifc ?_ | refine CLe.ifcD ?_ | exact CLe.lendA rfl rfl nowR | refine CLe.lendVA rfl rfl ?_ | refine CLe.lendPA rfl rfl rfl ?_)); first | done | fail) (hH : rootsEq (calF θ n) ⟨t, h, n⟩ 0 H := by repeat (first | exact trivial | refine And.intro ?_ ?_ | exact rfl)) (hD : Does Try.prog f ags H res H')
    (hM : ∀ (v : Value) (w : World), (method (Try.prog.types.size + Made.depth) Ty v name).run Try.prog w = .ok (f, v) w := by intro _ _; kernel_rfl) (hE : entB Try.prog f = true := by exact fQ rfl)
    (hk : H.length = θ.length := by exact rfl) (hθ : nodupB θ = true := by exact rfl) (hm : θ.all (fun t => Nat.blt t n) = true := by exact rfl)
    (hlt : ltA H.length ags = true := by exact rfl) (hltH : allG H.length H = true := by exact rfl) (hltr : res.lt H'.length = true := by exact rfl) (hltH' : allG H'.length H' = true := by exact rfl) :
    Acts Try.prog g ⟨dst, .call { callee := .invoke x name, args := xs.toArray, argTypes := Ts }, ty, pos, after, guard⟩ ⟨t, h, n⟩ (res.ren (calF θ n)) θ (upOf (calF θ n) 0 H') :=
  a_invk hD hc hM hE ha hH hk hθ hm rfl (.inl rfl) hlt hltH hltr hltH' rfl rfl
end
end Go.Proofs.Ytncccjpbaeaafaa
end
section
set_option linter.unusedVariables false
set_option linter.unusedSimpArgs false
set_option maxRecDepth 100000
set_option maxHeartbeats 4000000
namespace Go.Proofs.Ytncccjpbaeaafaa
open Go Foot
/-- A record of a run. -/
structure Rec where
  n : Int
  sd : Int
  c : Conf
abbrev eQ : Enc Rec := ⟨5, fun r => [.sc (.int .i64 r.n), .sc (.int .i64 r.sd), .sc (.int .i64 r.c.st), .sl false 1 (rows eI r.c.le), .sl false 1 (rows eI r.c.ri)], fun _ => rfl, by decide⟩
abbrev roQ (l : List Rec) : GB := .row 5 (rows eQ l)
/-- What the observer keeps. -/
structure Qk where
  pos : List Int
  rcs : List Rec
  le : Int
  gr : Int
abbrev qkBx (a b : Nat) (x : Qk) : GB := .bx [.gv a, .gv b, int x.le, int x.gr]
@[irreducible] def qkC (c : Conf) (hd : Int) (x : Qk) : Qk :=
  if x.gr < hd then ⟨x.pos ++ [hd], x.rcs ++ [⟨x.pos.length, 1, c⟩], x.le, hd⟩ else if hd < x.le then ⟨x.pos ++ [hd], x.rcs ++ [⟨x.pos.length, -1, c⟩], hd, x.gr⟩ else { x with pos := x.pos ++ [hd] }
theorem preB33 {p : Prop} (h : p := by first | with_reducible assumption | omega | (simp only [List.length_append, List.length_cons, List.length_nil, List.length_set, List.length_replicate, List.length_take, List.length_drop, List.length_tail, List.length_dropLast, List.length_reverse] at *; omega) | exact mem_len (by assumption) (by omega) | (with_reducible refine Int.le_trans (Int.ofNat_le.2 (trimR_len _)) ?_; simp only [List.length_cons, List.length_tail]; omega) | (exact (ruAt_ok (by assumption) (by assumption) (by assumption)).2.1) | (exact (ruAt_ok (by assumption) (by assumption) (by assumption)).2.1) | (have := vMach_bd (by assumption); omega) | (simp only [mC_ch, mC_tu]; omega) | (with_reducible refine Int.le_trans (Int.ofNat_le.2 (pushL_len _ _)) ?_; simp only [List.length_dropLast]; omega) | exact (ask_ok (by assumption)).1 | exact (ask_ok (by assumption)).2.1 | exact (ask_ok (by assumption)).2.2.1 | exact (ask_ok (by assumption)).2.2.2 | trivial) : p := h
theorem qconfig_ok (x : Qk) (m : Mach) (c : Conf) (hd : Int) (h1 : (c.le.length : Int) ≤ 1000) (h2 : (c.ri.length : Int) ≤ 1000) (h3 : (x.pos.length : Int) ≤ 1000000) (h4 : (x.rcs.length : Int) ≤ 1000000) : Does Try.prog 187 [.one (.gv 0), .one (.gv 3), .one (int hd)] [qkBx 1 2 x, roI x.pos, roQ x.rcs, ruBx m c.st 4 5, roI c.le.reverse, roI c.ri.reverse] .any [qkBx 6 7 (qkC c hd x), .dead, .dead, ruBx m c.st 4 5, roI c.le.reverse, roI c.ri.reverse, roI (qkC c hd x).pos, roQ (qkC c hd x).rcs] := by
  refine does_of (k := 6) Try.func187 rfl Try.ntmps187 rfl rfl fun w F0 S0 ρ0 => ?_
  dsimp only [argT, argH]
  repeat' first
    | refine g_seq ?_
    | refine g_skip ?_
    | refine g_exit ?_
    | refine g_block ?_
    | refine g_reg ?_
    | refine g_if_t rfl ?_
    | refine g_if_f rfl ?_
    | refine o_nil ?_
    | refine q_s ?_
    | refine q_se ?_
    | refine q_b ?_
    | refine q_be rfl ?_
    | refine q_bn rfl ?_
    | refine q_le ?_
    | refine q_ce ?_
    | (apply n3; (first | exact a_litE eI [_] rfl rfl rfl rfl rfl rfl rfl rfl | exact a_appN (fP rfl) rfl rfl rfl nowR (by first | omega | (simp; omega)) (by decide) (by exact rfl)); exact rfl; (try dsimp only [List.map_cons, List.map_nil, scC, Nat.reduceAdd]))
    | (apply p3; (first | exact pu1 | exact puL | exact puC); exact rfl)
    | (apply s3; exact a_appE (fP rfl) rfl rfl rfl rfl nowR (by first | omega | (simp; omega)) (by decide) (by decide) (by exact rfl); exact rfl; exact rfl)
    | (apply w3; (first | exact a_st_bx rfl rfl rfl rfl (fN rfl rfl) (Nat.le_of_ble_eq_true rfl) rfl | exact a_st_rowI rfl rfl rfl rfl (fN rfl rfl) bnd | exact a_stE (E := eI) _ rfl rfl rfl rfl (fN rfl rfl) bnd (by exact rfl) | exact a_stE (E := eW) _ rfl rfl rfl rfl (fN rfl rfl) bnd (by exact rfl)); exact rfl; (try dsimp only [setRow, List.map_cons, List.map_nil, scC, List.set_cons_zero, List.set_cons_succ, List.take_succ_cons, List.take_zero, List.drop_succ_cons, List.drop_zero, Nat.reduceAdd]))
    | (apply g_drN (id := 2) okM [[], [], [1], [1, 2], [1, 2, 3], [1, 2, 3, 4], [], [6], [6, 7], [6, 7, 8], [6, 7, 8, 9], [6, 7, 8, 9, 10], [], [6, 7, 8, 9, 10, 11, 12], [6, 7, 8, 9, 10, 11, 12, 13], [6, 7, 8, 9, 10, 11, 12, 13, 14], [1, 2, 3, 4, 5, 6, 7, 8, 9, 10, 11, 12, 13, 14, 15], [0, 1, 2, 3, 4, 5, 6, 7, 8, 9, 10, 11, 12, 13, 14, 15, 16], [0, 1, 2, 3, 4, 5, 6, 7, 8, 9, 10, 11, 12, 13, 14, 15, 16, 17], [0, 1, 2, 3, 4, 5, 6, 7, 8, 9, 10, 11, 12, 13, 14, 15, 16, 17, 18], [0, 1, 2, 3, 4, 5, 6, 7, 8, 9, 10, 11, 12, 13, 14, 15, 16, 17, 18, 19]] [([], []), ([], []), ([], []), ([], []), ([], []), ([], []), ([], []), ([], []), ([], []), ([], []), ([], []), ([], []), ([], []), ([], []), ([], []), ([0], []), ([1], [2]), ([], []), ([], []), ([], []), ([], [0])] 2; (focus (all_goals refine dp 0 0 [18, 19, 20, 21, 22, 23, 24, 25, 26, 27, 28, 29, 30, 31, 32, 33] [(true, 0), (true, 1), (false, 2)] pu1 ?_; all_goals refine dp 1 0 [17, 23, 24, 25, 26, 27, 28, 29, 30, 31, 32] [(true, 0)] pu1 ?_; all_goals refine dp 2 1 [17, 23, 24, 25, 26, 27, 28, 29, 30, 31, 32] [(true, 0)] (a_pure (sv := .one _) rfl) ?_; all_goals refine dp 3 3 [17, 23, 24, 25, 26, 27, 28, 29, 30, 31, 32] [(true, 0)] (a_pure (sv := .one _) rfl) ?_; all_goals refine dp 4 7 [17, 23, 24, 25, 26, 27, 28, 29, 30, 31, 32] [(true, 0)] (a_pure (sv := .one _) rfl) ?_; all_goals refine dp 5 15 [17, 23, 24, 25, 26, 27, 28, 29, 30, 31, 32] [(true, 0)] puL ?_; all_goals refine dp 6 0 [17, 18, 19, 20, 21, 22, 29] [] pu1 ?_; all_goals refine dp 7 1 [17, 18, 19, 20, 21, 22, 29] [] (a_pure (sv := .one _) rfl) ?_; all_goals refine dp 8 3 [17, 18, 19, 20, 21, 22, 29] [] (a_pure (sv := .one _) rfl) ?_; all_goals refine dp 9 7 [17, 18, 19, 20, 21, 22, 29] [] (a_pure (sv := .one _) rfl) ?_; all_goals refine dp 10 15 [17, 18, 19, 20, 21, 22, 29] [] puL ?_; all_goals refine dp 11 31 [17, 18, 19, 20, 21, 22, 29] [] (callD1 (n := _) 0 (θ := []) (hD := (sizeI_ok _ preB33))) ?_; all_goals refine dp 12 0 [17, 18, 19, 20, 21, 22, 23, 24, 25, 26, 27, 28] [] pu1 ?_; all_goals refine dp 13 127 [17, 18, 19, 20, 21, 22] [] (callFD 0 (hD := (configC_ok _ _ preB33 preB33))) ?_; all_goals refine dp 14 255 [17, 18, 19, 20, 21, 22] [] (a_pure (sv := .agg _) rfl) ?_; all_goals refine duE 15 511 [17, 18, 19, 20, 21, 22] [] (atN 0 (fun _ => a_litE eQ [⟨_, _, ⟨_, _, _⟩⟩] rfl rfl rfl rfl rfl rfl rfl rfl)) (by exact rfl) (by exact rfl) ?_; all_goals refine duE 16 32767 [17] [] (atS 1 (fun _ hj => a_appE (fP rfl) rfl rfl rfl rfl nowR (by first | omega | (simp; omega)) (by decide) hj (by exact rfl)) (by decide)) (by exact rfl) (by exact rfl) ?_; all_goals refine dp 17 131071 [] [] (a_pure (sv := .one _) rfl) ?_; all_goals refine dp 18 262143 [] [] (a_pure (sv := .one _) rfl) ?_; all_goals refine dp 19 524287 [] [] (a_pure (sv := .one _) rfl) ?_; all_goals refine duE 20 1048575 [] [] (a_st_bx rfl rfl rfl rfl (fN rfl rfl) (Nat.le_of_ble_eq_true rfl) rfl) (by exact rfl) (by exact rfl) ?_; all_goals (refine d_nil ?_; dsimp only [selT, selH, trues, SV.ren, C.ren, C.ren.all, tRen, GB.ren, calF, upOf, List.cons_append, List.nil_append, Nat.reduceAdd, setRow, List.map_cons, List.map_nil, scC, List.set_cons_zero, List.set_cons_succ, List.take_succ_cons, List.take_zero, List.drop_succ_cons, List.drop_zero]))); any_goals kernel_rfl)
    | (apply g_drN (id := 5) okM [[], [], [1], [1, 2], [1, 2, 3], [1, 2, 3, 4], [], [6], [6, 7], [6, 7, 8], [6, 7, 8, 9], [6, 7, 8, 9, 10], [], [6, 7, 8, 9, 10, 11, 12], [6, 7, 8, 9, 10, 11, 12, 13], [6, 7, 8, 9, 10, 11, 12, 13, 14], [1, 2, 3, 4, 5, 6, 7, 8, 9, 10, 11, 12, 13, 14, 15], [0, 1, 2, 3, 4, 5, 6, 7, 8, 9, 10, 11, 12, 13, 14, 15, 16], [0, 1, 2, 3, 4, 5, 6, 7, 8, 9, 10, 11, 12, 13, 14, 15, 16, 17], [0, 1, 2, 3, 4, 5, 6, 7, 8, 9, 10, 11, 12, 13, 14, 15, 16, 17, 18], [0, 1, 2, 3, 4, 5, 6, 7, 8, 9, 10, 11, 12, 13, 14, 15, 16, 17, 18, 19]] [([], []), ([], []), ([], []), ([], []), ([], []), ([], []), ([], []), ([], []), ([], []), ([], []), ([], []), ([], []), ([], []), ([], []), ([], []), ([0], []), ([1], [2]), ([], []), ([], []), ([], []), ([], [0])] 2; (focus (all_goals refine dp 0 0 [49, 50, 51, 52, 53, 54, 55, 56, 57, 58, 59, 60, 61, 62, 63, 64] [(true, 0), (true, 1), (false, 2)] pu1 ?_; all_goals refine dp 1 0 [48, 54, 55, 56, 57, 58, 59, 60, 61, 62, 63] [(true, 0)] pu1 ?_; all_goals refine dp 2 1 [48, 54, 55, 56, 57, 58, 59, 60, 61, 62, 63] [(true, 0)] (a_pure (sv := .one _) rfl) ?_; all_goals refine dp 3 3 [48, 54, 55, 56, 57, 58, 59, 60, 61, 62, 63] [(true, 0)] (a_pure (sv := .one _) rfl) ?_; all_goals refine dp 4 7 [48, 54, 55, 56, 57, 58, 59, 60, 61, 62, 63] [(true, 0)] (a_pure (sv := .one _) rfl) ?_; all_goals refine dp 5 15 [48, 54, 55, 56, 57, 58, 59, 60, 61, 62, 63] [(true, 0)] puL ?_; all_goals refine dp 6 0 [48, 49, 50, 51, 52, 53, 60] [] pu1 ?_; all_goals refine dp 7 1 [48, 49, 50, 51, 52, 53, 60] [] (a_pure (sv := .one _) rfl) ?_; all_goals refine dp 8 3 [48, 49, 50, 51, 52, 53, 60] [] (a_pure (sv := .one _) rfl) ?_; all_goals refine dp 9 7 [48, 49, 50, 51, 52, 53, 60] [] (a_pure (sv := .one _) rfl) ?_; all_goals refine dp 10 15 [48, 49, 50, 51, 52, 53, 60] [] puL ?_; all_goals refine dp 11 31 [48, 49, 50, 51, 52, 53, 60] [] (callD1 (n := _) 0 (θ := []) (hD := (sizeI_ok _ preB33))) ?_; all_goals refine dp 12 0 [48, 49, 50, 51, 52, 53, 54, 55, 56, 57, 58, 59] [] pu1 ?_; all_goals refine dp 13 127 [48, 49, 50, 51, 52, 53] [] (callFD 0 (hD := (configC_ok _ _ preB33 preB33))) ?_; all_goals refine dp 14 255 [48, 49, 50, 51, 52, 53] [] (a_pure (sv := .agg _) rfl) ?_; all_goals refine duE 15 511 [48, 49, 50, 51, 52, 53] [] (atN 0 (fun _ => a_litE eQ [⟨_, _, ⟨_, _, _⟩⟩] rfl rfl rfl rfl rfl rfl rfl rfl)) (by exact rfl) (by exact rfl) ?_; all_goals refine duE 16 32767 [48] [] (atS 1 (fun _ hj => a_appE (fP rfl) rfl rfl rfl rfl nowR (by first | omega | (simp; omega)) (by decide) hj (by exact rfl)) (by decide)) (by exact rfl) (by exact rfl) ?_; all_goals refine dp 17 131071 [] [] (a_pure (sv := .one _) rfl) ?_; all_goals refine dp 18 262143 [] [] (a_pure (sv := .one _) rfl) ?_; all_goals refine dp 19 524287 [] [] (a_pure (sv := .one _) rfl) ?_; all_goals refine duE 20 1048575 [] [] (a_st_bx rfl rfl rfl rfl (fN rfl rfl) (Nat.le_of_ble_eq_true rfl) rfl) (by exact rfl) (by exact rfl) ?_; all_goals (refine d_nil ?_; dsimp only [selT, selH, trues, SV.ren, C.ren, C.ren.all, tRen, GB.ren, calF, upOf, List.cons_append, List.nil_append, Nat.reduceAdd, setRow, List.map_cons, List.map_nil, scC, List.set_cons_zero, List.set_cons_succ, List.take_succ_cons, List.take_zero, List.drop_succ_cons, List.drop_zero]))); any_goals kernel_rfl)
    | (refine o_gs rfl rfl (fun hc => ?_) (fun hc => ?_) <;> (try simp only [decide_eq_true_eq, decide_eq_false_iff_not, Bool.not_eq_true', Bool.not_eq_false', Bool.not_eq_true, Bool.not_eq_false, Bool.and_eq_true, Bool.or_eq_false_iff, Bool.not_not] at hc) <;> (try (first | contradiction | (exfalso; omega))))
    | (refine g_cond rfl (fun hc => ?_) (fun hc => ?_) <;> (try simp only [decide_eq_true_eq, decide_eq_false_iff_not, Bool.not_eq_true', Bool.not_eq_false', Bool.not_eq_true, Bool.not_eq_false, Bool.and_eq_true, Bool.or_eq_false_iff, Bool.not_not] at hc) <;> (try (first | contradiction | (exfalso; omega))))
  · have e : qkC c hd x = ⟨x.pos ++ [hd], x.rcs ++ [⟨x.pos.length, 1, c⟩], x.le, hd⟩ := by unfold qkC; rw [if_pos hc]
    rw [e]
    repeat (first | refine g_ret ?_ | refine q_sr ?_ | refine q_br ?_ | refine q_lr ?_ | refine q_cr ?_)
    refine ends_id ?_
    refine endK [?_, ?_] (h2 := ?_) (h3 := ?_) (nd := ?_)
    rotate_left 2
    all_goals (repeat' first | with_reducible exact SVLe.refl | exact SVLe.any | exact SVLe.one (.sh rfl) | exact SVLe.one (.nil (by decide)) | refine SVLe.agg ?_ | refine SVLe.tup ?_ | exact TLe.nil | refine TLe.cons ?_ ?_ | exact CsLe.nil | refine CsLe.cons ?_ ?_ | exact CLe.refl | exact CLe.sh rfl | exact CLe.nil (by decide) | refine cle_i ?_ | refine cle_b ?_ | exact trivial | refine And.intro ?_ ?_ | exact Or.inl rfl | exact Or.inr rfl | refine Or.inr (row_eq ?_) | (refine Or.inr (bx_eq rfl rfl ?_); (try dsimp only [C.ren, C.ren.all]); (try exact rfl)) | exact SVLe.refl | refine sle_i ?_ | refine sle_b ?_)
    all_goals first | exact (show nodupB _ = true from rfl) | exact Or.inr rfl | (rfl)
  · have e : qkC c hd x = ⟨x.pos ++ [hd], x.rcs ++ [⟨x.pos.length, -1, c⟩], hd, x.gr⟩ := by unfold qkC; rw [if_neg (by assumption), if_pos hc]
    rw [e]
    repeat (first | refine g_ret ?_ | refine q_sr ?_ | refine q_br ?_ | refine q_lr ?_ | refine q_cr ?_)
    refine ends_id ?_
    refine endK [?_, ?_] (h2 := ?_) (h3 := ?_) (nd := ?_)
    rotate_left 2
    all_goals (repeat' first | with_reducible exact SVLe.refl | exact SVLe.any | exact SVLe.one (.sh rfl) | exact SVLe.one (.nil (by decide)) | refine SVLe.agg ?_ | refine SVLe.tup ?_ | exact TLe.nil | refine TLe.cons ?_ ?_ | exact CsLe.nil | refine CsLe.cons ?_ ?_ | exact CLe.refl | exact CLe.sh rfl | exact CLe.nil (by decide) | refine cle_i ?_ | refine cle_b ?_ | exact trivial | refine And.intro ?_ ?_ | exact Or.inl rfl | exact Or.inr rfl | refine Or.inr (row_eq ?_) | (refine Or.inr (bx_eq rfl rfl ?_); (try dsimp only [C.ren, C.ren.all]); (try exact rfl)) | exact SVLe.refl | refine sle_i ?_ | refine sle_b ?_)
    all_goals first | exact (show nodupB _ = true from rfl) | exact Or.inr rfl | (rfl)
  · have e : qkC c hd x = { x with pos := x.pos ++ [hd] } := by unfold qkC; rw [if_neg (by assumption), if_neg hc]
    rw [e]
    repeat (first | refine g_ret ?_ | refine q_sr ?_ | refine q_br ?_ | refine q_lr ?_ | refine q_cr ?_)
    refine ends_id ?_
    refine endK [?_, ?_] (h2 := ?_) (h3 := ?_) (nd := ?_)
    rotate_left 2
    all_goals (repeat' first | with_reducible exact SVLe.refl | exact SVLe.any | exact SVLe.one (.sh rfl) | exact SVLe.one (.nil (by decide)) | refine SVLe.agg ?_ | refine SVLe.tup ?_ | exact TLe.nil | refine TLe.cons ?_ ?_ | exact CsLe.nil | refine CsLe.cons ?_ ?_ | exact CLe.refl | exact CLe.sh rfl | exact CLe.nil (by decide) | refine cle_i ?_ | refine cle_b ?_ | exact trivial | refine And.intro ?_ ?_ | exact Or.inl rfl | exact Or.inr rfl | refine Or.inr (row_eq ?_) | (refine Or.inr (bx_eq rfl rfl ?_); (try dsimp only [C.ren, C.ren.all]); (try exact rfl)) | exact SVLe.refl | refine sle_i ?_ | refine sle_b ?_)
    all_goals first | exact (show nodupB _ = true from rfl) | exact Or.inr rfl | (rfl)
theorem qstep_ok (u : Rule') : Does Try.prog 188 [.any, .any, .any, .agg (ruC u)] [] .any [] := by
  refine does_of (k := 0) Try.func188 rfl Try.ntmps188 rfl rfl fun w F0 S0 ρ0 => ?_
  dsimp only [argT, argH]
  repeat' first
    | refine g_seq ?_
    | refine g_skip ?_
    | refine g_exit ?_
    | refine g_block ?_
    | refine g_reg ?_
    | refine g_if_t rfl ?_
    | refine g_if_f rfl ?_
    | refine o_nil ?_
    | refine q_s ?_
    | refine q_se ?_
    | refine q_b ?_
    | refine q_be rfl ?_
    | refine q_bn rfl ?_
    | refine q_le ?_
    | refine q_ce ?_
    | (apply n3; exact a_new (gb := .bx _) rfl; exact rfl; (try dsimp only [List.map_cons, List.map_nil, scC, Nat.reduceAdd]))
    | (refine o_gs rfl rfl (fun hc => ?_) (fun hc => ?_) <;> (try simp only [decide_eq_true_eq, decide_eq_false_iff_not, Bool.not_eq_true', Bool.not_eq_false', Bool.not_eq_true, Bool.not_eq_false, Bool.and_eq_true, Bool.or_eq_false_iff, Bool.not_not] at hc) <;> (try (first | contradiction | (exfalso; omega))))
    | (refine g_cond rfl (fun hc => ?_) (fun hc => ?_) <;> (try simp only [decide_eq_true_eq, decide_eq_false_iff_not, Bool.not_eq_true', Bool.not_eq_false', Bool.not_eq_true, Bool.not_eq_false, Bool.and_eq_true, Bool.or_eq_false_iff, Bool.not_not] at hc) <;> (try (first | contradiction | (exfalso; omega))))
  repeat (first | refine g_ret ?_ | refine q_sr ?_ | refine q_br ?_ | refine q_lr ?_ | refine q_cr ?_)
  refine ends_id ?_
  refine endK [] (h2 := ?_) (h3 := ?_) (nd := ?_)
  all_goals (repeat' first | with_reducible exact SVLe.refl | exact SVLe.any | exact SVLe.one (.sh rfl) | exact SVLe.one (.nil (by decide)) | refine SVLe.agg ?_ | refine SVLe.tup ?_ | exact TLe.nil | refine TLe.cons ?_ ?_ | exact CsLe.nil | refine CsLe.cons ?_ ?_ | exact CLe.refl | exact CLe.sh rfl | exact CLe.nil (by decide) | refine cle_i ?_ | refine cle_b ?_ | exact trivial | refine And.intro ?_ ?_ | exact Or.inl rfl | exact Or.inr rfl | refine Or.inr (row_eq ?_) | (refine Or.inr (bx_eq rfl rfl ?_); (try dsimp only [C.ren, C.ren.all]); (try exact rfl)) | exact SVLe.refl | refine sle_i ?_ | refine sle_b ?_)
  all_goals first | exact (show nodupB _ = true from rfl) | exact Or.inr rfl | (rfl)
abbrev qkS (c : Conf) (hd : Int) (u : Rule') (x : Qk) : Qk := x
theorem qkC_len (c : Conf) (hd : Int) (x : Qk) : (qkC c hd x).pos = x.pos ++ [hd] ∧ ((qkC c hd x).rcs.length : Int) ≤ x.rcs.length + 1 := by
  unfold qkC
  split
  · exact ⟨rfl, by simp⟩
  · split
    · exact ⟨rfl, by simp⟩
    · exact ⟨rfl, by dsimp only; omega⟩
theorem followQ_ok (m : Mach) (c : Conf) (b : Int) (hm : vMach m = true) (hc : vConf m c = true) (hb : 1 ≤ b) (hb2 : b ≤ 20000) (O : Out Qk) (hO : runG m qkC qkS b.toNat 0 c 0 ⟨[], [], 0, 0⟩ = O) : Does Try.prog 53 [.agg (maC m), .agg (coC c), .one (int b), .one (.ifc 124 false [.gv 0])] [qkBx 1 2 ⟨[], [], 0, 0⟩, roI [], roQ []] (.tup [(false, [int (if O.full then 0 else O.n)]), (false, [boo O.halts]), (false, [int (if O.full then 5 else 0)])]) [qkBx 3 4 O.x, .dead, .dead, roI O.x.pos, roQ O.x.rcs] := by
  have hbd := at_bd hm hc
  refine does_of (k := 3) Try.func53 rfl Try.ntmps53 rfl rfl fun w F0 S0 ρ0 => ?_
  dsimp only [argT, argH]
  repeat' first
    | refine g_seq ?_
    | refine g_skip ?_
    | refine g_exit ?_
    | refine g_block ?_
    | refine g_reg ?_
    | refine g_if_t rfl ?_
    | refine g_if_f rfl ?_
    | refine o_nil ?_
    | refine q_s ?_
    | refine q_se ?_
    | refine q_b ?_
    | refine q_be rfl ?_
    | refine q_bn rfl ?_
    | refine q_le ?_
    | refine q_ce ?_
    | (apply n3; exact a_new (gb := .bx _) rfl; exact rfl; (try dsimp only [List.map_cons, List.map_nil, scC, Nat.reduceAdd]))
    | (apply p3; (first | exact pu1 | exact puL | exact puC | exact a_eqS rfl rfl rfl | exact a_add rfl rfl (by omega) (by omega)); exact rfl)
    | (apply w3; (first | exact a_st_bx rfl rfl rfl rfl (fN rfl rfl) (Nat.le_of_ble_eq_true rfl) rfl | exact a_stE (E := eR) ⟨_, _, _⟩ rfl rfl rfl rfl (fN rfl rfl) bnd (by exact rfl)); exact rfl; (try dsimp only [setRow, List.map_cons, List.map_nil, scC, List.set_cons_zero, List.set_cons_succ, List.take_succ_cons, List.take_zero, List.drop_succ_cons, List.drop_zero, Nat.reduceAdd]))
    | (apply c4 3; exact callK0 (θ := []) (hD := (runnerOf_ok _ _ preB33 preB33)); exact rfl; exact rfl; exact rfl; (try dsimp only [SV.ren, C.ren, C.ren.all, tRen, GB.ren, calF, upOf, List.cons_append, List.nil_append, Nat.reduceAdd]))
    | (apply c4 2; exact callM0 (θ := [0, 8, 9, 5, 6, 7]) (hD := (qconfig_ok _ _ _ _ preB33 preB33 preB33 preB33)); exact rfl; exact rfl; exact rfl; (try dsimp only [SV.ren, C.ren, C.ren.all, tRen, GB.ren, calF, upOf, List.cons_append, List.nil_append, Nat.reduceAdd]))
    | (apply c4 0; exact callK1 (θ := []) (hD := (haltsC_ok _ _ preB33 preB33)); exact rfl; exact rfl; exact rfl; (try dsimp only [SV.ren, C.ren, C.ren.all, tRen, GB.ren, calF, upOf, List.cons_append, List.nil_append, Nat.reduceAdd]))
    | (apply c4 0; exact callK1 (θ := []) (hD := (ruleC_ok _ _ preB33 preB33)); exact rfl; exact rfl; exact rfl; (try dsimp only [SV.ren, C.ren, C.ren.all, tRen, GB.ren, calF, upOf, List.cons_append, List.nil_append, Nat.reduceAdd]))
    | (apply c4 0; exact callMP (θ := []) (k := 0) (hD := (qstep_ok _)); exact rfl; exact rfl; exact rfl; (try dsimp only [SV.ren, C.ren, C.ren.all, tRen, GB.ren, calF, upOf, List.cons_append, List.nil_append, Nat.reduceAdd]))
    | (apply c4 2; exact callK0 (θ := [_, _, _]) (hD := (stepC_ok _ _ preB33 preB33)); exact rfl; exact rfl; exact rfl; (try dsimp only [SV.ren, C.ren, C.ren.all, tRen, GB.ren, calF, upOf, List.cons_append, List.nil_append, Nat.reduceAdd]))
    | refine o_no rfl rfl rfl rfl ?_
    | refine o_noN rfl rfl rfl ?_
    | (apply py3; exact rfl; exact rfl; (first | exact pu1 | exact puL | exact puC | exact a_eqS rfl rfl rfl | exact a_add rfl rfl (by omega) (by omega)); exact rfl; exact rfl)
    | (apply ny3; exact rfl; exact rfl; exact a_new (gb := .bx _) rfl; exact rfl; exact rfl)
    | (apply cy4 3; exact rfl; exact rfl; exact callK0 (θ := []) (hD := (runnerOf_ok _ _ preB33 preB33)); exact rfl; exact rfl; exact rfl; exact rfl; (try dsimp only [SV.ren, C.ren, C.ren.all, tRen, GB.ren, calF, upOf, List.cons_append, List.nil_append, Nat.reduceAdd]))
    | (apply cy4 2; exact rfl; exact rfl; exact callM0 (θ := [0, 8, 9, 5, 6, 7]) (hD := (qconfig_ok _ _ _ _ preB33 preB33 preB33 preB33)); exact rfl; exact rfl; exact rfl; exact rfl; (try dsimp only [SV.ren, C.ren, C.ren.all, tRen, GB.ren, calF, upOf, List.cons_append, List.nil_append, Nat.reduceAdd]))
    | (apply cy4 0; exact rfl; exact rfl; exact callK1 (θ := []) (hD := (haltsC_ok _ _ preB33 preB33)); exact rfl; exact rfl; exact rfl; exact rfl; (try dsimp only [SV.ren, C.ren, C.ren.all, tRen, GB.ren, calF, upOf, List.cons_append, List.nil_append, Nat.reduceAdd]))
    | (apply cy4 0; exact rfl; exact rfl; exact callK1 (θ := []) (hD := (ruleC_ok _ _ preB33 preB33)); exact rfl; exact rfl; exact rfl; exact rfl; (try dsimp only [SV.ren, C.ren, C.ren.all, tRen, GB.ren, calF, upOf, List.cons_append, List.nil_append, Nat.reduceAdd]))
    | (apply cy4 0; exact rfl; exact rfl; exact callMP (θ := []) (k := 0) (hD := (qstep_ok _)); exact rfl; exact rfl; exact rfl; exact rfl; (try dsimp only [SV.ren, C.ren, C.ren.all, tRen, GB.ren, calF, upOf, List.cons_append, List.nil_append, Nat.reduceAdd]))
    | (apply cy4 2; exact rfl; exact rfl; exact callK0 (θ := [_, _, _]) (hD := (stepC_ok _ _ preB33 preB33)); exact rfl; exact rfl; exact rfl; exact rfl; (try dsimp only [SV.ren, C.ren, C.ren.all, tRen, GB.ren, calF, upOf, List.cons_append, List.nil_append, Nat.reduceAdd]))
    | (refine o_gs rfl rfl (fun hc => ?_) (fun hc => ?_) <;> (try simp only [decide_eq_true_eq, decide_eq_false_iff_not, Bool.not_eq_true', Bool.not_eq_false', Bool.not_eq_true, Bool.not_eq_false, Bool.and_eq_true, Bool.or_eq_false_iff, Bool.not_not] at hc) <;> (try (first | contradiction | (exfalso; omega))))
    | (refine g_cond rfl (fun hc => ?_) (fun hc => ?_) <;> (try simp only [decide_eq_true_eq, decide_eq_false_iff_not, Bool.not_eq_true', Bool.not_eq_false', Bool.not_eq_true, Bool.not_eq_false, Bool.and_eq_true, Bool.or_eq_false_iff, Bool.not_not] at hc) <;> (try (first | contradiction | (exfalso; omega))))
  refine g_conv (t_mvB (i := 1) (j := 0) (k := 0) rfl rfl rfl rfl rfl rfl) ?_
  try dsimp only [setRow, List.map_cons, List.map_nil, scC, List.set_cons_zero, List.set_cons_succ]
  refine g_conv (t_mvB (i := 2) (j := 0) (k := 1) rfl rfl rfl rfl rfl rfl) ?_
  try dsimp only [setRow, List.map_cons, List.map_nil, scC, List.set_cons_zero, List.set_cons_succ]
  refine g_loop_id ?_
  refine loopK [2, 3, 8, 9, 10, 11] [0, 5, 6, 7, 8, 9] (fun y : Int × Conf × Int × Qk => 0 ≤ y.1 ∧ y.1 ≤ b ∧ vConf m y.2.1 = true ∧ -y.1 ≤ y.2.2.1 ∧ y.2.2.1 ≤ y.1 ∧ (y.2.2.2.pos.length : Int) ≤ y.1 ∧ (y.2.2.2.rcs.length : Int) ≤ y.1 ∧ runG m qkC qkS (b - y.1).toNat y.1 y.2.1 y.2.2.1 y.2.2.2 = O) (fun y => [(13, .one (int y.1)), (12, .one (int y.2.2.1))]) (fun y => [(5, ruBx m y.2.1.st 6 7), (6, roI y.2.1.le.reverse), (7, roI y.2.1.ri.reverse), (0, qkBx 8 9 y.2.2.2), (8, roI y.2.2.2.pos), (9, roQ y.2.2.2.rcs)]) (fun y => (b - y.1).toNat) ((0 : Int), c, (0 : Int), ⟨[], [], 0, 0⟩) [0, 1, 2, 3, 4, 5, 6, 7, 8, 9] (hI := ?_) (hr := ?_)
  · exact ⟨by simp, by dsimp only; omega, hc, by simp, by simp, by simp, by simp, by rw [← hO]; congr 1; dsimp only; omega⟩
  · rintro ⟨n, c, hd, x⟩ ⟨i1, i2, i3, i4, i5, i6, i7, i10⟩
    dsimp only [List.cons_append, List.nil_append] at *
    try dsimp only [qkBx]
    skip
    have hbd := at_bd hm i3; have hok := ruAt_ok hm i3
    repeat' first
      | refine g_seq ?_
      | refine g_skip ?_
      | refine g_exit ?_
      | refine g_block ?_
      | refine g_reg ?_
      | refine g_if_t rfl ?_
      | refine g_if_f rfl ?_
      | refine o_nil ?_
      | refine q_s ?_
      | refine q_se ?_
      | refine q_b ?_
      | refine q_be rfl ?_
      | refine q_bn rfl ?_
      | refine q_le ?_
      | refine q_ce ?_
      | (apply n3; exact a_new (gb := .bx _) rfl; exact rfl; (try dsimp only [List.map_cons, List.map_nil, scC, Nat.reduceAdd]))
      | (apply p3; (first | exact pu1 | exact puL | exact puC | exact a_eqS rfl rfl rfl | exact a_add rfl rfl (by omega) (by omega)); exact rfl)
      | (apply w3; (first | exact a_st_bx rfl rfl rfl rfl (fN rfl rfl) (Nat.le_of_ble_eq_true rfl) rfl | exact a_stE (E := eR) ⟨_, _, _⟩ rfl rfl rfl rfl (fN rfl rfl) bnd (by exact rfl)); exact rfl; (try dsimp only [setRow, List.map_cons, List.map_nil, scC, List.set_cons_zero, List.set_cons_succ, List.take_succ_cons, List.take_zero, List.drop_succ_cons, List.drop_zero, Nat.reduceAdd]))
      | (apply c4 2; exact callM0 (θ := [0, 8, 9, 5, 6, 7]) (hD := (qconfig_ok _ _ _ _ preB33 preB33 preB33 preB33)); exact rfl; exact rfl; exact rfl; (try dsimp only [SV.ren, C.ren, C.ren.all, tRen, GB.ren, calF, upOf, List.cons_append, List.nil_append, Nat.reduceAdd]))
      | (apply c4 0; exact callK1 (θ := []) (hD := (haltsC_ok _ _ preB33 preB33)); exact rfl; exact rfl; exact rfl; (try dsimp only [SV.ren, C.ren, C.ren.all, tRen, GB.ren, calF, upOf, List.cons_append, List.nil_append, Nat.reduceAdd]))
      | (apply c4 0; exact callK1 (θ := []) (hD := (ruleC_ok _ _ preB33 preB33)); exact rfl; exact rfl; exact rfl; (try dsimp only [SV.ren, C.ren, C.ren.all, tRen, GB.ren, calF, upOf, List.cons_append, List.nil_append, Nat.reduceAdd]))
      | (apply c4 0; exact callMP (θ := []) (k := 0) (hD := (qstep_ok _)); exact rfl; exact rfl; exact rfl; (try dsimp only [SV.ren, C.ren, C.ren.all, tRen, GB.ren, calF, upOf, List.cons_append, List.nil_append, Nat.reduceAdd]))
      | (apply c4 2; exact callK0 (θ := [_, _, _]) (hD := (stepC_ok _ _ preB33 preB33)); exact rfl; exact rfl; exact rfl; (try dsimp only [SV.ren, C.ren, C.ren.all, tRen, GB.ren, calF, upOf, List.cons_append, List.nil_append, Nat.reduceAdd]))
      | refine o_no rfl rfl rfl rfl ?_
      | refine o_noN rfl rfl rfl ?_
      | (apply py3; exact rfl; exact rfl; (first | exact pu1 | exact puL | exact puC | exact a_eqS rfl rfl rfl | exact a_add rfl rfl (by omega) (by omega)); exact rfl; exact rfl)
      | (apply ny3; exact rfl; exact rfl; exact a_new (gb := .bx _) rfl; exact rfl; exact rfl)
      | (apply cy4 2; exact rfl; exact rfl; exact callM0 (θ := [0, 8, 9, 5, 6, 7]) (hD := (qconfig_ok _ _ _ _ preB33 preB33 preB33 preB33)); exact rfl; exact rfl; exact rfl; exact rfl; (try dsimp only [SV.ren, C.ren, C.ren.all, tRen, GB.ren, calF, upOf, List.cons_append, List.nil_append, Nat.reduceAdd]))
      | (apply cy4 0; exact rfl; exact rfl; exact callK1 (θ := []) (hD := (haltsC_ok _ _ preB33 preB33)); exact rfl; exact rfl; exact rfl; exact rfl; (try dsimp only [SV.ren, C.ren, C.ren.all, tRen, GB.ren, calF, upOf, List.cons_append, List.nil_append, Nat.reduceAdd]))
      | (apply cy4 0; exact rfl; exact rfl; exact callK1 (θ := []) (hD := (ruleC_ok _ _ preB33 preB33)); exact rfl; exact rfl; exact rfl; exact rfl; (try dsimp only [SV.ren, C.ren, C.ren.all, tRen, GB.ren, calF, upOf, List.cons_append, List.nil_append, Nat.reduceAdd]))
      | (apply cy4 0; exact rfl; exact rfl; exact callMP (θ := []) (k := 0) (hD := (qstep_ok _)); exact rfl; exact rfl; exact rfl; exact rfl; (try dsimp only [SV.ren, C.ren, C.ren.all, tRen, GB.ren, calF, upOf, List.cons_append, List.nil_append, Nat.reduceAdd]))
      | (apply cy4 2; exact rfl; exact rfl; exact callK0 (θ := [_, _, _]) (hD := (stepC_ok _ _ preB33 preB33)); exact rfl; exact rfl; exact rfl; exact rfl; (try dsimp only [SV.ren, C.ren, C.ren.all, tRen, GB.ren, calF, upOf, List.cons_append, List.nil_append, Nat.reduceAdd]))
      | (refine o_gs rfl rfl (fun hc => ?_) (fun hc => ?_) <;> (try simp only [decide_eq_true_eq, decide_eq_false_iff_not, Bool.not_eq_true', Bool.not_eq_false', Bool.not_eq_true, Bool.not_eq_false, Bool.and_eq_true, Bool.or_eq_false_iff, Bool.not_not] at hc) <;> (try (first | contradiction | (exfalso; omega))))
      | (refine g_cond rfl (fun hc => ?_) (fun hc => ?_) <;> (try simp only [decide_eq_true_eq, decide_eq_false_iff_not, Bool.not_eq_true', Bool.not_eq_false', Bool.not_eq_true, Bool.not_eq_false, Bool.and_eq_true, Bool.or_eq_false_iff, Bool.not_not] at hc) <;> (try (first | contradiction | (exfalso; omega))))
    · by_cases hr : ruAt m c = noR
      · obtain rfl := run_halt hr i10
        repeat (first | refine g_ret ?_ | refine q_sr ?_ | refine q_br ?_ | refine q_lr ?_ | refine q_cr ?_)
        refine ends_id ?_
        refine endK [?_, ?_] (h2 := ?_) (h3 := ?_) (nd := ?_)
        rotate_left 2
        all_goals (repeat' first | with_reducible exact SVLe.refl | exact SVLe.any | exact SVLe.one (.sh rfl) | exact SVLe.one (.nil (by decide)) | refine SVLe.agg ?_ | refine SVLe.tup ?_ | exact TLe.nil | refine TLe.cons ?_ ?_ | exact CsLe.nil | refine CsLe.cons ?_ ?_ | exact CLe.refl | exact CLe.sh rfl | exact CLe.nil (by decide) | refine cle_i ?_ | refine cle_b ?_ | exact trivial | refine And.intro ?_ ?_ | exact Or.inl rfl | exact Or.inr rfl | refine Or.inr (row_eq ?_) | (refine Or.inr (bx_eq rfl rfl ?_); (try dsimp only [C.ren, C.ren.all]); (try exact rfl)) | exact SVLe.refl | refine sle_i ?_ | refine sle_b ?_)
        all_goals first | exact (show nodupB _ = true from rfl) | exact Or.inr rfl | (simp [hr])
      · obtain rfl := run_end hr hc i10
        repeat (first | refine g_ret ?_ | refine q_sr ?_ | refine q_br ?_ | refine q_lr ?_ | refine q_cr ?_)
        refine ends_id ?_
        refine endK [?_, ?_] (h2 := ?_) (h3 := ?_) (nd := ?_)
        rotate_left 2
        all_goals (repeat' first | with_reducible exact SVLe.refl | exact SVLe.any | exact SVLe.one (.sh rfl) | exact SVLe.one (.nil (by decide)) | refine SVLe.agg ?_ | refine SVLe.tup ?_ | exact TLe.nil | refine TLe.cons ?_ ?_ | exact CsLe.nil | refine CsLe.cons ?_ ?_ | exact CLe.refl | exact CLe.sh rfl | exact CLe.nil (by decide) | refine cle_i ?_ | refine cle_b ?_ | exact trivial | refine And.intro ?_ ?_ | exact Or.inl rfl | exact Or.inr rfl | refine Or.inr (row_eq ?_) | (refine Or.inr (bx_eq rfl rfl ?_); (try dsimp only [C.ren, C.ren.all]); (try exact rfl)) | exact SVLe.refl | refine sle_i ?_ | refine sle_b ?_)
        all_goals first | exact (show nodupB _ = true from rfl) | exact Or.inr rfl | (simp [hr])
    · obtain rfl := run_halt hc i10
      repeat (first | refine g_ret ?_ | refine q_sr ?_ | refine q_br ?_ | refine q_lr ?_ | refine q_cr ?_)
      refine ends_id ?_
      refine endK [?_, ?_] (h2 := ?_) (h3 := ?_) (nd := ?_)
      rotate_left 2
      all_goals (repeat' first | with_reducible exact SVLe.refl | exact SVLe.any | exact SVLe.one (.sh rfl) | exact SVLe.one (.nil (by decide)) | refine SVLe.agg ?_ | refine SVLe.tup ?_ | exact TLe.nil | refine TLe.cons ?_ ?_ | exact CsLe.nil | refine CsLe.cons ?_ ?_ | exact CLe.refl | exact CLe.sh rfl | exact CLe.nil (by decide) | refine cle_i ?_ | refine cle_b ?_ | exact trivial | refine And.intro ?_ ?_ | exact Or.inl rfl | exact Or.inr rfl | refine Or.inr (row_eq ?_) | (refine Or.inr (bx_eq rfl rfl ?_); (try dsimp only [C.ren, C.ren.all]); (try exact rfl)) | exact SVLe.refl | refine sle_i ?_ | refine sle_b ?_)
      all_goals first | exact (show nodupB _ = true from rfl) | exact Or.inr rfl | (simp [hc])
    · rename_i hn hr
      obtain rfl := run_full hr (by omega) hc i10
      repeat (first | refine g_ret ?_ | refine q_sr ?_ | refine q_br ?_ | refine q_lr ?_ | refine q_cr ?_)
      refine ends_id ?_
      refine endK [?_, ?_] (h2 := ?_) (h3 := ?_) (nd := ?_)
      rotate_left 2
      all_goals (repeat' first | with_reducible exact SVLe.refl | exact SVLe.any | exact SVLe.one (.sh rfl) | exact SVLe.one (.nil (by decide)) | refine SVLe.agg ?_ | refine SVLe.tup ?_ | exact TLe.nil | refine TLe.cons ?_ ?_ | exact CsLe.nil | refine CsLe.cons ?_ ?_ | exact CLe.refl | exact CLe.sh rfl | exact CLe.nil (by decide) | refine cle_i ?_ | refine cle_b ?_ | exact trivial | refine And.intro ?_ ?_ | exact Or.inl rfl | exact Or.inr rfl | refine Or.inr (row_eq ?_) | (refine Or.inr (bx_eq rfl rfl ?_); (try dsimp only [C.ren, C.ren.all]); (try exact rfl)) | exact SVLe.refl | refine sle_i ?_ | refine sle_b ?_)
      all_goals first | exact (show nodupB _ = true from rfl) | exact Or.inr rfl | (simp)
    · rename_i hn hr
      have hok := hok hr
      have hS := qkC_len c hd x
      have hS1 : ((qkC c hd x).pos.length : Int) = x.pos.length + 1 := by rw [hS.1]; simp
      repeat' first
        | refine g_seq ?_
        | refine g_skip ?_
        | refine g_exit ?_
        | refine g_block ?_
        | refine g_reg ?_
        | refine g_if_t rfl ?_
        | refine g_if_f rfl ?_
        | refine o_nil ?_
        | refine q_s ?_
        | refine q_se ?_
        | refine q_b ?_
        | refine q_be rfl ?_
        | refine q_bn rfl ?_
        | refine q_le ?_
        | refine q_ce ?_
        | (apply n3; exact a_new (gb := .bx _) rfl; exact rfl; (try dsimp only [List.map_cons, List.map_nil, scC, Nat.reduceAdd]))
        | (apply p3; (first | exact pu1 | exact puL | exact puC | exact a_eqS rfl rfl rfl | exact a_add rfl rfl (by omega) (by omega)); exact rfl)
        | (apply w3; (first | exact a_st_bx rfl rfl rfl rfl (fN rfl rfl) (Nat.le_of_ble_eq_true rfl) rfl | exact a_stE (E := eR) ⟨_, _, _⟩ rfl rfl rfl rfl (fN rfl rfl) bnd (by exact rfl)); exact rfl; (try dsimp only [setRow, List.map_cons, List.map_nil, scC, List.set_cons_zero, List.set_cons_succ, List.take_succ_cons, List.take_zero, List.drop_succ_cons, List.drop_zero, Nat.reduceAdd]))
        | (apply c4 2; exact callM0 (θ := [0, 8, 9, 5, 6, 7]) (hD := (qconfig_ok _ _ _ _ preB33 preB33 preB33 preB33)); exact rfl; exact rfl; exact rfl; (try dsimp only [SV.ren, C.ren, C.ren.all, tRen, GB.ren, calF, upOf, List.cons_append, List.nil_append, Nat.reduceAdd]))
        | (apply c4 0; exact callK1 (θ := []) (hD := (haltsC_ok _ _ preB33 preB33)); exact rfl; exact rfl; exact rfl; (try dsimp only [SV.ren, C.ren, C.ren.all, tRen, GB.ren, calF, upOf, List.cons_append, List.nil_append, Nat.reduceAdd]))
        | (apply c4 0; exact callK1 (θ := []) (hD := (ruleC_ok _ _ preB33 preB33)); exact rfl; exact rfl; exact rfl; (try dsimp only [SV.ren, C.ren, C.ren.all, tRen, GB.ren, calF, upOf, List.cons_append, List.nil_append, Nat.reduceAdd]))
        | (apply c4 0; exact callMP (θ := []) (k := 0) (hD := (qstep_ok _)); exact rfl; exact rfl; exact rfl; (try dsimp only [SV.ren, C.ren, C.ren.all, tRen, GB.ren, calF, upOf, List.cons_append, List.nil_append, Nat.reduceAdd]))
        | (apply c4 2; exact callK0 (θ := [_, _, _]) (hD := (stepC_ok _ _ preB33 preB33)); exact rfl; exact rfl; exact rfl; (try dsimp only [SV.ren, C.ren, C.ren.all, tRen, GB.ren, calF, upOf, List.cons_append, List.nil_append, Nat.reduceAdd]))
        | refine o_no rfl rfl rfl rfl ?_
        | refine o_noN rfl rfl rfl ?_
        | (apply py3; exact rfl; exact rfl; (first | exact pu1 | exact puL | exact puC | exact a_eqS rfl rfl rfl | exact a_add rfl rfl (by omega) (by omega)); exact rfl; exact rfl)
        | (apply ny3; exact rfl; exact rfl; exact a_new (gb := .bx _) rfl; exact rfl; exact rfl)
        | (apply cy4 2; exact rfl; exact rfl; exact callM0 (θ := [0, 8, 9, 5, 6, 7]) (hD := (qconfig_ok _ _ _ _ preB33 preB33 preB33 preB33)); exact rfl; exact rfl; exact rfl; exact rfl; (try dsimp only [SV.ren, C.ren, C.ren.all, tRen, GB.ren, calF, upOf, List.cons_append, List.nil_append, Nat.reduceAdd]))
        | (apply cy4 0; exact rfl; exact rfl; exact callK1 (θ := []) (hD := (haltsC_ok _ _ preB33 preB33)); exact rfl; exact rfl; exact rfl; exact rfl; (try dsimp only [SV.ren, C.ren, C.ren.all, tRen, GB.ren, calF, upOf, List.cons_append, List.nil_append, Nat.reduceAdd]))
        | (apply cy4 0; exact rfl; exact rfl; exact callK1 (θ := []) (hD := (ruleC_ok _ _ preB33 preB33)); exact rfl; exact rfl; exact rfl; exact rfl; (try dsimp only [SV.ren, C.ren, C.ren.all, tRen, GB.ren, calF, upOf, List.cons_append, List.nil_append, Nat.reduceAdd]))
        | (apply cy4 0; exact rfl; exact rfl; exact callMP (θ := []) (k := 0) (hD := (qstep_ok _)); exact rfl; exact rfl; exact rfl; exact rfl; (try dsimp only [SV.ren, C.ren, C.ren.all, tRen, GB.ren, calF, upOf, List.cons_append, List.nil_append, Nat.reduceAdd]))
        | (apply cy4 2; exact rfl; exact rfl; exact callK0 (θ := [_, _, _]) (hD := (stepC_ok _ _ preB33 preB33)); exact rfl; exact rfl; exact rfl; exact rfl; (try dsimp only [SV.ren, C.ren, C.ren.all, tRen, GB.ren, calF, upOf, List.cons_append, List.nil_append, Nat.reduceAdd]))
        | (refine o_gs rfl rfl (fun hc => ?_) (fun hc => ?_) <;> (try simp only [decide_eq_true_eq, decide_eq_false_iff_not, Bool.not_eq_true', Bool.not_eq_false', Bool.not_eq_true, Bool.not_eq_false, Bool.and_eq_true, Bool.or_eq_false_iff, Bool.not_not] at hc) <;> (try (first | contradiction | (exfalso; omega))))
        | (refine g_cond rfl (fun hc => ?_) (fun hc => ?_) <;> (try simp only [decide_eq_true_eq, decide_eq_false_iff_not, Bool.not_eq_true', Bool.not_eq_false', Bool.not_eq_true, Bool.not_eq_false, Bool.and_eq_true, Bool.or_eq_false_iff, Bool.not_not] at hc) <;> (try (first | contradiction | (exfalso; omega))))
      refine q_again (n + 1, stepS (ruAt m c) c, hd + (ruAt m c).m, qkC c hd x) [0, 1, 2, 3, 4, 5, 13, 14, 10, 11] (by exact stk) ?_ ?_
      · exact ⟨by dsimp only; omega, by dsimp only; omega, stepS_ok hm i3 hr hc, by dsimp only; omega, by dsimp only; omega, by dsimp only; omega, by dsimp only; omega, run_next hr (by omega) hc i10⟩
      · dsimp only; omega
/-- A run that is tracked. -/
@[irreducible] def qkRun (m : Mach) (b : Int) : Out Qk := runG m qkC qkS b.toNat 0 ⟨0, [], []⟩ 0 ⟨[], [], 0, 0⟩
theorem vBlank {m : Mach} (hm : vMach m = true) : vConf m ⟨0, [], []⟩ = true := by
  have := vMach_bd hm
  exact vConf_mk ⟨⟨by simp, by dsimp only; omega⟩, vSide_mk (by simp) (by simp) (by simp), vSide_mk (by simp) (by simp) (by simp)⟩
theorem tracked_ok (m : Mach) (b : Int) (hm : vMach m = true) (hb : 1 ≤ b) (hb2 : b ≤ 20000) : Does Try.prog 75 [.agg (maC m), .one (int b)] [] (.tup [(false, [.gv 0]), (false, [boo (qkRun m b).halts]), (false, [int (if (qkRun m b).full then 5 else 0)])]) [qkBx 1 2 (qkRun m b).x, roI (qkRun m b).x.pos, roQ (qkRun m b).x.rcs] := by
  have hO : runG m qkC qkS b.toNat 0 ⟨0, [], []⟩ 0 ⟨[], [], 0, 0⟩ = qkRun m b := by unfold qkRun; rfl
  have hv := vBlank hm
  refine does_of (k := 0) Try.func75 rfl Try.ntmps75 rfl rfl fun w F0 S0 ρ0 => ?_
  dsimp only [argT, argH]
  repeat' first
    | refine g_seq ?_
    | refine g_skip ?_
    | refine g_exit ?_
    | refine g_block ?_
    | refine g_reg (id := 0) ?_
    | refine g_reg (id := 1) ?_
    | refine g_if_t rfl ?_
    | refine g_if_f rfl ?_
    | refine o_nil ?_
    | refine q_s ?_
    | refine q_se ?_
    | refine q_b ?_
    | refine q_be rfl ?_
    | refine q_bn rfl ?_
    | refine q_le ?_
    | refine q_ce ?_
    | (apply n3; exact a_new (gb := .bx _) rfl; exact rfl; (try dsimp only [List.map_cons, List.map_nil, scC, Nat.reduceAdd]))
    | (apply p3; exact pu1; exact rfl)
    | (refine o_gs rfl rfl (fun hc => ?_) (fun hc => ?_) <;> (try simp only [decide_eq_true_eq, decide_eq_false_iff_not, Bool.not_eq_true', Bool.not_eq_false', Bool.not_eq_true, Bool.not_eq_false, Bool.and_eq_true, Bool.or_eq_false_iff, Bool.not_not] at hc) <;> (try (first | contradiction | (exfalso; omega))))
    | (refine g_cond rfl (fun hc => ?_) (fun hc => ?_) <;> (try simp only [decide_eq_true_eq, decide_eq_false_iff_not, Bool.not_eq_true', Bool.not_eq_false', Bool.not_eq_true, Bool.not_eq_false, Bool.and_eq_true, Bool.or_eq_false_iff, Bool.not_not] at hc) <;> (try (first | contradiction | (exfalso; omega))))
  refine g_conv (t_nilB (i := 1) (k := 0) (z := 1) rfl rfl rfl (by decide)) ?_
  try dsimp only [setRow, List.map_cons, List.map_nil, scC, List.set_cons_zero, List.set_cons_succ]
  refine g_conv (t_nilB (i := 1) (k := 1) (z := 5) rfl rfl rfl (by decide)) ?_
  try dsimp only [setRow, List.map_cons, List.map_nil, scC, List.set_cons_zero, List.set_cons_succ]
  repeat' first
    | refine g_seq ?_
    | refine g_skip ?_
    | refine g_exit ?_
    | refine g_block ?_
    | refine g_reg ?_
    | refine g_if_t rfl ?_
    | refine g_if_f rfl ?_
    | refine o_nil ?_
    | refine q_s ?_
    | refine q_se ?_
    | refine q_b ?_
    | refine q_be rfl ?_
    | refine q_bn rfl ?_
    | refine q_le ?_
    | refine q_ce ?_
    | (apply n3; exact a_new (gb := .bx _) rfl; exact rfl; (try dsimp only [List.map_cons, List.map_nil, scC, Nat.reduceAdd]))
    | (apply p3; (first | exact pu1 | exact puL); exact rfl)
    | (apply c4 1; exact callK1 (θ := [_, _]) (hD := (followXA_ok _ _ _ _ preB33 preB33 preB33)); exact rfl; exact rfl; exact rfl; (try dsimp only [SV.ren, C.ren, C.ren.all, tRen, GB.ren, calF, upOf, List.cons_append, List.nil_append, Nat.reduceAdd]))
    | (apply c4 0; exact callK1 (θ := [_, _, _, _]) (hD := (followNA_ok _ _ _ preB33)); exact rfl; exact rfl; exact rfl; (try dsimp only [SV.ren, C.ren, C.ren.all, tRen, GB.ren, calF, upOf, List.cons_append, List.nil_append, Nat.reduceAdd]))
    | (apply c4 0; exact callK1 (θ := [_, _, _, _, _, _]) (hD := (followWA_ok _ _ preB33)); exact rfl; exact rfl; exact rfl; (try dsimp only [SV.ren, C.ren, C.ren.all, tRen, GB.ren, calF, upOf, List.cons_append, List.nil_append, Nat.reduceAdd]))
    | (apply c4 0; exact callK1 (θ := [_]) (hD := (followMA_ok _ _ _ preB33)); exact rfl; exact rfl; exact rfl; (try dsimp only [SV.ren, C.ren, C.ren.all, tRen, GB.ren, calF, upOf, List.cons_append, List.nil_append, Nat.reduceAdd]))
    | (apply c4 2; exact callK0 (θ := [1, 2, 3]) (hD := (followQ_ok m ⟨0, [], []⟩ b hm hv hb hb2 _ hO)); exact rfl; exact rfl; exact rfl; (try dsimp only [SV.ren, C.ren, C.ren.all, tRen, GB.ren, calF, upOf, List.cons_append, List.nil_append, Nat.reduceAdd]))
    | (refine o_gs rfl rfl (fun hc => ?_) (fun hc => ?_) <;> (try simp only [decide_eq_true_eq, decide_eq_false_iff_not, Bool.not_eq_true', Bool.not_eq_false', Bool.not_eq_true, Bool.not_eq_false, Bool.and_eq_true, Bool.or_eq_false_iff, Bool.not_not] at hc) <;> (try (first | contradiction | (exfalso; omega))))
    | (refine g_cond rfl (fun hc => ?_) (fun hc => ?_) <;> (try simp only [decide_eq_true_eq, decide_eq_false_iff_not, Bool.not_eq_true', Bool.not_eq_false', Bool.not_eq_true, Bool.not_eq_false, Bool.and_eq_true, Bool.or_eq_false_iff, Bool.not_not] at hc) <;> (try (first | contradiction | (exfalso; omega))))
  repeat (first | refine g_ret ?_ | refine q_sr ?_ | refine q_br ?_ | refine q_lr ?_ | refine q_cr ?_)
  refine ends_id ?_
  refine endK [?_, ?_, ?_] (h2 := ?_) (h3 := ?_) (nd := ?_)
  rotate_left 3
  all_goals (repeat' first | with_reducible exact SVLe.refl | exact SVLe.any | exact SVLe.one (.sh rfl) | exact SVLe.one (.nil (by decide)) | refine SVLe.agg ?_ | refine SVLe.tup ?_ | exact TLe.nil | refine TLe.cons ?_ ?_ | exact CsLe.nil | refine CsLe.cons ?_ ?_ | exact CLe.refl | exact CLe.sh rfl | exact CLe.nil (by decide) | refine cle_i ?_ | refine cle_b ?_ | exact trivial | refine And.intro ?_ ?_ | exact Or.inl rfl | exact Or.inr rfl | refine Or.inr (row_eq ?_) | (refine Or.inr (bx_eq rfl rfl ?_); (try dsimp only [C.ren, C.ren.all]); (try exact rfl)) | exact SVLe.refl | refine sle_i ?_ | refine sle_b ?_)
  all_goals first | exact (show nodupB _ = true from rfl) | exact Or.inr rfl | (rfl)
end Go.Proofs.Ytncccjpbaeaafaa
end
section
set_option linter.unusedVariables false
set_option linter.unusedSimpArgs false
namespace Go.Proofs.Ytncccjpbaeaafaa
open Go Foot
/-- A call of yield. -/
def YC (P : Program) (l : Nat) : List Value → World → (Ending → World → Prop) → Prop := fun vs w R =>
  ∃ f tmps assign body, (Instr.yield l vs.toArray).run P w = .ok (.round l f tmps assign body) w ∧ RoundIn (fen none) 0 P l f tmps assign body w R
theorem YC.mono {P : Program} {l : Nat} (vs : List Value) (w : World) (R R' : Ending → World → Prop) (h : YC P l vs w R) (hr : ∀ e w', R e w' → R' e w') : YC P l vs w R' := by
  obtain ⟨f, t, a, b, h1, h2⟩ := h
  exact ⟨f, t, a, b, h1, h2.mono hr⟩
section
variable {P : Program} {g : Gh} {st : St} {sv : SV} {dst : Option Tmp} {ty : TypeId} {pos : String} {after : Array Edge} {guard : Option (Nat × Bool)} {x : Operand}
end
/-- What a loop over a function has, while the function runs: its slots, the roots but for those of the function, the record. -/
structure Pkd (g : Gh) (tm : Array Value) (ρs : Env) (t0 : List (Nat × SV)) (hs : List (Nat × GB)) (n : Nat) (θc θp : List Nat) (l : Nat) (rec : Loop) (w : World) (S : Foot) (us : List Value) (F : Foot) (ρ : Env) (Fr : Nat → Foot) : Prop where
  slot : ∀ i, RepS w S ρ (lkS t0 i) (tm.getD i undef)
  root : ∀ i, i ∉ θc → lkG hs i = .dead ∨ ∃ v, ρ i = some v ∧ RepG w S ρ (lkG hs i) v (Fr i)
  dis : ∀ i j, i ≠ j → Foot.dis (Fr i) (Fr j)
  le : ∀ i, Foot.le (Fr i) F
  noc : ∀ i, i ∈ θc → Fr i = no
  notl : ∀ i o, ¬ Fr i l o
  rcd : mapAt w l = some (.loop rec)
  hasl : ∀ o, F l o
  us : θp.map ρ = us.map some
  val : ∀ i, i ∈ θc → ∃ u, ρs i = some u ∧ ρ i = some u
  pin : ∀ i u, i < g.k → g.ρ0 i = some u → ρ i = some u
  new : ∀ i, n ≤ i → ρ i = none
theorem Pkd.keep {g : Gh} {tm : Array Value} {ρs : Env} {t0 : List (Nat × SV)} {hs : List (Nat × GB)} {n : Nat} {θc θp : List Nat} {l : Nat} {rec : Loop} {w w' : World} {S S' : Foot} {us : List Value} {F F' : Foot} {ρ : Env} {Fr : Nat → Foot}
    (h : Pkd g tm ρs t0 hs n θc θp l rec w S us F ρ Fr) (hF : Agree w w' F) (hS : Agree w w' S) (hle : Foot.le S S') (hf : Foot.le F F') : Pkd g tm ρs t0 hs n θc θp l rec w' S' us F' ρ Fr :=
  ⟨fun i => (h.slot i).keep hS hle (Env.le.refl _), fun i hi => (h.root i hi).imp id fun ⟨v, h1, h2⟩ => ⟨v, h1, h2.keep (hF.le (h.le i)) hS hle (Env.le.refl _) (le_refl _)⟩, h.dis, fun i => (h.le i).trans hf, h.noc, h.notl, by rw [(hF l 0 (h.hasl 0)).2.2, h.rcd], fun o => hf _ _ (h.hasl o), h.us, h.val, h.pin, h.new⟩
/-- Two states that tell the same. -/
structure SameSt (s s' : St) : Prop where
  t : s.t = s'.t
  n : s.n = s'.n
  h : ∀ i, lkG s.h i = lkG s'.h i
theorem SameSt.trans {a b c : St} (h : SameSt a b) (h' : SameSt b c) : SameSt a c := ⟨h.t.trans h'.t, h.n.trans h'.n, fun i => (h.h i).trans (h'.h i)⟩
theorem SameSt.rel {g : Gh} {s s' : St} (h : SameSt s s') {a : Act} {w : World} {S : Foot} {ρ : Env} {F : Nat → Foot} (hr : Rel g s a w S ρ F) : Rel g s' a w S ρ F := hr.same (fun i => by rw [h.t]) (fun i => (h.h i).symm)
/-- What a round must leave. -/
inductive qRound {X : Type} (kp : Nat) (T : X → St) (xb : X × Option Code) : Exit → St → Prop where
  | next {st s : St} (θ : List Nat) (hx : xb.2 = none) (hl : StLe kp θ st s) (hs : SameSt s (T xb.1)) : qRound kp T xb .normal st
  | ret {st s : St} (θ : List Nat) (hx : xb.2 = some .ret) (hl : StLe kp θ st s) (hs : SameSt s (T xb.1)) : qRound kp T xb .ret st
  | exit {st s : St} {id : Nat} (θ : List Nat) (hx : xb.2 = some (.exit id)) (hl : StLe kp θ st s) (hs : SameSt s (T xb.1)) : qRound kp T xb (.exit id) st
theorem qRound.same {X : Type} {kp : Nat} {T T' : X → St} {xb : X × Option Code} {e : Exit} {st : St} (h : qRound kp T xb e st) (hT : ∀ x, SameSt (T x) (T' x)) : qRound kp T' xb e st := by
  cases h with
  | next θ hx hl hs => exact .next θ hx hl (hs.trans (hT _))
  | ret θ hx hl hs => exact .ret θ hx hl (hs.trans (hT _))
  | exit θ hx hl hs => exact .exit θ hx hl (hs.trans (hT _))
section
variable {w w' : World} {S S' F F' : Foot} {ρ ρ' : Env}
end
end Go.Proofs.Ytncccjpbaeaafaa
end
section
set_option linter.unusedVariables false
set_option linter.unusedSimpArgs false
namespace Go.Proofs.Ytncccjpbaeaafaa
open Go Foot
def renL (f : Nat → Nat) : List GB → Prop
  | [] => True
  | x :: h => x.ren f = x ∧ renL f h
section
variable {P : Program} {g : Gh} {tm : Array Value} {ρs : Env} {t0 : List (Nat × SV)} {hx hx' : List (Nat × GB)} {n kq kp l : Nat} {θc θp θu cy : List Nat} {r0 : Loop} {ys : List SV} {HS : List GB} {j : Option Code}
/-- The numbers in a round, and what they must fulfil. -/
structure RNums (g : Gh) (t0 : List (Nat × SV)) (n kq kp : Nat) (θc θp θu cy : List Nat) (ys : List SV) (HS : List GB) : Prop where
  n_kq : g.k ≤ kq
  n_qp : kq ≤ kp
  n_pn : kp ≤ n
  n_t : allT kq t0 = true
  n_c : θc.all (fun i => Nat.blt i kq) = true
  n_p : θp.all (fun i => θc.any (Nat.beq i)) = true
  n_u : θu.all (fun i => Nat.ble kq i && Nat.blt i kp) = true
  n_nd : nodupB (θp ++ θu) = true
  n_cy : cy.map (thF (n :: (θp ++ θu))) = θp
  n_cyl : cy.all (fun i => Nat.blt i (HS.length + 1)) = true
  n_ys : ltA 0 ys = true
  n_len : HS.length = (θp ++ θu).length
  n_lt : allG (HS.length + 1) HS = true
  n_z : renL (fun i => i - 1 + 1) HS
  n_live : HS.all GB.lives = true
theorem RNums.c' (h : RNums g t0 n kq kp θc θp θu cy ys HS) : ∀ i ∈ θc, i < kq := fun i hi => blt_lt ((List.all_eq_true.1 h.n_c) i hi)
theorem RNums.p' (h : RNums g t0 n kq kp θc θp θu cy ys HS) : ∀ i ∈ θp, i ∈ θc := fun i hi => by
  have := (List.all_eq_true.1 h.n_p) i hi
  rw [List.any_eq_true] at this
  obtain ⟨j, hj, e⟩ := this
  rw [Nat.eq_of_beq_eq_true e]
  exact hj
theorem RNums.u' (h : RNums g t0 n kq kp θc θp θu cy ys HS) : ∀ i ∈ θu, kq ≤ i ∧ i < kp := fun i hi => by
  have := (List.all_eq_true.1 h.n_u) i hi
  rw [Bool.and_eq_true] at this
  exact ⟨Nat.le_of_ble_eq_true this.1, blt_lt this.2⟩
theorem RNums.s' (h : RNums g t0 n kq kp θc θp θu cy ys HS) : ∀ i ∈ θp ++ θu, i < kp := fun i hi => by
  have := h.n_qp
  rcases List.mem_append.1 hi with hi | hi
  · have := h.c' i (h.p' i hi); omega
  · exact (h.u' i hi).2
end
end Go.Proofs.Ytncccjpbaeaafaa
end
section
set_option linter.unusedVariables false
set_option linter.unusedSimpArgs false
namespace Go.Proofs.Ytncccjpbaeaafaa
open Go Foot
section
variable {P : Program} {g : Gh} {tm : Array Value} {ρs : Env} {t0 : List (Nat × SV)} {hx hx' : List (Nat × GB)} {n kq kp l : Nat} {θc θp θu cy : List Nat} {r0 : Loop} {ys : List SV} {HS : List GB} {j : Option Code}
end
end Go.Proofs.Ytncccjpbaeaafaa
end
section
set_option linter.unusedVariables false
set_option linter.unusedSimpArgs false
namespace Go.Proofs.Ytncccjpbaeaafaa
open Go Foot
section
variable {P : Program} {g : Gh}
end
end Go.Proofs.Ytncccjpbaeaafaa
end
section
set_option linter.unusedVariables false
set_option linter.unusedSimpArgs false
namespace Go.Proofs.Ytncccjpbaeaafaa
open Go Foot
section
variable {P : Program} {g : Gh} {Q : Exit → St → Prop}
end
end Go.Proofs.Ytncccjpbaeaafaa
end
section
set_option linter.unusedVariables false
set_option linter.unusedSimpArgs false
set_option maxRecDepth 100000
namespace Go.Proofs.Ytncccjpbaeaafaa
open Go Foot
section
variable {g : Gh} {dst : Option Tmp} {ty : TypeId} {pos : String} {after : Array Edge} {guard : Option (Nat × Bool)} {x : Operand} {l : Nat} {c0 : C} {cap : List C} {xs : List Operand} {Ts : Array TypeId} {ags : List SV} {H H' : List GB} {res : SV} {θ : List Nat} {t : List (Nat × SV)} {h : List (Nat × GB)} {n : Nat}
end
section
variable {g : Gh} {Q : Exit → St → Prop} {t t0 : List (Nat × SV)} {h h0 hE : List (Nat × GB)} {n n1 : Nat}
end
end Go.Proofs.Ytncccjpbaeaafaa
end
section
set_option linter.unusedVariables false
set_option linter.unusedSimpArgs false
set_option maxRecDepth 100000
set_option maxHeartbeats 4000000
namespace Go.Proofs.Ytncccjpbaeaafaa
open Go Foot
/-- What a loop over the steps comes to. -/
structure ItOut (X : Type) where
  x : X
  j : Option Code
  c : Conf
section
variable {X : Type} {m : Mach} {bd : X → Conf × Int × Bool → X × Option Code} {b n : Int} {c : Conf} {x : X} {O : ItOut X} {k : Nat}
end
end Go.Proofs.Ytncccjpbaeaafaa
end
section
set_option linter.unusedVariables false
set_option linter.unusedSimpArgs false
set_option maxRecDepth 100000
set_option maxHeartbeats 4000000
namespace Go.Proofs.Ytncccjpbaeaafaa
open Go Foot
end Go.Proofs.Ytncccjpbaeaafaa
end
