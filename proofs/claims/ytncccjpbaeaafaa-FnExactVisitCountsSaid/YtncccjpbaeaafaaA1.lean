/- Contracts of small functions on numbers and lists. -/
import Derived.Test.YtncccjpbaeaafaaTys
import Derived.Test.YtncccjpbaeaafaaG15
import Derived.Test.YtncccjpbaeaafaaChecked
set_option linter.unusedVariables false
set_option linter.unusedSimpArgs false
set_option maxRecDepth 100000
namespace Go.Proofs.Ytncccjpbaeaafaa
open Go
abbrev shI (l : List Int) : C := .d (.sl false 1 (rows eI l))
abbrev inB (x lo hi : Int) : Bool := decide (lo ≤ x ∧ x ≤ hi)
theorem preA1 {p : Prop} (h : p := by first | with_reducible assumption | omega | (simp only [List.length_append, List.length_cons, List.length_nil, List.length_set, List.length_replicate, List.length_take, List.length_drop, List.length_tail, List.length_dropLast, List.length_reverse] at *; omega) | trivial) : p := h
theorem l00In_ok (x lo hi : Int) : Does Try.prog 63 [.one (int x), .one (int lo), .one (int hi)] [] (.one (boo (inB x lo hi))) [] := by
  refine does_of (k := 0) Try.func63 rfl Try.ntmps63 rfl rfl fun w F0 S0 ρ0 => ?_
  dsimp only [argT, argH]
  repeat' first
    | refine g_seq ?_
    | refine g_skip ?_
    | refine g_ret ?_
    | refine g_exit ?_
    | refine g_block ?_
    | refine g_reg ?_
    | refine g_if_t rfl ?_
    | refine g_if_f rfl ?_
    | refine o_nil ?_
    | refine q_s ?_
    | refine q_sr ?_
    | refine q_se ?_
    | refine q_b ?_
    | refine q_br ?_
    | refine q_be rfl ?_
    | refine q_bn rfl ?_
    | refine q_lr ?_
    | refine q_le ?_
    | refine q_cr ?_
    | refine q_ce ?_
    | (apply p3; (first | exact a_move (sv := .one _) rfl | exact a_move (sv := .agg _) rfl | exact a_move (sv := .tup _) rfl | exact a_assign (sv := .one _) rfl | exact a_assign (sv := .agg _) rfl | exact a_assign (sv := .tup _) rfl | exact a_pick (sv := .one _) rfl rfl | exact a_pick (sv := .agg _) rfl rfl | exact a_nil rfl rfl | exact a_fa_gp rfl (fF rfl) rfl | exact a_fa_gv rfl rfl (fF rfl) | exact a_fa_imm rfl (fF rfl) rfl | exact a_ld_bx rfl rfl rfl (fC rfl) rfl | exact a_ld_imm rfl (fC rfl) rfl | exact a_lds_bx rfl rfl rfl (fA rfl) (Nat.le_of_ble_eq_true rfl) rfl | exact a_lds_imm rfl (fA rfl) (Nat.le_of_ble_eq_true rfl) rfl | exact a_extract (sv := .one _) rfl rfl rfl | exact a_extract (sv := .agg _) rfl rfl rfl | exact a_len_nil rfl (fS rfl) | exact a_lenE rfl rfl (fS rfl) (by exact rfl) | exact a_un rfl rfl | exact a_ne rfl rfl | exact a_cmp rfl rfl rfl trivial rfl | exact a_add rfl rfl (by omega) (by omega) | exact a_sub rfl rfl (by omega) (by omega) | exact a_neg rfl (by omega) (by omega) | exact a_conv64 rfl (fK rfl) (fK rfl) (by omega) (by omega) | exact a_min rfl rfl | exact a_max rfl rfl | exact a_iaE rfl rfl rfl (fS rfl) (by omega) (by omega) (by exact rfl) | exact a_iaO1 rfl rfl rfl (fS rfl) (by omega) (by omega) | exact a_iaO rfl rfl rfl (fS rfl) (by omega) (by omega) (by exact rfl) | exact a_ld_rowI rfl rfl rfl (fC rfl) (by omega) | exact a_build (fZ rfl) (fU rfl) rfl rfl | exact a_ifc rfl (fI rfl) | exact a_ifcs rfl (fI rfl) | exact a_fn rfl); exact rfl)
    | (apply n3; (first | exact a_alloc (fZ rfl) rfl | exact a_box rfl | exact a_lit (fP rfl) (by decide) rfl (by decide) rfl rfl rfl); exact rfl)
    | (apply w3; (first | exact a_st_bx rfl rfl rfl rfl (fN rfl rfl) (Nat.le_of_ble_eq_true rfl) rfl | exact a_st_rowI rfl rfl rfl rfl (fN rfl rfl) (by omega)); exact rfl)
    | refine o_no rfl rfl rfl rfl ?_
    | (apply py3; exact rfl; exact rfl; (first | exact a_move (sv := .one _) rfl | exact a_move (sv := .agg _) rfl | exact a_move (sv := .tup _) rfl | exact a_assign (sv := .one _) rfl | exact a_assign (sv := .agg _) rfl | exact a_assign (sv := .tup _) rfl | exact a_pick (sv := .one _) rfl rfl | exact a_pick (sv := .agg _) rfl rfl | exact a_nil rfl rfl | exact a_fa_gp rfl (fF rfl) rfl | exact a_fa_gv rfl rfl (fF rfl) | exact a_fa_imm rfl (fF rfl) rfl | exact a_ld_bx rfl rfl rfl (fC rfl) rfl | exact a_ld_imm rfl (fC rfl) rfl | exact a_lds_bx rfl rfl rfl (fA rfl) (Nat.le_of_ble_eq_true rfl) rfl | exact a_lds_imm rfl (fA rfl) (Nat.le_of_ble_eq_true rfl) rfl | exact a_extract (sv := .one _) rfl rfl rfl | exact a_extract (sv := .agg _) rfl rfl rfl | exact a_len_nil rfl (fS rfl) | exact a_lenE rfl rfl (fS rfl) (by exact rfl) | exact a_un rfl rfl | exact a_ne rfl rfl | exact a_cmp rfl rfl rfl trivial rfl | exact a_add rfl rfl (by omega) (by omega) | exact a_sub rfl rfl (by omega) (by omega) | exact a_neg rfl (by omega) (by omega) | exact a_conv64 rfl (fK rfl) (fK rfl) (by omega) (by omega) | exact a_min rfl rfl | exact a_max rfl rfl | exact a_iaE rfl rfl rfl (fS rfl) (by omega) (by omega) (by exact rfl) | exact a_iaO1 rfl rfl rfl (fS rfl) (by omega) (by omega) | exact a_iaO rfl rfl rfl (fS rfl) (by omega) (by omega) (by exact rfl) | exact a_ld_rowI rfl rfl rfl (fC rfl) (by omega) | exact a_build (fZ rfl) (fU rfl) rfl rfl | exact a_ifc rfl (fI rfl) | exact a_ifcs rfl (fI rfl) | exact a_fn rfl); exact rfl; exact rfl)
    | (apply ny3; exact rfl; exact rfl; (first | exact a_alloc (fZ rfl) rfl | exact a_box rfl | exact a_lit (fP rfl) (by decide) rfl (by decide) rfl rfl rfl); exact rfl; exact rfl)
    | (refine o_gs rfl rfl (fun hc => ?_) (fun hc => ?_) <;> (try simp only [decide_eq_true_eq, decide_eq_false_iff_not, Bool.not_eq_true', Bool.not_eq_false', Bool.not_eq_true, Bool.not_eq_false, Bool.and_eq_true, Bool.or_eq_false_iff, Bool.not_not] at hc) <;> (try (exfalso; omega)))
    | (refine g_cond rfl (fun hc => ?_) (fun hc => ?_) <;> (try simp only [decide_eq_true_eq, decide_eq_false_iff_not, Bool.not_eq_true', Bool.not_eq_false', Bool.not_eq_true, Bool.not_eq_false, Bool.and_eq_true, Bool.or_eq_false_iff, Bool.not_not] at hc) <;> (try (exfalso; omega)))
  all_goals exact ends_r (.cons (.one rfl) .nil) (sle_b (by first | (symm; simp; omega) | simp [*])) rfl
theorem within_ok (x lo hi : Int) : Does Try.prog 64 [.one (int x), .one (int lo), .one (int hi)] [] (.one (boo (inB x lo hi))) [] := by
  refine does_of (k := 0) Try.func64 rfl Try.ntmps64 rfl rfl fun w F0 S0 ρ0 => ?_
  dsimp only [argT, argH]
  repeat' first
    | refine g_seq ?_
    | refine g_skip ?_
    | refine g_ret ?_
    | refine g_exit ?_
    | refine g_block ?_
    | refine g_reg ?_
    | refine g_if_t rfl ?_
    | refine g_if_f rfl ?_
    | refine o_nil ?_
    | refine q_s ?_
    | refine q_sr ?_
    | refine q_se ?_
    | refine q_b ?_
    | refine q_br ?_
    | refine q_be rfl ?_
    | refine q_bn rfl ?_
    | refine q_lr ?_
    | refine q_le ?_
    | refine q_cr ?_
    | refine q_ce ?_
    | (apply p3; (first | exact a_move (sv := .one _) rfl | exact a_move (sv := .agg _) rfl | exact a_move (sv := .tup _) rfl | exact a_assign (sv := .one _) rfl | exact a_assign (sv := .agg _) rfl | exact a_assign (sv := .tup _) rfl | exact a_pick (sv := .one _) rfl rfl | exact a_pick (sv := .agg _) rfl rfl | exact a_nil rfl rfl | exact a_fa_gp rfl (fF rfl) rfl | exact a_fa_gv rfl rfl (fF rfl) | exact a_fa_imm rfl (fF rfl) rfl | exact a_ld_bx rfl rfl rfl (fC rfl) rfl | exact a_ld_imm rfl (fC rfl) rfl | exact a_lds_bx rfl rfl rfl (fA rfl) (Nat.le_of_ble_eq_true rfl) rfl | exact a_lds_imm rfl (fA rfl) (Nat.le_of_ble_eq_true rfl) rfl | exact a_extract (sv := .one _) rfl rfl rfl | exact a_extract (sv := .agg _) rfl rfl rfl | exact a_len_nil rfl (fS rfl) | exact a_lenE rfl rfl (fS rfl) (by exact rfl) | exact a_un rfl rfl | exact a_ne rfl rfl | exact a_cmp rfl rfl rfl trivial rfl | exact a_add rfl rfl (by omega) (by omega) | exact a_sub rfl rfl (by omega) (by omega) | exact a_neg rfl (by omega) (by omega) | exact a_conv64 rfl (fK rfl) (fK rfl) (by omega) (by omega) | exact a_min rfl rfl | exact a_max rfl rfl | exact a_iaE rfl rfl rfl (fS rfl) (by omega) (by omega) (by exact rfl) | exact a_iaO1 rfl rfl rfl (fS rfl) (by omega) (by omega) | exact a_iaO rfl rfl rfl (fS rfl) (by omega) (by omega) (by exact rfl) | exact a_ld_rowI rfl rfl rfl (fC rfl) (by omega) | exact a_build (fZ rfl) (fU rfl) rfl rfl | exact a_ifc rfl (fI rfl) | exact a_ifcs rfl (fI rfl) | exact a_fn rfl); exact rfl)
    | (apply n3; (first | exact a_alloc (fZ rfl) rfl | exact a_box rfl | exact a_lit (fP rfl) (by decide) rfl (by decide) rfl rfl rfl); exact rfl)
    | (apply w3; (first | exact a_st_bx rfl rfl rfl rfl (fN rfl rfl) (Nat.le_of_ble_eq_true rfl) rfl | exact a_st_rowI rfl rfl rfl rfl (fN rfl rfl) (by omega)); exact rfl)
    | refine o_no rfl rfl rfl rfl ?_
    | (apply py3; exact rfl; exact rfl; (first | exact a_move (sv := .one _) rfl | exact a_move (sv := .agg _) rfl | exact a_move (sv := .tup _) rfl | exact a_assign (sv := .one _) rfl | exact a_assign (sv := .agg _) rfl | exact a_assign (sv := .tup _) rfl | exact a_pick (sv := .one _) rfl rfl | exact a_pick (sv := .agg _) rfl rfl | exact a_nil rfl rfl | exact a_fa_gp rfl (fF rfl) rfl | exact a_fa_gv rfl rfl (fF rfl) | exact a_fa_imm rfl (fF rfl) rfl | exact a_ld_bx rfl rfl rfl (fC rfl) rfl | exact a_ld_imm rfl (fC rfl) rfl | exact a_lds_bx rfl rfl rfl (fA rfl) (Nat.le_of_ble_eq_true rfl) rfl | exact a_lds_imm rfl (fA rfl) (Nat.le_of_ble_eq_true rfl) rfl | exact a_extract (sv := .one _) rfl rfl rfl | exact a_extract (sv := .agg _) rfl rfl rfl | exact a_len_nil rfl (fS rfl) | exact a_lenE rfl rfl (fS rfl) (by exact rfl) | exact a_un rfl rfl | exact a_ne rfl rfl | exact a_cmp rfl rfl rfl trivial rfl | exact a_add rfl rfl (by omega) (by omega) | exact a_sub rfl rfl (by omega) (by omega) | exact a_neg rfl (by omega) (by omega) | exact a_conv64 rfl (fK rfl) (fK rfl) (by omega) (by omega) | exact a_min rfl rfl | exact a_max rfl rfl | exact a_iaE rfl rfl rfl (fS rfl) (by omega) (by omega) (by exact rfl) | exact a_iaO1 rfl rfl rfl (fS rfl) (by omega) (by omega) | exact a_iaO rfl rfl rfl (fS rfl) (by omega) (by omega) (by exact rfl) | exact a_ld_rowI rfl rfl rfl (fC rfl) (by omega) | exact a_build (fZ rfl) (fU rfl) rfl rfl | exact a_ifc rfl (fI rfl) | exact a_ifcs rfl (fI rfl) | exact a_fn rfl); exact rfl; exact rfl)
    | (apply ny3; exact rfl; exact rfl; (first | exact a_alloc (fZ rfl) rfl | exact a_box rfl | exact a_lit (fP rfl) (by decide) rfl (by decide) rfl rfl rfl); exact rfl; exact rfl)
    | (refine o_gs rfl rfl (fun hc => ?_) (fun hc => ?_) <;> (try simp only [decide_eq_true_eq, decide_eq_false_iff_not, Bool.not_eq_true', Bool.not_eq_false', Bool.not_eq_true, Bool.not_eq_false, Bool.and_eq_true, Bool.or_eq_false_iff, Bool.not_not] at hc) <;> (try (exfalso; omega)))
    | (refine g_cond rfl (fun hc => ?_) (fun hc => ?_) <;> (try simp only [decide_eq_true_eq, decide_eq_false_iff_not, Bool.not_eq_true', Bool.not_eq_false', Bool.not_eq_true, Bool.not_eq_false, Bool.and_eq_true, Bool.or_eq_false_iff, Bool.not_not] at hc) <;> (try (exfalso; omega)))
  all_goals exact ends_r (.cons (.one rfl) .nil) (sle_b (by first | (symm; simp; omega) | simp [*])) rfl
@[irreducible] def szL (n : Nat) (left : Int) : Int := if left - n < 0 then -1 else left - n
theorem szInt64S_ok (xs : List Int) (left : Int) (h1 : left ≤ 1048576) (h2 : 0 ≤ left) (hx : (xs.length : Int) ≤ 9223372036854775807) : Does Try.prog 57 [.one (shI xs), .one (int left)] [] (.one (int (szL xs.length left))) [] := by
  refine does_of (k := 0) Try.func57 rfl Try.ntmps57 rfl rfl fun w F0 S0 ρ0 => ?_
  dsimp only [argT, argH]
  repeat' first
    | refine g_seq ?_
    | refine g_skip ?_
    | refine g_ret ?_
    | refine g_exit ?_
    | refine g_block ?_
    | refine g_reg ?_
    | refine g_if_t rfl ?_
    | refine g_if_f rfl ?_
    | refine o_nil ?_
    | refine q_s ?_
    | refine q_sr ?_
    | refine q_se ?_
    | refine q_b ?_
    | refine q_br ?_
    | refine q_be rfl ?_
    | refine q_bn rfl ?_
    | refine q_lr ?_
    | refine q_le ?_
    | refine q_cr ?_
    | refine q_ce ?_
    | (apply p3; (first | exact a_move (sv := .one _) rfl | exact a_move (sv := .agg _) rfl | exact a_move (sv := .tup _) rfl | exact a_assign (sv := .one _) rfl | exact a_assign (sv := .agg _) rfl | exact a_assign (sv := .tup _) rfl | exact a_pick (sv := .one _) rfl rfl | exact a_pick (sv := .agg _) rfl rfl | exact a_nil rfl rfl | exact a_fa_gp rfl (fF rfl) rfl | exact a_fa_gv rfl rfl (fF rfl) | exact a_fa_imm rfl (fF rfl) rfl | exact a_ld_bx rfl rfl rfl (fC rfl) rfl | exact a_ld_imm rfl (fC rfl) rfl | exact a_lds_bx rfl rfl rfl (fA rfl) (Nat.le_of_ble_eq_true rfl) rfl | exact a_lds_imm rfl (fA rfl) (Nat.le_of_ble_eq_true rfl) rfl | exact a_extract (sv := .one _) rfl rfl rfl | exact a_extract (sv := .agg _) rfl rfl rfl | exact a_len_nil rfl (fS rfl) | exact a_lenE rfl rfl (fS rfl) (by exact rfl) | exact a_un rfl rfl | exact a_ne rfl rfl | exact a_cmp rfl rfl rfl trivial rfl | exact a_add rfl rfl (by omega) (by omega) | exact a_sub rfl rfl (by omega) (by omega) | exact a_neg rfl (by omega) (by omega) | exact a_conv64 rfl (fK rfl) (fK rfl) (by omega) (by omega) | exact a_min rfl rfl | exact a_max rfl rfl | exact a_iaE rfl rfl rfl (fS rfl) (by omega) (by omega) (by exact rfl) | exact a_iaO1 rfl rfl rfl (fS rfl) (by omega) (by omega) | exact a_iaO rfl rfl rfl (fS rfl) (by omega) (by omega) (by exact rfl) | exact a_ld_rowI rfl rfl rfl (fC rfl) (by omega) | exact a_build (fZ rfl) (fU rfl) rfl rfl | exact a_ifc rfl (fI rfl) | exact a_ifcs rfl (fI rfl) | exact a_fn rfl); exact rfl)
    | (apply n3; (first | exact a_alloc (fZ rfl) rfl | exact a_box rfl | exact a_lit (fP rfl) (by decide) rfl (by decide) rfl rfl rfl); exact rfl)
    | (apply w3; (first | exact a_st_bx rfl rfl rfl rfl (fN rfl rfl) (Nat.le_of_ble_eq_true rfl) rfl | exact a_st_rowI rfl rfl rfl rfl (fN rfl rfl) (by omega)); exact rfl)
    | refine o_no rfl rfl rfl rfl ?_
    | (apply py3; exact rfl; exact rfl; (first | exact a_move (sv := .one _) rfl | exact a_move (sv := .agg _) rfl | exact a_move (sv := .tup _) rfl | exact a_assign (sv := .one _) rfl | exact a_assign (sv := .agg _) rfl | exact a_assign (sv := .tup _) rfl | exact a_pick (sv := .one _) rfl rfl | exact a_pick (sv := .agg _) rfl rfl | exact a_nil rfl rfl | exact a_fa_gp rfl (fF rfl) rfl | exact a_fa_gv rfl rfl (fF rfl) | exact a_fa_imm rfl (fF rfl) rfl | exact a_ld_bx rfl rfl rfl (fC rfl) rfl | exact a_ld_imm rfl (fC rfl) rfl | exact a_lds_bx rfl rfl rfl (fA rfl) (Nat.le_of_ble_eq_true rfl) rfl | exact a_lds_imm rfl (fA rfl) (Nat.le_of_ble_eq_true rfl) rfl | exact a_extract (sv := .one _) rfl rfl rfl | exact a_extract (sv := .agg _) rfl rfl rfl | exact a_len_nil rfl (fS rfl) | exact a_lenE rfl rfl (fS rfl) (by exact rfl) | exact a_un rfl rfl | exact a_ne rfl rfl | exact a_cmp rfl rfl rfl trivial rfl | exact a_add rfl rfl (by omega) (by omega) | exact a_sub rfl rfl (by omega) (by omega) | exact a_neg rfl (by omega) (by omega) | exact a_conv64 rfl (fK rfl) (fK rfl) (by omega) (by omega) | exact a_min rfl rfl | exact a_max rfl rfl | exact a_iaE rfl rfl rfl (fS rfl) (by omega) (by omega) (by exact rfl) | exact a_iaO1 rfl rfl rfl (fS rfl) (by omega) (by omega) | exact a_iaO rfl rfl rfl (fS rfl) (by omega) (by omega) (by exact rfl) | exact a_ld_rowI rfl rfl rfl (fC rfl) (by omega) | exact a_build (fZ rfl) (fU rfl) rfl rfl | exact a_ifc rfl (fI rfl) | exact a_ifcs rfl (fI rfl) | exact a_fn rfl); exact rfl; exact rfl)
    | (apply ny3; exact rfl; exact rfl; (first | exact a_alloc (fZ rfl) rfl | exact a_box rfl | exact a_lit (fP rfl) (by decide) rfl (by decide) rfl rfl rfl); exact rfl; exact rfl)
    | (refine o_gs rfl rfl (fun hc => ?_) (fun hc => ?_) <;> (try simp only [decide_eq_true_eq, decide_eq_false_iff_not, Bool.not_eq_true', Bool.not_eq_false', Bool.not_eq_true, Bool.not_eq_false, Bool.and_eq_true, Bool.or_eq_false_iff, Bool.not_not] at hc) <;> (try (exfalso; omega)))
    | (refine g_cond rfl (fun hc => ?_) (fun hc => ?_) <;> (try simp only [decide_eq_true_eq, decide_eq_false_iff_not, Bool.not_eq_true', Bool.not_eq_false', Bool.not_eq_true, Bool.not_eq_false, Bool.and_eq_true, Bool.or_eq_false_iff, Bool.not_not] at hc) <;> (try (exfalso; omega)))
  all_goals exact ends_r (.cons (.one rfl) .nil) (sle_i (by unfold szL; simp [*])) rfl
theorem toInt64S_ok (xs : List Int) (hx : (xs.length : Int) ≤ 1048576) : Does Try.prog 60 [.one (shI xs)] [] (.one (.gv 0)) [.row 1 (rows eI xs)] := by
  refine does_of (k := 0) Try.func60 rfl Try.ntmps60 rfl rfl fun w F0 S0 ρ0 => ?_
  dsimp only [argT, argH]
  repeat' first
    | refine g_seq ?_
    | refine g_skip ?_
    | refine g_ret ?_
    | refine g_exit ?_
    | refine g_block ?_
    | refine g_reg ?_
    | refine g_if_t rfl ?_
    | refine g_if_f rfl ?_
    | refine o_nil ?_
    | refine q_s ?_
    | refine q_sr ?_
    | refine q_se ?_
    | refine q_b ?_
    | refine q_br ?_
    | refine q_be rfl ?_
    | refine q_bn rfl ?_
    | refine q_lr ?_
    | refine q_le ?_
    | refine q_cr ?_
    | refine q_ce ?_
    | (apply p3; (first | exact a_move (sv := .one _) rfl | exact a_move (sv := .agg _) rfl | exact a_move (sv := .tup _) rfl | exact a_assign (sv := .one _) rfl | exact a_assign (sv := .agg _) rfl | exact a_assign (sv := .tup _) rfl | exact a_pick (sv := .one _) rfl rfl | exact a_pick (sv := .agg _) rfl rfl | exact a_nil rfl rfl | exact a_fa_gp rfl (fF rfl) rfl | exact a_fa_gv rfl rfl (fF rfl) | exact a_fa_imm rfl (fF rfl) rfl | exact a_ld_bx rfl rfl rfl (fC rfl) rfl | exact a_ld_imm rfl (fC rfl) rfl | exact a_lds_bx rfl rfl rfl (fA rfl) (Nat.le_of_ble_eq_true rfl) rfl | exact a_lds_imm rfl (fA rfl) (Nat.le_of_ble_eq_true rfl) rfl | exact a_extract (sv := .one _) rfl rfl rfl | exact a_extract (sv := .agg _) rfl rfl rfl | exact a_len_nil rfl (fS rfl) | exact a_lenE rfl rfl (fS rfl) (by exact rfl) | exact a_un rfl rfl | exact a_ne rfl rfl | exact a_cmp rfl rfl rfl trivial rfl | exact a_add rfl rfl (by omega) (by omega) | exact a_sub rfl rfl (by omega) (by omega) | exact a_neg rfl (by omega) (by omega) | exact a_conv64 rfl (fK rfl) (fK rfl) (by omega) (by omega) | exact a_min rfl rfl | exact a_max rfl rfl | exact a_iaE rfl rfl rfl (fS rfl) (by omega) (by omega) (by exact rfl) | exact a_iaO1 rfl rfl rfl (fS rfl) (by omega) (by omega) | exact a_iaO rfl rfl rfl (fS rfl) (by omega) (by omega) (by exact rfl) | exact a_ld_rowI rfl rfl rfl (fC rfl) (by omega) | exact a_build (fZ rfl) (fU rfl) rfl rfl | exact a_ifc rfl (fI rfl) | exact a_ifcs rfl (fI rfl) | exact a_fn rfl); exact rfl)
    | (apply n3; (first | exact a_alloc (fZ rfl) rfl | exact a_box rfl | exact a_lit (fP rfl) (by decide) rfl (by decide) rfl rfl rfl); exact rfl)
    | (apply w3; (first | exact a_st_bx rfl rfl rfl rfl (fN rfl rfl) (Nat.le_of_ble_eq_true rfl) rfl | exact a_st_rowI rfl rfl rfl rfl (fN rfl rfl) (by omega)); exact rfl)
    | refine o_no rfl rfl rfl rfl ?_
    | (apply py3; exact rfl; exact rfl; (first | exact a_move (sv := .one _) rfl | exact a_move (sv := .agg _) rfl | exact a_move (sv := .tup _) rfl | exact a_assign (sv := .one _) rfl | exact a_assign (sv := .agg _) rfl | exact a_assign (sv := .tup _) rfl | exact a_pick (sv := .one _) rfl rfl | exact a_pick (sv := .agg _) rfl rfl | exact a_nil rfl rfl | exact a_fa_gp rfl (fF rfl) rfl | exact a_fa_gv rfl rfl (fF rfl) | exact a_fa_imm rfl (fF rfl) rfl | exact a_ld_bx rfl rfl rfl (fC rfl) rfl | exact a_ld_imm rfl (fC rfl) rfl | exact a_lds_bx rfl rfl rfl (fA rfl) (Nat.le_of_ble_eq_true rfl) rfl | exact a_lds_imm rfl (fA rfl) (Nat.le_of_ble_eq_true rfl) rfl | exact a_extract (sv := .one _) rfl rfl rfl | exact a_extract (sv := .agg _) rfl rfl rfl | exact a_len_nil rfl (fS rfl) | exact a_lenE rfl rfl (fS rfl) (by exact rfl) | exact a_un rfl rfl | exact a_ne rfl rfl | exact a_cmp rfl rfl rfl trivial rfl | exact a_add rfl rfl (by omega) (by omega) | exact a_sub rfl rfl (by omega) (by omega) | exact a_neg rfl (by omega) (by omega) | exact a_conv64 rfl (fK rfl) (fK rfl) (by omega) (by omega) | exact a_min rfl rfl | exact a_max rfl rfl | exact a_iaE rfl rfl rfl (fS rfl) (by omega) (by omega) (by exact rfl) | exact a_iaO1 rfl rfl rfl (fS rfl) (by omega) (by omega) | exact a_iaO rfl rfl rfl (fS rfl) (by omega) (by omega) (by exact rfl) | exact a_ld_rowI rfl rfl rfl (fC rfl) (by omega) | exact a_build (fZ rfl) (fU rfl) rfl rfl | exact a_ifc rfl (fI rfl) | exact a_ifcs rfl (fI rfl) | exact a_fn rfl); exact rfl; exact rfl)
    | (apply ny3; exact rfl; exact rfl; (first | exact a_alloc (fZ rfl) rfl | exact a_box rfl | exact a_lit (fP rfl) (by decide) rfl (by decide) rfl rfl rfl); exact rfl; exact rfl)
    | (refine o_gs rfl rfl (fun hc => ?_) (fun hc => ?_) <;> (try simp only [decide_eq_true_eq, decide_eq_false_iff_not, Bool.not_eq_true', Bool.not_eq_false', Bool.not_eq_true, Bool.not_eq_false, Bool.and_eq_true, Bool.or_eq_false_iff, Bool.not_not] at hc) <;> (try (exfalso; omega)))
    | (refine g_cond rfl (fun hc => ?_) (fun hc => ?_) <;> (try simp only [decide_eq_true_eq, decide_eq_false_iff_not, Bool.not_eq_true', Bool.not_eq_false', Bool.not_eq_true, Bool.not_eq_false, Bool.and_eq_true, Bool.or_eq_false_iff, Bool.not_not] at hc) <;> (try (exfalso; omega)))
  apply n3
  exact a_make (fE rfl) (fZ rfl) (fP rfl) (by decide) rfl rfl (by omega) rfl (by omega) (by omega) (repI _)
  exact rfl
  repeat' first
    | refine g_seq ?_
    | refine g_skip ?_
    | refine g_ret ?_
    | refine g_exit ?_
    | refine g_block ?_
    | refine g_reg ?_
    | refine g_if_t rfl ?_
    | refine g_if_f rfl ?_
    | refine o_nil ?_
    | refine q_s ?_
    | refine q_sr ?_
    | refine q_se ?_
    | refine q_b ?_
    | refine q_br ?_
    | refine q_be rfl ?_
    | refine q_bn rfl ?_
    | refine q_lr ?_
    | refine q_le ?_
    | refine q_cr ?_
    | refine q_ce ?_
    | (apply p3; (first | exact a_move (sv := .one _) rfl | exact a_move (sv := .agg _) rfl | exact a_move (sv := .tup _) rfl | exact a_assign (sv := .one _) rfl | exact a_assign (sv := .agg _) rfl | exact a_assign (sv := .tup _) rfl | exact a_pick (sv := .one _) rfl rfl | exact a_pick (sv := .agg _) rfl rfl | exact a_nil rfl rfl | exact a_fa_gp rfl (fF rfl) rfl | exact a_fa_gv rfl rfl (fF rfl) | exact a_fa_imm rfl (fF rfl) rfl | exact a_ld_bx rfl rfl rfl (fC rfl) rfl | exact a_ld_imm rfl (fC rfl) rfl | exact a_lds_bx rfl rfl rfl (fA rfl) (Nat.le_of_ble_eq_true rfl) rfl | exact a_lds_imm rfl (fA rfl) (Nat.le_of_ble_eq_true rfl) rfl | exact a_extract (sv := .one _) rfl rfl rfl | exact a_extract (sv := .agg _) rfl rfl rfl | exact a_len_nil rfl (fS rfl) | exact a_lenE rfl rfl (fS rfl) (by exact rfl) | exact a_un rfl rfl | exact a_ne rfl rfl | exact a_cmp rfl rfl rfl trivial rfl | exact a_add rfl rfl (by omega) (by omega) | exact a_sub rfl rfl (by omega) (by omega) | exact a_neg rfl (by omega) (by omega) | exact a_conv64 rfl (fK rfl) (fK rfl) (by omega) (by omega) | exact a_min rfl rfl | exact a_max rfl rfl | exact a_iaE rfl rfl rfl (fS rfl) (by omega) (by omega) (by exact rfl) | exact a_iaO1 rfl rfl rfl (fS rfl) (by omega) (by omega) | exact a_iaO rfl rfl rfl (fS rfl) (by omega) (by omega) (by exact rfl) | exact a_ld_rowI rfl rfl rfl (fC rfl) (by omega) | exact a_build (fZ rfl) (fU rfl) rfl rfl | exact a_ifc rfl (fI rfl) | exact a_ifcs rfl (fI rfl) | exact a_fn rfl); exact rfl)
    | (apply n3; (first | exact a_alloc (fZ rfl) rfl | exact a_box rfl | exact a_lit (fP rfl) (by decide) rfl (by decide) rfl rfl rfl); exact rfl)
    | (apply w3; (first | exact a_st_bx rfl rfl rfl rfl (fN rfl rfl) (Nat.le_of_ble_eq_true rfl) rfl | exact a_st_rowI rfl rfl rfl rfl (fN rfl rfl) (by omega)); exact rfl)
    | refine o_no rfl rfl rfl rfl ?_
    | (apply py3; exact rfl; exact rfl; (first | exact a_move (sv := .one _) rfl | exact a_move (sv := .agg _) rfl | exact a_move (sv := .tup _) rfl | exact a_assign (sv := .one _) rfl | exact a_assign (sv := .agg _) rfl | exact a_assign (sv := .tup _) rfl | exact a_pick (sv := .one _) rfl rfl | exact a_pick (sv := .agg _) rfl rfl | exact a_nil rfl rfl | exact a_fa_gp rfl (fF rfl) rfl | exact a_fa_gv rfl rfl (fF rfl) | exact a_fa_imm rfl (fF rfl) rfl | exact a_ld_bx rfl rfl rfl (fC rfl) rfl | exact a_ld_imm rfl (fC rfl) rfl | exact a_lds_bx rfl rfl rfl (fA rfl) (Nat.le_of_ble_eq_true rfl) rfl | exact a_lds_imm rfl (fA rfl) (Nat.le_of_ble_eq_true rfl) rfl | exact a_extract (sv := .one _) rfl rfl rfl | exact a_extract (sv := .agg _) rfl rfl rfl | exact a_len_nil rfl (fS rfl) | exact a_lenE rfl rfl (fS rfl) (by exact rfl) | exact a_un rfl rfl | exact a_ne rfl rfl | exact a_cmp rfl rfl rfl trivial rfl | exact a_add rfl rfl (by omega) (by omega) | exact a_sub rfl rfl (by omega) (by omega) | exact a_neg rfl (by omega) (by omega) | exact a_conv64 rfl (fK rfl) (fK rfl) (by omega) (by omega) | exact a_min rfl rfl | exact a_max rfl rfl | exact a_iaE rfl rfl rfl (fS rfl) (by omega) (by omega) (by exact rfl) | exact a_iaO1 rfl rfl rfl (fS rfl) (by omega) (by omega) | exact a_iaO rfl rfl rfl (fS rfl) (by omega) (by omega) (by exact rfl) | exact a_ld_rowI rfl rfl rfl (fC rfl) (by omega) | exact a_build (fZ rfl) (fU rfl) rfl rfl | exact a_ifc rfl (fI rfl) | exact a_ifcs rfl (fI rfl) | exact a_fn rfl); exact rfl; exact rfl)
    | (apply ny3; exact rfl; exact rfl; (first | exact a_alloc (fZ rfl) rfl | exact a_box rfl | exact a_lit (fP rfl) (by decide) rfl (by decide) rfl rfl rfl); exact rfl; exact rfl)
    | (refine o_gs rfl rfl (fun hc => ?_) (fun hc => ?_) <;> (try simp only [decide_eq_true_eq, decide_eq_false_iff_not, Bool.not_eq_true', Bool.not_eq_false', Bool.not_eq_true, Bool.not_eq_false, Bool.and_eq_true, Bool.or_eq_false_iff, Bool.not_not] at hc) <;> (try (exfalso; omega)))
    | (refine g_cond rfl (fun hc => ?_) (fun hc => ?_) <;> (try simp only [decide_eq_true_eq, decide_eq_false_iff_not, Bool.not_eq_true', Bool.not_eq_false', Bool.not_eq_true, Bool.not_eq_false, Bool.and_eq_true, Bool.or_eq_false_iff, Bool.not_not] at hc) <;> (try (exfalso; omega)))
  refine g_loop (α := Int × List Int) (fun x => 0 ≤ x.1 ∧ x.1 ≤ xs.length ∧ x.2.length = xs.length ∧ ∀ k (h : k < xs.length), k < x.1 → x.2[k]? = some xs[k]) (fun x => ⟨[(0, .one (shI xs)), (3, .one (.gv 0)), (4, .one (int x.1))], [(0, .row 1 (rows eI x.2))], 1⟩) (fun x => (xs.length - x.1).toNat) (0, List.replicate xs.length 0) [0] ⟨by simp, by simp, by simp, by intro k h h'; simp at h'; omega⟩ ?_ ?_
  · exact ⟨rfl, rfl, rfl, by repeat (first | exact trivial | refine And.intro ?_ ?_ | exact SVLe.refl | exact SVLe.any | exact SVLe.one (.sh rfl) | exact SVLe.one (.nil (by decide))), by repeat (first | exact trivial | refine And.intro ?_ ?_ | exact rfl), rfl, rfl⟩
  · rintro ⟨i, l⟩ ⟨h0, h1, h2, h3⟩
    dsimp only at h0 h1 h2 h3 ⊢
    repeat' first
      | refine g_seq ?_
      | refine g_skip ?_
      | refine g_ret ?_
      | refine g_exit ?_
      | refine g_block ?_
      | refine g_reg ?_
      | refine g_if_t rfl ?_
      | refine g_if_f rfl ?_
      | refine o_nil ?_
      | refine q_s ?_
      | refine q_sr ?_
      | refine q_se ?_
      | refine q_b ?_
      | refine q_br ?_
      | refine q_be rfl ?_
      | refine q_bn rfl ?_
      | refine q_lr ?_
      | refine q_le ?_
      | refine q_cr ?_
      | refine q_ce ?_
      | (apply p3; (first | exact a_move (sv := .one _) rfl | exact a_move (sv := .agg _) rfl | exact a_move (sv := .tup _) rfl | exact a_assign (sv := .one _) rfl | exact a_assign (sv := .agg _) rfl | exact a_assign (sv := .tup _) rfl | exact a_pick (sv := .one _) rfl rfl | exact a_pick (sv := .agg _) rfl rfl | exact a_nil rfl rfl | exact a_fa_gp rfl (fF rfl) rfl | exact a_fa_gv rfl rfl (fF rfl) | exact a_fa_imm rfl (fF rfl) rfl | exact a_ld_bx rfl rfl rfl (fC rfl) rfl | exact a_ld_imm rfl (fC rfl) rfl | exact a_lds_bx rfl rfl rfl (fA rfl) (Nat.le_of_ble_eq_true rfl) rfl | exact a_lds_imm rfl (fA rfl) (Nat.le_of_ble_eq_true rfl) rfl | exact a_extract (sv := .one _) rfl rfl rfl | exact a_extract (sv := .agg _) rfl rfl rfl | exact a_len_nil rfl (fS rfl) | exact a_lenE rfl rfl (fS rfl) (by exact rfl) | exact a_un rfl rfl | exact a_ne rfl rfl | exact a_cmp rfl rfl rfl trivial rfl | exact a_add rfl rfl (by omega) (by omega) | exact a_sub rfl rfl (by omega) (by omega) | exact a_neg rfl (by omega) (by omega) | exact a_conv64 rfl (fK rfl) (fK rfl) (by omega) (by omega) | exact a_min rfl rfl | exact a_max rfl rfl | exact a_iaE rfl rfl rfl (fS rfl) (by omega) (by omega) (by exact rfl) | exact a_iaO1 rfl rfl rfl (fS rfl) (by omega) (by omega) | exact a_iaO rfl rfl rfl (fS rfl) (by omega) (by omega) (by exact rfl) | exact a_ld_rowI rfl rfl rfl (fC rfl) (by omega) | exact a_build (fZ rfl) (fU rfl) rfl rfl | exact a_ifc rfl (fI rfl) | exact a_ifcs rfl (fI rfl) | exact a_fn rfl); exact rfl)
      | (apply n3; (first | exact a_alloc (fZ rfl) rfl | exact a_box rfl | exact a_lit (fP rfl) (by decide) rfl (by decide) rfl rfl rfl); exact rfl)
      | (apply w3; (first | exact a_st_bx rfl rfl rfl rfl (fN rfl rfl) (Nat.le_of_ble_eq_true rfl) rfl | exact a_st_rowI rfl rfl rfl rfl (fN rfl rfl) (by omega)); exact rfl)
      | refine o_no rfl rfl rfl rfl ?_
      | (apply py3; exact rfl; exact rfl; (first | exact a_move (sv := .one _) rfl | exact a_move (sv := .agg _) rfl | exact a_move (sv := .tup _) rfl | exact a_assign (sv := .one _) rfl | exact a_assign (sv := .agg _) rfl | exact a_assign (sv := .tup _) rfl | exact a_pick (sv := .one _) rfl rfl | exact a_pick (sv := .agg _) rfl rfl | exact a_nil rfl rfl | exact a_fa_gp rfl (fF rfl) rfl | exact a_fa_gv rfl rfl (fF rfl) | exact a_fa_imm rfl (fF rfl) rfl | exact a_ld_bx rfl rfl rfl (fC rfl) rfl | exact a_ld_imm rfl (fC rfl) rfl | exact a_lds_bx rfl rfl rfl (fA rfl) (Nat.le_of_ble_eq_true rfl) rfl | exact a_lds_imm rfl (fA rfl) (Nat.le_of_ble_eq_true rfl) rfl | exact a_extract (sv := .one _) rfl rfl rfl | exact a_extract (sv := .agg _) rfl rfl rfl | exact a_len_nil rfl (fS rfl) | exact a_lenE rfl rfl (fS rfl) (by exact rfl) | exact a_un rfl rfl | exact a_ne rfl rfl | exact a_cmp rfl rfl rfl trivial rfl | exact a_add rfl rfl (by omega) (by omega) | exact a_sub rfl rfl (by omega) (by omega) | exact a_neg rfl (by omega) (by omega) | exact a_conv64 rfl (fK rfl) (fK rfl) (by omega) (by omega) | exact a_min rfl rfl | exact a_max rfl rfl | exact a_iaE rfl rfl rfl (fS rfl) (by omega) (by omega) (by exact rfl) | exact a_iaO1 rfl rfl rfl (fS rfl) (by omega) (by omega) | exact a_iaO rfl rfl rfl (fS rfl) (by omega) (by omega) (by exact rfl) | exact a_ld_rowI rfl rfl rfl (fC rfl) (by omega) | exact a_build (fZ rfl) (fU rfl) rfl rfl | exact a_ifc rfl (fI rfl) | exact a_ifcs rfl (fI rfl) | exact a_fn rfl); exact rfl; exact rfl)
      | (apply ny3; exact rfl; exact rfl; (first | exact a_alloc (fZ rfl) rfl | exact a_box rfl | exact a_lit (fP rfl) (by decide) rfl (by decide) rfl rfl rfl); exact rfl; exact rfl)
      | (refine o_gs rfl rfl (fun hc => ?_) (fun hc => ?_) <;> (try simp only [decide_eq_true_eq, decide_eq_false_iff_not, Bool.not_eq_true', Bool.not_eq_false', Bool.not_eq_true, Bool.not_eq_false, Bool.and_eq_true, Bool.or_eq_false_iff, Bool.not_not] at hc) <;> (try (exfalso; omega)))
      | (refine g_cond rfl (fun hc => ?_) (fun hc => ?_) <;> (try simp only [decide_eq_true_eq, decide_eq_false_iff_not, Bool.not_eq_true', Bool.not_eq_false', Bool.not_eq_true, Bool.not_eq_false, Bool.and_eq_true, Bool.or_eq_false_iff, Bool.not_not] at hc) <;> (try (exfalso; omega)))
    · refine .again (i + 1, l.set i.toNat (xs[i.toNat]'(by omega))) [0] ⟨by dsimp only; omega, by dsimp only; omega, by simp [h2], ?_⟩ (by dsimp only; omega) ?_
      · intro k h h'
        dsimp only at h' ⊢
        rw [List.getElem?_set]
        split
        · rename_i e
          subst e
          rw [if_pos (by omega)]
        · exact h3 k h (by omega)
      · exact ⟨rfl, rfl, rfl, by repeat (first | exact trivial | refine And.intro ?_ ?_ | exact SVLe.refl | exact SVLe.any | exact SVLe.one (.sh rfl) | exact SVLe.one (.nil (by decide))), by repeat (first | exact trivial | refine And.intro ?_ ?_ | exact rfl), rfl, rfl⟩
    · have hl : l = xs := by
        apply List.ext_getElem?
        intro k
        by_cases hk : k < xs.length
        · rw [h3 k hk (by omega), List.getElem?_eq_getElem hk]
        · rw [List.getElem?_eq_none (by omega), List.getElem?_eq_none (by omega)]
      subst hl
      exact ends1 0 (.cons (.one rfl) .nil) .refl rfl rfl rfl
@[irreducible] def eqI (a b : List Int) : Bool := decide (a = b)
theorem eqInt64S_ok (xs ys : List Int) (hx : (xs.length : Int) ≤ 1048576) (hy : (ys.length : Int) ≤ 1048576) : Does Try.prog 26 [.one (shI xs), .one (shI ys)] [] (.one (boo (eqI xs ys))) [] := by
  refine does_of (k := 0) Try.func26 rfl Try.ntmps26 rfl rfl fun w F0 S0 ρ0 => ?_
  dsimp only [argT, argH]
  repeat' first
    | refine g_seq ?_
    | refine g_skip ?_
    | refine g_ret ?_
    | refine g_exit ?_
    | refine g_block ?_
    | refine g_reg ?_
    | refine g_if_t rfl ?_
    | refine g_if_f rfl ?_
    | refine o_nil ?_
    | refine q_s ?_
    | refine q_sr ?_
    | refine q_se ?_
    | refine q_b ?_
    | refine q_br ?_
    | refine q_be rfl ?_
    | refine q_bn rfl ?_
    | refine q_lr ?_
    | refine q_le ?_
    | refine q_cr ?_
    | refine q_ce ?_
    | (apply p3; (first | exact a_move (sv := .one _) rfl | exact a_move (sv := .agg _) rfl | exact a_move (sv := .tup _) rfl | exact a_assign (sv := .one _) rfl | exact a_assign (sv := .agg _) rfl | exact a_assign (sv := .tup _) rfl | exact a_pick (sv := .one _) rfl rfl | exact a_pick (sv := .agg _) rfl rfl | exact a_nil rfl rfl | exact a_fa_gp rfl (fF rfl) rfl | exact a_fa_gv rfl rfl (fF rfl) | exact a_fa_imm rfl (fF rfl) rfl | exact a_ld_bx rfl rfl rfl (fC rfl) rfl | exact a_ld_imm rfl (fC rfl) rfl | exact a_lds_bx rfl rfl rfl (fA rfl) (Nat.le_of_ble_eq_true rfl) rfl | exact a_lds_imm rfl (fA rfl) (Nat.le_of_ble_eq_true rfl) rfl | exact a_extract (sv := .one _) rfl rfl rfl | exact a_extract (sv := .agg _) rfl rfl rfl | exact a_len_nil rfl (fS rfl) | exact a_lenE rfl rfl (fS rfl) (by exact rfl) | exact a_un rfl rfl | exact a_ne rfl rfl | exact a_cmp rfl rfl rfl trivial rfl | exact a_add rfl rfl (by omega) (by omega) | exact a_sub rfl rfl (by omega) (by omega) | exact a_neg rfl (by omega) (by omega) | exact a_conv64 rfl (fK rfl) (fK rfl) (by omega) (by omega) | exact a_min rfl rfl | exact a_max rfl rfl | exact a_iaE rfl rfl rfl (fS rfl) (by omega) (by omega) (by exact rfl) | exact a_iaO1 rfl rfl rfl (fS rfl) (by omega) (by omega) | exact a_iaO rfl rfl rfl (fS rfl) (by omega) (by omega) (by exact rfl) | exact a_ld_rowI rfl rfl rfl (fC rfl) (by omega) | exact a_build (fZ rfl) (fU rfl) rfl rfl | exact a_ifc rfl (fI rfl) | exact a_ifcs rfl (fI rfl) | exact a_fn rfl); exact rfl)
    | (apply n3; (first | exact a_alloc (fZ rfl) rfl | exact a_box rfl | exact a_lit (fP rfl) (by decide) rfl (by decide) rfl rfl rfl); exact rfl)
    | (apply w3; (first | exact a_st_bx rfl rfl rfl rfl (fN rfl rfl) (Nat.le_of_ble_eq_true rfl) rfl | exact a_st_rowI rfl rfl rfl rfl (fN rfl rfl) (by omega)); exact rfl)
    | refine o_no rfl rfl rfl rfl ?_
    | (apply py3; exact rfl; exact rfl; (first | exact a_move (sv := .one _) rfl | exact a_move (sv := .agg _) rfl | exact a_move (sv := .tup _) rfl | exact a_assign (sv := .one _) rfl | exact a_assign (sv := .agg _) rfl | exact a_assign (sv := .tup _) rfl | exact a_pick (sv := .one _) rfl rfl | exact a_pick (sv := .agg _) rfl rfl | exact a_nil rfl rfl | exact a_fa_gp rfl (fF rfl) rfl | exact a_fa_gv rfl rfl (fF rfl) | exact a_fa_imm rfl (fF rfl) rfl | exact a_ld_bx rfl rfl rfl (fC rfl) rfl | exact a_ld_imm rfl (fC rfl) rfl | exact a_lds_bx rfl rfl rfl (fA rfl) (Nat.le_of_ble_eq_true rfl) rfl | exact a_lds_imm rfl (fA rfl) (Nat.le_of_ble_eq_true rfl) rfl | exact a_extract (sv := .one _) rfl rfl rfl | exact a_extract (sv := .agg _) rfl rfl rfl | exact a_len_nil rfl (fS rfl) | exact a_lenE rfl rfl (fS rfl) (by exact rfl) | exact a_un rfl rfl | exact a_ne rfl rfl | exact a_cmp rfl rfl rfl trivial rfl | exact a_add rfl rfl (by omega) (by omega) | exact a_sub rfl rfl (by omega) (by omega) | exact a_neg rfl (by omega) (by omega) | exact a_conv64 rfl (fK rfl) (fK rfl) (by omega) (by omega) | exact a_min rfl rfl | exact a_max rfl rfl | exact a_iaE rfl rfl rfl (fS rfl) (by omega) (by omega) (by exact rfl) | exact a_iaO1 rfl rfl rfl (fS rfl) (by omega) (by omega) | exact a_iaO rfl rfl rfl (fS rfl) (by omega) (by omega) (by exact rfl) | exact a_ld_rowI rfl rfl rfl (fC rfl) (by omega) | exact a_build (fZ rfl) (fU rfl) rfl rfl | exact a_ifc rfl (fI rfl) | exact a_ifcs rfl (fI rfl) | exact a_fn rfl); exact rfl; exact rfl)
    | (apply ny3; exact rfl; exact rfl; (first | exact a_alloc (fZ rfl) rfl | exact a_box rfl | exact a_lit (fP rfl) (by decide) rfl (by decide) rfl rfl rfl); exact rfl; exact rfl)
    | (refine o_gs rfl rfl (fun hc => ?_) (fun hc => ?_) <;> (try simp only [decide_eq_true_eq, decide_eq_false_iff_not, Bool.not_eq_true', Bool.not_eq_false', Bool.not_eq_true, Bool.not_eq_false, Bool.and_eq_true, Bool.or_eq_false_iff, Bool.not_not] at hc) <;> (try (exfalso; omega)))
    | (refine g_cond rfl (fun hc => ?_) (fun hc => ?_) <;> (try simp only [decide_eq_true_eq, decide_eq_false_iff_not, Bool.not_eq_true', Bool.not_eq_false', Bool.not_eq_true, Bool.not_eq_false, Bool.and_eq_true, Bool.or_eq_false_iff, Bool.not_not] at hc) <;> (try (exfalso; omega)))
  · exact ends_r (.cons (.one rfl) .nil) (sle_b (by symm; unfold eqI; rw [decide_eq_false_iff_not]; rintro rfl; omega)) rfl
  refine g_loop (α := Int) (fun i => 0 ≤ i ∧ i ≤ xs.length ∧ xs.take i.toNat = ys.take i.toNat) (fun i => ⟨[(0, .one (shI xs)), (1, .one (shI ys)), (5, .one (int i))], [], 0⟩) (fun i => (xs.length - i).toNat) 0 [] ⟨by simp, by simp, by simp⟩ ?_ ?_
  · exact ⟨rfl, rfl, rfl, by repeat (first | exact trivial | refine And.intro ?_ ?_ | exact SVLe.refl | exact SVLe.any | exact SVLe.one (.sh rfl) | exact SVLe.one (.nil (by decide))), by repeat (first | exact trivial | refine And.intro ?_ ?_ | exact rfl), rfl, rfl⟩
  · rintro i ⟨h0, h1, h2⟩
    repeat' first
      | refine g_seq ?_
      | refine g_skip ?_
      | refine g_ret ?_
      | refine g_exit ?_
      | refine g_block ?_
      | refine g_reg ?_
      | refine g_if_t rfl ?_
      | refine g_if_f rfl ?_
      | refine o_nil ?_
      | refine q_s ?_
      | refine q_sr ?_
      | refine q_se ?_
      | refine q_b ?_
      | refine q_br ?_
      | refine q_be rfl ?_
      | refine q_bn rfl ?_
      | refine q_lr ?_
      | refine q_le ?_
      | refine q_cr ?_
      | refine q_ce ?_
      | (apply p3; (first | exact a_move (sv := .one _) rfl | exact a_move (sv := .agg _) rfl | exact a_move (sv := .tup _) rfl | exact a_assign (sv := .one _) rfl | exact a_assign (sv := .agg _) rfl | exact a_assign (sv := .tup _) rfl | exact a_pick (sv := .one _) rfl rfl | exact a_pick (sv := .agg _) rfl rfl | exact a_nil rfl rfl | exact a_fa_gp rfl (fF rfl) rfl | exact a_fa_gv rfl rfl (fF rfl) | exact a_fa_imm rfl (fF rfl) rfl | exact a_ld_bx rfl rfl rfl (fC rfl) rfl | exact a_ld_imm rfl (fC rfl) rfl | exact a_lds_bx rfl rfl rfl (fA rfl) (Nat.le_of_ble_eq_true rfl) rfl | exact a_lds_imm rfl (fA rfl) (Nat.le_of_ble_eq_true rfl) rfl | exact a_extract (sv := .one _) rfl rfl rfl | exact a_extract (sv := .agg _) rfl rfl rfl | exact a_len_nil rfl (fS rfl) | exact a_lenE rfl rfl (fS rfl) (by exact rfl) | exact a_un rfl rfl | exact a_ne rfl rfl | exact a_cmp rfl rfl rfl trivial rfl | exact a_add rfl rfl (by omega) (by omega) | exact a_sub rfl rfl (by omega) (by omega) | exact a_neg rfl (by omega) (by omega) | exact a_conv64 rfl (fK rfl) (fK rfl) (by omega) (by omega) | exact a_min rfl rfl | exact a_max rfl rfl | exact a_iaE rfl rfl rfl (fS rfl) (by omega) (by omega) (by exact rfl) | exact a_iaO1 rfl rfl rfl (fS rfl) (by omega) (by omega) | exact a_iaO rfl rfl rfl (fS rfl) (by omega) (by omega) (by exact rfl) | exact a_ld_rowI rfl rfl rfl (fC rfl) (by omega) | exact a_build (fZ rfl) (fU rfl) rfl rfl | exact a_ifc rfl (fI rfl) | exact a_ifcs rfl (fI rfl) | exact a_fn rfl); exact rfl)
      | (apply n3; (first | exact a_alloc (fZ rfl) rfl | exact a_box rfl | exact a_lit (fP rfl) (by decide) rfl (by decide) rfl rfl rfl); exact rfl)
      | (apply w3; (first | exact a_st_bx rfl rfl rfl rfl (fN rfl rfl) (Nat.le_of_ble_eq_true rfl) rfl | exact a_st_rowI rfl rfl rfl rfl (fN rfl rfl) (by omega)); exact rfl)
      | refine o_no rfl rfl rfl rfl ?_
      | (apply py3; exact rfl; exact rfl; (first | exact a_move (sv := .one _) rfl | exact a_move (sv := .agg _) rfl | exact a_move (sv := .tup _) rfl | exact a_assign (sv := .one _) rfl | exact a_assign (sv := .agg _) rfl | exact a_assign (sv := .tup _) rfl | exact a_pick (sv := .one _) rfl rfl | exact a_pick (sv := .agg _) rfl rfl | exact a_nil rfl rfl | exact a_fa_gp rfl (fF rfl) rfl | exact a_fa_gv rfl rfl (fF rfl) | exact a_fa_imm rfl (fF rfl) rfl | exact a_ld_bx rfl rfl rfl (fC rfl) rfl | exact a_ld_imm rfl (fC rfl) rfl | exact a_lds_bx rfl rfl rfl (fA rfl) (Nat.le_of_ble_eq_true rfl) rfl | exact a_lds_imm rfl (fA rfl) (Nat.le_of_ble_eq_true rfl) rfl | exact a_extract (sv := .one _) rfl rfl rfl | exact a_extract (sv := .agg _) rfl rfl rfl | exact a_len_nil rfl (fS rfl) | exact a_lenE rfl rfl (fS rfl) (by exact rfl) | exact a_un rfl rfl | exact a_ne rfl rfl | exact a_cmp rfl rfl rfl trivial rfl | exact a_add rfl rfl (by omega) (by omega) | exact a_sub rfl rfl (by omega) (by omega) | exact a_neg rfl (by omega) (by omega) | exact a_conv64 rfl (fK rfl) (fK rfl) (by omega) (by omega) | exact a_min rfl rfl | exact a_max rfl rfl | exact a_iaE rfl rfl rfl (fS rfl) (by omega) (by omega) (by exact rfl) | exact a_iaO1 rfl rfl rfl (fS rfl) (by omega) (by omega) | exact a_iaO rfl rfl rfl (fS rfl) (by omega) (by omega) (by exact rfl) | exact a_ld_rowI rfl rfl rfl (fC rfl) (by omega) | exact a_build (fZ rfl) (fU rfl) rfl rfl | exact a_ifc rfl (fI rfl) | exact a_ifcs rfl (fI rfl) | exact a_fn rfl); exact rfl; exact rfl)
      | (apply ny3; exact rfl; exact rfl; (first | exact a_alloc (fZ rfl) rfl | exact a_box rfl | exact a_lit (fP rfl) (by decide) rfl (by decide) rfl rfl rfl); exact rfl; exact rfl)
      | (refine o_gs rfl rfl (fun hc => ?_) (fun hc => ?_) <;> (try simp only [decide_eq_true_eq, decide_eq_false_iff_not, Bool.not_eq_true', Bool.not_eq_false', Bool.not_eq_true, Bool.not_eq_false, Bool.and_eq_true, Bool.or_eq_false_iff, Bool.not_not] at hc) <;> (try (exfalso; omega)))
      | (refine g_cond rfl (fun hc => ?_) (fun hc => ?_) <;> (try simp only [decide_eq_true_eq, decide_eq_false_iff_not, Bool.not_eq_true', Bool.not_eq_false', Bool.not_eq_true, Bool.not_eq_false, Bool.and_eq_true, Bool.or_eq_false_iff, Bool.not_not] at hc) <;> (try (exfalso; omega)))
    · refine g_dr okM [[], [], [0, 1], [0, 1, 2], [], [], [4, 5], [4, 5, 6], [0, 1, 2, 3, 4, 5, 6, 7]] [([], []), ([], []), ([], []), ([], []), ([], []), ([], []), ([], []), ([], []), ([], [])] 0 (by kernel_rfl) (by kernel_rfl) (by kernel_rfl) ?_
      all_goals (apply d_p (i := 0) (fs := []) (u := [18, 21, 22, 23, 24]) (uk := []); (first | exact a_move (sv := .one _) rfl | exact a_move (sv := .agg _) rfl | exact a_move (sv := .tup _) rfl | exact a_assign (sv := .one _) rfl | exact a_assign (sv := .agg _) rfl | exact a_assign (sv := .tup _) rfl | exact a_pick (sv := .one _) rfl rfl | exact a_pick (sv := .agg _) rfl rfl | exact a_nil rfl rfl | exact a_fa_gp rfl (fF rfl) rfl | exact a_fa_gv rfl rfl (fF rfl) | exact a_fa_imm rfl (fF rfl) rfl | exact a_ld_bx rfl rfl rfl (fC rfl) rfl | exact a_ld_imm rfl (fC rfl) rfl | exact a_lds_bx rfl rfl rfl (fA rfl) (Nat.le_of_ble_eq_true rfl) rfl | exact a_lds_imm rfl (fA rfl) (Nat.le_of_ble_eq_true rfl) rfl | exact a_extract (sv := .one _) rfl rfl rfl | exact a_extract (sv := .agg _) rfl rfl rfl | exact a_len_nil rfl (fS rfl) | exact a_lenE rfl rfl (fS rfl) (by exact rfl) | exact a_un rfl rfl | exact a_ne rfl rfl | exact a_cmp rfl rfl rfl trivial rfl | exact a_add rfl rfl (by omega) (by omega) | exact a_sub rfl rfl (by omega) (by omega) | exact a_neg rfl (by omega) (by omega) | exact a_conv64 rfl (fK rfl) (fK rfl) (by omega) (by omega) | exact a_min rfl rfl | exact a_max rfl rfl | exact a_iaE rfl rfl rfl (fS rfl) (by omega) (by omega) (by exact rfl) | exact a_iaO1 rfl rfl rfl (fS rfl) (by omega) (by omega) | exact a_iaO rfl rfl rfl (fS rfl) (by omega) (by omega) (by exact rfl) | exact a_ld_rowI rfl rfl rfl (fC rfl) (by omega) | exact a_build (fZ rfl) (fU rfl) rfl rfl | exact a_ifc rfl (fI rfl) | exact a_ifcs rfl (fI rfl) | exact a_fn rfl); exact rfl; kernel_rfl; kernel_rfl; kernel_rfl; exact rfl; exact rfl)
      all_goals (apply d_p (i := 1) (fs := [false]) (u := [17, 21, 22, 23, 24]) (uk := []); (first | exact a_move (sv := .one _) rfl | exact a_move (sv := .agg _) rfl | exact a_move (sv := .tup _) rfl | exact a_assign (sv := .one _) rfl | exact a_assign (sv := .agg _) rfl | exact a_assign (sv := .tup _) rfl | exact a_pick (sv := .one _) rfl rfl | exact a_pick (sv := .agg _) rfl rfl | exact a_nil rfl rfl | exact a_fa_gp rfl (fF rfl) rfl | exact a_fa_gv rfl rfl (fF rfl) | exact a_fa_imm rfl (fF rfl) rfl | exact a_ld_bx rfl rfl rfl (fC rfl) rfl | exact a_ld_imm rfl (fC rfl) rfl | exact a_lds_bx rfl rfl rfl (fA rfl) (Nat.le_of_ble_eq_true rfl) rfl | exact a_lds_imm rfl (fA rfl) (Nat.le_of_ble_eq_true rfl) rfl | exact a_extract (sv := .one _) rfl rfl rfl | exact a_extract (sv := .agg _) rfl rfl rfl | exact a_len_nil rfl (fS rfl) | exact a_lenE rfl rfl (fS rfl) (by exact rfl) | exact a_un rfl rfl | exact a_ne rfl rfl | exact a_cmp rfl rfl rfl trivial rfl | exact a_add rfl rfl (by omega) (by omega) | exact a_sub rfl rfl (by omega) (by omega) | exact a_neg rfl (by omega) (by omega) | exact a_conv64 rfl (fK rfl) (fK rfl) (by omega) (by omega) | exact a_min rfl rfl | exact a_max rfl rfl | exact a_iaE rfl rfl rfl (fS rfl) (by omega) (by omega) (by exact rfl) | exact a_iaO1 rfl rfl rfl (fS rfl) (by omega) (by omega) | exact a_iaO rfl rfl rfl (fS rfl) (by omega) (by omega) (by exact rfl) | exact a_ld_rowI rfl rfl rfl (fC rfl) (by omega) | exact a_build (fZ rfl) (fU rfl) rfl rfl | exact a_ifc rfl (fI rfl) | exact a_ifcs rfl (fI rfl) | exact a_fn rfl); exact rfl; kernel_rfl; kernel_rfl; kernel_rfl; exact rfl; exact rfl)
      all_goals (apply d_p (i := 2) (fs := [true, true]) (u := [21, 22, 23, 24]) (uk := []); (first | exact a_move (sv := .one _) rfl | exact a_move (sv := .agg _) rfl | exact a_move (sv := .tup _) rfl | exact a_assign (sv := .one _) rfl | exact a_assign (sv := .agg _) rfl | exact a_assign (sv := .tup _) rfl | exact a_pick (sv := .one _) rfl rfl | exact a_pick (sv := .agg _) rfl rfl | exact a_nil rfl rfl | exact a_fa_gp rfl (fF rfl) rfl | exact a_fa_gv rfl rfl (fF rfl) | exact a_fa_imm rfl (fF rfl) rfl | exact a_ld_bx rfl rfl rfl (fC rfl) rfl | exact a_ld_imm rfl (fC rfl) rfl | exact a_lds_bx rfl rfl rfl (fA rfl) (Nat.le_of_ble_eq_true rfl) rfl | exact a_lds_imm rfl (fA rfl) (Nat.le_of_ble_eq_true rfl) rfl | exact a_extract (sv := .one _) rfl rfl rfl | exact a_extract (sv := .agg _) rfl rfl rfl | exact a_len_nil rfl (fS rfl) | exact a_lenE rfl rfl (fS rfl) (by exact rfl) | exact a_un rfl rfl | exact a_ne rfl rfl | exact a_cmp rfl rfl rfl trivial rfl | exact a_add rfl rfl (by omega) (by omega) | exact a_sub rfl rfl (by omega) (by omega) | exact a_neg rfl (by omega) (by omega) | exact a_conv64 rfl (fK rfl) (fK rfl) (by omega) (by omega) | exact a_min rfl rfl | exact a_max rfl rfl | exact a_iaE rfl rfl rfl (fS rfl) (by omega) (by omega) (by exact rfl) | exact a_iaO1 rfl rfl rfl (fS rfl) (by omega) (by omega) | exact a_iaO rfl rfl rfl (fS rfl) (by omega) (by omega) (by exact rfl) | exact a_ld_rowI rfl rfl rfl (fC rfl) (by omega) | exact a_build (fZ rfl) (fU rfl) rfl rfl | exact a_ifc rfl (fI rfl) | exact a_ifcs rfl (fI rfl) | exact a_fn rfl); exact rfl; kernel_rfl; kernel_rfl; kernel_rfl; exact rfl; exact rfl)
      all_goals (apply d_p (i := 3) (fs := [true, true, true]) (u := [21, 22, 23, 24]) (uk := []); (first | exact a_move (sv := .one _) rfl | exact a_move (sv := .agg _) rfl | exact a_move (sv := .tup _) rfl | exact a_assign (sv := .one _) rfl | exact a_assign (sv := .agg _) rfl | exact a_assign (sv := .tup _) rfl | exact a_pick (sv := .one _) rfl rfl | exact a_pick (sv := .agg _) rfl rfl | exact a_nil rfl rfl | exact a_fa_gp rfl (fF rfl) rfl | exact a_fa_gv rfl rfl (fF rfl) | exact a_fa_imm rfl (fF rfl) rfl | exact a_ld_bx rfl rfl rfl (fC rfl) rfl | exact a_ld_imm rfl (fC rfl) rfl | exact a_lds_bx rfl rfl rfl (fA rfl) (Nat.le_of_ble_eq_true rfl) rfl | exact a_lds_imm rfl (fA rfl) (Nat.le_of_ble_eq_true rfl) rfl | exact a_extract (sv := .one _) rfl rfl rfl | exact a_extract (sv := .agg _) rfl rfl rfl | exact a_len_nil rfl (fS rfl) | exact a_lenE rfl rfl (fS rfl) (by exact rfl) | exact a_un rfl rfl | exact a_ne rfl rfl | exact a_cmp rfl rfl rfl trivial rfl | exact a_add rfl rfl (by omega) (by omega) | exact a_sub rfl rfl (by omega) (by omega) | exact a_neg rfl (by omega) (by omega) | exact a_conv64 rfl (fK rfl) (fK rfl) (by omega) (by omega) | exact a_min rfl rfl | exact a_max rfl rfl | exact a_iaE rfl rfl rfl (fS rfl) (by omega) (by omega) (by exact rfl) | exact a_iaO1 rfl rfl rfl (fS rfl) (by omega) (by omega) | exact a_iaO rfl rfl rfl (fS rfl) (by omega) (by omega) (by exact rfl) | exact a_ld_rowI rfl rfl rfl (fC rfl) (by omega) | exact a_build (fZ rfl) (fU rfl) rfl rfl | exact a_ifc rfl (fI rfl) | exact a_ifcs rfl (fI rfl) | exact a_fn rfl); exact rfl; kernel_rfl; kernel_rfl; kernel_rfl; exact rfl; exact rfl)
      all_goals (apply d_p (i := 4) (fs := [false, false, false, false]) (u := [17, 18, 19, 20, 22]) (uk := []); (first | exact a_move (sv := .one _) rfl | exact a_move (sv := .agg _) rfl | exact a_move (sv := .tup _) rfl | exact a_assign (sv := .one _) rfl | exact a_assign (sv := .agg _) rfl | exact a_assign (sv := .tup _) rfl | exact a_pick (sv := .one _) rfl rfl | exact a_pick (sv := .agg _) rfl rfl | exact a_nil rfl rfl | exact a_fa_gp rfl (fF rfl) rfl | exact a_fa_gv rfl rfl (fF rfl) | exact a_fa_imm rfl (fF rfl) rfl | exact a_ld_bx rfl rfl rfl (fC rfl) rfl | exact a_ld_imm rfl (fC rfl) rfl | exact a_lds_bx rfl rfl rfl (fA rfl) (Nat.le_of_ble_eq_true rfl) rfl | exact a_lds_imm rfl (fA rfl) (Nat.le_of_ble_eq_true rfl) rfl | exact a_extract (sv := .one _) rfl rfl rfl | exact a_extract (sv := .agg _) rfl rfl rfl | exact a_len_nil rfl (fS rfl) | exact a_lenE rfl rfl (fS rfl) (by exact rfl) | exact a_un rfl rfl | exact a_ne rfl rfl | exact a_cmp rfl rfl rfl trivial rfl | exact a_add rfl rfl (by omega) (by omega) | exact a_sub rfl rfl (by omega) (by omega) | exact a_neg rfl (by omega) (by omega) | exact a_conv64 rfl (fK rfl) (fK rfl) (by omega) (by omega) | exact a_min rfl rfl | exact a_max rfl rfl | exact a_iaE rfl rfl rfl (fS rfl) (by omega) (by omega) (by exact rfl) | exact a_iaO1 rfl rfl rfl (fS rfl) (by omega) (by omega) | exact a_iaO rfl rfl rfl (fS rfl) (by omega) (by omega) (by exact rfl) | exact a_ld_rowI rfl rfl rfl (fC rfl) (by omega) | exact a_build (fZ rfl) (fU rfl) rfl rfl | exact a_ifc rfl (fI rfl) | exact a_ifcs rfl (fI rfl) | exact a_fn rfl); exact rfl; kernel_rfl; kernel_rfl; kernel_rfl; exact rfl; exact rfl)
      all_goals (apply d_p (i := 5) (fs := [false, false, false, false, false]) (u := [17, 18, 19, 20, 21]) (uk := []); (first | exact a_move (sv := .one _) rfl | exact a_move (sv := .agg _) rfl | exact a_move (sv := .tup _) rfl | exact a_assign (sv := .one _) rfl | exact a_assign (sv := .agg _) rfl | exact a_assign (sv := .tup _) rfl | exact a_pick (sv := .one _) rfl rfl | exact a_pick (sv := .agg _) rfl rfl | exact a_nil rfl rfl | exact a_fa_gp rfl (fF rfl) rfl | exact a_fa_gv rfl rfl (fF rfl) | exact a_fa_imm rfl (fF rfl) rfl | exact a_ld_bx rfl rfl rfl (fC rfl) rfl | exact a_ld_imm rfl (fC rfl) rfl | exact a_lds_bx rfl rfl rfl (fA rfl) (Nat.le_of_ble_eq_true rfl) rfl | exact a_lds_imm rfl (fA rfl) (Nat.le_of_ble_eq_true rfl) rfl | exact a_extract (sv := .one _) rfl rfl rfl | exact a_extract (sv := .agg _) rfl rfl rfl | exact a_len_nil rfl (fS rfl) | exact a_lenE rfl rfl (fS rfl) (by exact rfl) | exact a_un rfl rfl | exact a_ne rfl rfl | exact a_cmp rfl rfl rfl trivial rfl | exact a_add rfl rfl (by omega) (by omega) | exact a_sub rfl rfl (by omega) (by omega) | exact a_neg rfl (by omega) (by omega) | exact a_conv64 rfl (fK rfl) (fK rfl) (by omega) (by omega) | exact a_min rfl rfl | exact a_max rfl rfl | exact a_iaE rfl rfl rfl (fS rfl) (by omega) (by omega) (by exact rfl) | exact a_iaO1 rfl rfl rfl (fS rfl) (by omega) (by omega) | exact a_iaO rfl rfl rfl (fS rfl) (by omega) (by omega) (by exact rfl) | exact a_ld_rowI rfl rfl rfl (fC rfl) (by omega) | exact a_build (fZ rfl) (fU rfl) rfl rfl | exact a_ifc rfl (fI rfl) | exact a_ifcs rfl (fI rfl) | exact a_fn rfl); exact rfl; kernel_rfl; kernel_rfl; kernel_rfl; exact rfl; exact rfl)
      all_goals (apply d_p (i := 6) (fs := [true, true, false, false, false, false]) (u := [17, 18, 19, 20]) (uk := []); (first | exact a_move (sv := .one _) rfl | exact a_move (sv := .agg _) rfl | exact a_move (sv := .tup _) rfl | exact a_assign (sv := .one _) rfl | exact a_assign (sv := .agg _) rfl | exact a_assign (sv := .tup _) rfl | exact a_pick (sv := .one _) rfl rfl | exact a_pick (sv := .agg _) rfl rfl | exact a_nil rfl rfl | exact a_fa_gp rfl (fF rfl) rfl | exact a_fa_gv rfl rfl (fF rfl) | exact a_fa_imm rfl (fF rfl) rfl | exact a_ld_bx rfl rfl rfl (fC rfl) rfl | exact a_ld_imm rfl (fC rfl) rfl | exact a_lds_bx rfl rfl rfl (fA rfl) (Nat.le_of_ble_eq_true rfl) rfl | exact a_lds_imm rfl (fA rfl) (Nat.le_of_ble_eq_true rfl) rfl | exact a_extract (sv := .one _) rfl rfl rfl | exact a_extract (sv := .agg _) rfl rfl rfl | exact a_len_nil rfl (fS rfl) | exact a_lenE rfl rfl (fS rfl) (by exact rfl) | exact a_un rfl rfl | exact a_ne rfl rfl | exact a_cmp rfl rfl rfl trivial rfl | exact a_add rfl rfl (by omega) (by omega) | exact a_sub rfl rfl (by omega) (by omega) | exact a_neg rfl (by omega) (by omega) | exact a_conv64 rfl (fK rfl) (fK rfl) (by omega) (by omega) | exact a_min rfl rfl | exact a_max rfl rfl | exact a_iaE rfl rfl rfl (fS rfl) (by omega) (by omega) (by exact rfl) | exact a_iaO1 rfl rfl rfl (fS rfl) (by omega) (by omega) | exact a_iaO rfl rfl rfl (fS rfl) (by omega) (by omega) (by exact rfl) | exact a_ld_rowI rfl rfl rfl (fC rfl) (by omega) | exact a_build (fZ rfl) (fU rfl) rfl rfl | exact a_ifc rfl (fI rfl) | exact a_ifcs rfl (fI rfl) | exact a_fn rfl); exact rfl; kernel_rfl; kernel_rfl; kernel_rfl; exact rfl; exact rfl)
      all_goals (apply d_p (i := 7) (fs := [true, true, true, false, false, false, false]) (u := [17, 18, 19, 20]) (uk := []); (first | exact a_move (sv := .one _) rfl | exact a_move (sv := .agg _) rfl | exact a_move (sv := .tup _) rfl | exact a_assign (sv := .one _) rfl | exact a_assign (sv := .agg _) rfl | exact a_assign (sv := .tup _) rfl | exact a_pick (sv := .one _) rfl rfl | exact a_pick (sv := .agg _) rfl rfl | exact a_nil rfl rfl | exact a_fa_gp rfl (fF rfl) rfl | exact a_fa_gv rfl rfl (fF rfl) | exact a_fa_imm rfl (fF rfl) rfl | exact a_ld_bx rfl rfl rfl (fC rfl) rfl | exact a_ld_imm rfl (fC rfl) rfl | exact a_lds_bx rfl rfl rfl (fA rfl) (Nat.le_of_ble_eq_true rfl) rfl | exact a_lds_imm rfl (fA rfl) (Nat.le_of_ble_eq_true rfl) rfl | exact a_extract (sv := .one _) rfl rfl rfl | exact a_extract (sv := .agg _) rfl rfl rfl | exact a_len_nil rfl (fS rfl) | exact a_lenE rfl rfl (fS rfl) (by exact rfl) | exact a_un rfl rfl | exact a_ne rfl rfl | exact a_cmp rfl rfl rfl trivial rfl | exact a_add rfl rfl (by omega) (by omega) | exact a_sub rfl rfl (by omega) (by omega) | exact a_neg rfl (by omega) (by omega) | exact a_conv64 rfl (fK rfl) (fK rfl) (by omega) (by omega) | exact a_min rfl rfl | exact a_max rfl rfl | exact a_iaE rfl rfl rfl (fS rfl) (by omega) (by omega) (by exact rfl) | exact a_iaO1 rfl rfl rfl (fS rfl) (by omega) (by omega) | exact a_iaO rfl rfl rfl (fS rfl) (by omega) (by omega) (by exact rfl) | exact a_ld_rowI rfl rfl rfl (fC rfl) (by omega) | exact a_build (fZ rfl) (fU rfl) rfl rfl | exact a_ifc rfl (fI rfl) | exact a_ifcs rfl (fI rfl) | exact a_fn rfl); exact rfl; kernel_rfl; kernel_rfl; kernel_rfl; exact rfl; exact rfl)
      all_goals (apply d_p (i := 8) (fs := [true, true, true, true, true, true, true, true]) (u := []) (uk := []); (first | exact a_move (sv := .one _) rfl | exact a_move (sv := .agg _) rfl | exact a_move (sv := .tup _) rfl | exact a_assign (sv := .one _) rfl | exact a_assign (sv := .agg _) rfl | exact a_assign (sv := .tup _) rfl | exact a_pick (sv := .one _) rfl rfl | exact a_pick (sv := .agg _) rfl rfl | exact a_nil rfl rfl | exact a_fa_gp rfl (fF rfl) rfl | exact a_fa_gv rfl rfl (fF rfl) | exact a_fa_imm rfl (fF rfl) rfl | exact a_ld_bx rfl rfl rfl (fC rfl) rfl | exact a_ld_imm rfl (fC rfl) rfl | exact a_lds_bx rfl rfl rfl (fA rfl) (Nat.le_of_ble_eq_true rfl) rfl | exact a_lds_imm rfl (fA rfl) (Nat.le_of_ble_eq_true rfl) rfl | exact a_extract (sv := .one _) rfl rfl rfl | exact a_extract (sv := .agg _) rfl rfl rfl | exact a_len_nil rfl (fS rfl) | exact a_lenE rfl rfl (fS rfl) (by exact rfl) | exact a_un rfl rfl | exact a_ne rfl rfl | exact a_cmp rfl rfl rfl trivial rfl | exact a_add rfl rfl (by omega) (by omega) | exact a_sub rfl rfl (by omega) (by omega) | exact a_neg rfl (by omega) (by omega) | exact a_conv64 rfl (fK rfl) (fK rfl) (by omega) (by omega) | exact a_min rfl rfl | exact a_max rfl rfl | exact a_iaE rfl rfl rfl (fS rfl) (by omega) (by omega) (by exact rfl) | exact a_iaO1 rfl rfl rfl (fS rfl) (by omega) (by omega) | exact a_iaO rfl rfl rfl (fS rfl) (by omega) (by omega) (by exact rfl) | exact a_ld_rowI rfl rfl rfl (fC rfl) (by omega) | exact a_build (fZ rfl) (fU rfl) rfl rfl | exact a_ifc rfl (fI rfl) | exact a_ifcs rfl (fI rfl) | exact a_fn rfl); exact rfl; kernel_rfl; kernel_rfl; kernel_rfl; exact rfl; exact rfl)
      all_goals (refine d_nil ?_; dsimp only [selT, selH, trues, SV.ren, C.ren, C.ren.all, tRen, GB.ren, calF, upOf, List.cons_append, List.nil_append, Nat.reduceAdd])
      repeat' first
        | refine g_seq ?_
        | refine g_skip ?_
        | refine g_ret ?_
        | refine g_exit ?_
        | refine g_block ?_
        | refine g_reg ?_
        | refine g_if_t rfl ?_
        | refine g_if_f rfl ?_
        | refine o_nil ?_
        | refine q_s ?_
        | refine q_sr ?_
        | refine q_se ?_
        | refine q_b ?_
        | refine q_br ?_
        | refine q_be rfl ?_
        | refine q_bn rfl ?_
        | refine q_lr ?_
        | refine q_le ?_
        | refine q_cr ?_
        | refine q_ce ?_
        | (apply p3; (first | exact a_move (sv := .one _) rfl | exact a_move (sv := .agg _) rfl | exact a_move (sv := .tup _) rfl | exact a_assign (sv := .one _) rfl | exact a_assign (sv := .agg _) rfl | exact a_assign (sv := .tup _) rfl | exact a_pick (sv := .one _) rfl rfl | exact a_pick (sv := .agg _) rfl rfl | exact a_nil rfl rfl | exact a_fa_gp rfl (fF rfl) rfl | exact a_fa_gv rfl rfl (fF rfl) | exact a_fa_imm rfl (fF rfl) rfl | exact a_ld_bx rfl rfl rfl (fC rfl) rfl | exact a_ld_imm rfl (fC rfl) rfl | exact a_lds_bx rfl rfl rfl (fA rfl) (Nat.le_of_ble_eq_true rfl) rfl | exact a_lds_imm rfl (fA rfl) (Nat.le_of_ble_eq_true rfl) rfl | exact a_extract (sv := .one _) rfl rfl rfl | exact a_extract (sv := .agg _) rfl rfl rfl | exact a_len_nil rfl (fS rfl) | exact a_lenE rfl rfl (fS rfl) (by exact rfl) | exact a_un rfl rfl | exact a_ne rfl rfl | exact a_cmp rfl rfl rfl trivial rfl | exact a_add rfl rfl (by omega) (by omega) | exact a_sub rfl rfl (by omega) (by omega) | exact a_neg rfl (by omega) (by omega) | exact a_conv64 rfl (fK rfl) (fK rfl) (by omega) (by omega) | exact a_min rfl rfl | exact a_max rfl rfl | exact a_iaE rfl rfl rfl (fS rfl) (by omega) (by omega) (by exact rfl) | exact a_iaO1 rfl rfl rfl (fS rfl) (by omega) (by omega) | exact a_iaO rfl rfl rfl (fS rfl) (by omega) (by omega) (by exact rfl) | exact a_ld_rowI rfl rfl rfl (fC rfl) (by omega) | exact a_build (fZ rfl) (fU rfl) rfl rfl | exact a_ifc rfl (fI rfl) | exact a_ifcs rfl (fI rfl) | exact a_fn rfl); exact rfl)
        | (apply n3; (first | exact a_alloc (fZ rfl) rfl | exact a_box rfl | exact a_lit (fP rfl) (by decide) rfl (by decide) rfl rfl rfl); exact rfl)
        | (apply w3; (first | exact a_st_bx rfl rfl rfl rfl (fN rfl rfl) (Nat.le_of_ble_eq_true rfl) rfl | exact a_st_rowI rfl rfl rfl rfl (fN rfl rfl) (by omega)); exact rfl)
        | refine o_no rfl rfl rfl rfl ?_
        | (apply py3; exact rfl; exact rfl; (first | exact a_move (sv := .one _) rfl | exact a_move (sv := .agg _) rfl | exact a_move (sv := .tup _) rfl | exact a_assign (sv := .one _) rfl | exact a_assign (sv := .agg _) rfl | exact a_assign (sv := .tup _) rfl | exact a_pick (sv := .one _) rfl rfl | exact a_pick (sv := .agg _) rfl rfl | exact a_nil rfl rfl | exact a_fa_gp rfl (fF rfl) rfl | exact a_fa_gv rfl rfl (fF rfl) | exact a_fa_imm rfl (fF rfl) rfl | exact a_ld_bx rfl rfl rfl (fC rfl) rfl | exact a_ld_imm rfl (fC rfl) rfl | exact a_lds_bx rfl rfl rfl (fA rfl) (Nat.le_of_ble_eq_true rfl) rfl | exact a_lds_imm rfl (fA rfl) (Nat.le_of_ble_eq_true rfl) rfl | exact a_extract (sv := .one _) rfl rfl rfl | exact a_extract (sv := .agg _) rfl rfl rfl | exact a_len_nil rfl (fS rfl) | exact a_lenE rfl rfl (fS rfl) (by exact rfl) | exact a_un rfl rfl | exact a_ne rfl rfl | exact a_cmp rfl rfl rfl trivial rfl | exact a_add rfl rfl (by omega) (by omega) | exact a_sub rfl rfl (by omega) (by omega) | exact a_neg rfl (by omega) (by omega) | exact a_conv64 rfl (fK rfl) (fK rfl) (by omega) (by omega) | exact a_min rfl rfl | exact a_max rfl rfl | exact a_iaE rfl rfl rfl (fS rfl) (by omega) (by omega) (by exact rfl) | exact a_iaO1 rfl rfl rfl (fS rfl) (by omega) (by omega) | exact a_iaO rfl rfl rfl (fS rfl) (by omega) (by omega) (by exact rfl) | exact a_ld_rowI rfl rfl rfl (fC rfl) (by omega) | exact a_build (fZ rfl) (fU rfl) rfl rfl | exact a_ifc rfl (fI rfl) | exact a_ifcs rfl (fI rfl) | exact a_fn rfl); exact rfl; exact rfl)
        | (apply ny3; exact rfl; exact rfl; (first | exact a_alloc (fZ rfl) rfl | exact a_box rfl | exact a_lit (fP rfl) (by decide) rfl (by decide) rfl rfl rfl); exact rfl; exact rfl)
        | (refine o_gs rfl rfl (fun hc => ?_) (fun hc => ?_) <;> (try simp only [decide_eq_true_eq, decide_eq_false_iff_not, Bool.not_eq_true', Bool.not_eq_false', Bool.not_eq_true, Bool.not_eq_false, Bool.and_eq_true, Bool.or_eq_false_iff, Bool.not_not] at hc) <;> (try (exfalso; omega)))
        | (refine g_cond rfl (fun hc => ?_) (fun hc => ?_) <;> (try simp only [decide_eq_true_eq, decide_eq_false_iff_not, Bool.not_eq_true', Bool.not_eq_false', Bool.not_eq_true, Bool.not_eq_false, Bool.and_eq_true, Bool.or_eq_false_iff, Bool.not_not] at hc) <;> (try (exfalso; omega)))
      · exact ends_r (.cons (.one rfl) .nil) (sle_b (by symm; unfold eqI; rw [decide_eq_false_iff_not]; rintro rfl; exact hc rfl)) rfl
      · refine .again (i + 1) [] ⟨by omega, by omega, ?_⟩ (by omega) ?_
        · rw [show (i + 1).toNat = i.toNat + 1 by omega, List.take_succ_eq_append_getElem (by omega), List.take_succ_eq_append_getElem (by omega), h2, hc]
        · exact ⟨rfl, rfl, rfl, by repeat (first | exact trivial | refine And.intro ?_ ?_ | exact SVLe.refl | exact SVLe.any | exact SVLe.one (.sh rfl) | exact SVLe.one (.nil (by decide))), by repeat (first | exact trivial | refine And.intro ?_ ?_ | exact rfl), rfl, rfl⟩
    · refine ends_r (.cons (.one rfl) .nil) (sle_b ?_) rfl
      symm
      unfold eqI
      rw [decide_eq_true_eq]
      rw [List.take_of_length_le (by omega), List.take_of_length_le (by omega)] at h2
      exact h2
/-- Rules of machines. -/
structure Rule' where
  w : Int
  m : Int
  n : Int
  deriving DecidableEq
abbrev eR : Enc Rule' := ⟨3, fun r => [.sc (.int .i64 r.w), .sc (.int .i64 r.m), .sc (.int .i64 r.n)], fun _ => rfl, by decide⟩
abbrev shR (l : List Rule') : C := .d (.sl false 3 (rows eR l))
theorem noOwnR (l : List Rule') : D.noOwn.all (rows eR l) := noOwn_rows fun _ => ⟨trivial, trivial, trivial, trivial⟩
theorem plainR (l : List Rule') : D.plain.all (rows eR l) := plain_rows fun _ => ⟨trivial, trivial, trivial, trivial⟩
abbrev ruC (r : Rule') : List C := [int r.w, int r.m, int r.n]
structure Mach where
  sy : Int
  st : Int
  ru : List Rule'
abbrev maC (m : Mach) : List C := [int m.sy, int m.st, shR m.ru]
structure Conf where
  st : Int
  le : List Int
  ri : List Int
abbrev coC (c : Conf) : List C := [int c.st, shI c.le, shI c.ri]
theorem szRuleS_ok (xs : List Rule') (left : Int) (h1 : left ≤ 1048576) (h2 : 0 ≤ left) (hx : (xs.length : Int) ≤ 9223372036854775807) : Does Try.prog 45 [.one (shR xs), .one (int left)] [] (.one (int (szL xs.length left))) [] := by
  refine does_of (k := 0) Try.func45 rfl Try.ntmps45 rfl rfl fun w F0 S0 ρ0 => ?_
  dsimp only [argT, argH]
  repeat' first
    | refine g_seq ?_
    | refine g_skip ?_
    | refine g_ret ?_
    | refine g_exit ?_
    | refine g_block ?_
    | refine g_reg ?_
    | refine g_if_t rfl ?_
    | refine g_if_f rfl ?_
    | refine o_nil ?_
    | refine q_s ?_
    | refine q_sr ?_
    | refine q_se ?_
    | refine q_b ?_
    | refine q_br ?_
    | refine q_be rfl ?_
    | refine q_bn rfl ?_
    | refine q_lr ?_
    | refine q_le ?_
    | refine q_cr ?_
    | refine q_ce ?_
    | (apply p3; (first | exact a_move (sv := .one _) rfl | exact a_move (sv := .agg _) rfl | exact a_move (sv := .tup _) rfl | exact a_assign (sv := .one _) rfl | exact a_assign (sv := .agg _) rfl | exact a_assign (sv := .tup _) rfl | exact a_pick (sv := .one _) rfl rfl | exact a_pick (sv := .agg _) rfl rfl | exact a_nil rfl rfl | exact a_fa_gp rfl (fF rfl) rfl | exact a_fa_gv rfl rfl (fF rfl) | exact a_fa_imm rfl (fF rfl) rfl | exact a_ld_bx rfl rfl rfl (fC rfl) rfl | exact a_ld_imm rfl (fC rfl) rfl | exact a_lds_bx rfl rfl rfl (fA rfl) (Nat.le_of_ble_eq_true rfl) rfl | exact a_lds_imm rfl (fA rfl) (Nat.le_of_ble_eq_true rfl) rfl | exact a_extract (sv := .one _) rfl rfl rfl | exact a_extract (sv := .agg _) rfl rfl rfl | exact a_len_nil rfl (fS rfl) | exact a_lenE rfl rfl (fS rfl) (by exact rfl) | exact a_un rfl rfl | exact a_ne rfl rfl | exact a_cmp rfl rfl rfl trivial rfl | exact a_add rfl rfl (by omega) (by omega) | exact a_sub rfl rfl (by omega) (by omega) | exact a_neg rfl (by omega) (by omega) | exact a_conv64 rfl (fK rfl) (fK rfl) (by omega) (by omega) | exact a_min rfl rfl | exact a_max rfl rfl | exact a_iaE rfl rfl rfl (fS rfl) (by omega) (by omega) (by exact rfl) | exact a_iaO1 rfl rfl rfl (fS rfl) (by omega) (by omega) | exact a_iaO rfl rfl rfl (fS rfl) (by omega) (by omega) (by exact rfl) | exact a_ld_rowI rfl rfl rfl (fC rfl) (by omega) | exact a_build (fZ rfl) (fU rfl) rfl rfl | exact a_ifc rfl (fI rfl) | exact a_ifcs rfl (fI rfl) | exact a_fn rfl); exact rfl)
    | (apply n3; (first | exact a_alloc (fZ rfl) rfl | exact a_box rfl | exact a_lit (fP rfl) (by decide) rfl (by decide) rfl rfl rfl); exact rfl)
    | (apply w3; (first | exact a_st_bx rfl rfl rfl rfl (fN rfl rfl) (Nat.le_of_ble_eq_true rfl) rfl | exact a_st_rowI rfl rfl rfl rfl (fN rfl rfl) (by omega)); exact rfl)
    | refine o_no rfl rfl rfl rfl ?_
    | (apply py3; exact rfl; exact rfl; (first | exact a_move (sv := .one _) rfl | exact a_move (sv := .agg _) rfl | exact a_move (sv := .tup _) rfl | exact a_assign (sv := .one _) rfl | exact a_assign (sv := .agg _) rfl | exact a_assign (sv := .tup _) rfl | exact a_pick (sv := .one _) rfl rfl | exact a_pick (sv := .agg _) rfl rfl | exact a_nil rfl rfl | exact a_fa_gp rfl (fF rfl) rfl | exact a_fa_gv rfl rfl (fF rfl) | exact a_fa_imm rfl (fF rfl) rfl | exact a_ld_bx rfl rfl rfl (fC rfl) rfl | exact a_ld_imm rfl (fC rfl) rfl | exact a_lds_bx rfl rfl rfl (fA rfl) (Nat.le_of_ble_eq_true rfl) rfl | exact a_lds_imm rfl (fA rfl) (Nat.le_of_ble_eq_true rfl) rfl | exact a_extract (sv := .one _) rfl rfl rfl | exact a_extract (sv := .agg _) rfl rfl rfl | exact a_len_nil rfl (fS rfl) | exact a_lenE rfl rfl (fS rfl) (by exact rfl) | exact a_un rfl rfl | exact a_ne rfl rfl | exact a_cmp rfl rfl rfl trivial rfl | exact a_add rfl rfl (by omega) (by omega) | exact a_sub rfl rfl (by omega) (by omega) | exact a_neg rfl (by omega) (by omega) | exact a_conv64 rfl (fK rfl) (fK rfl) (by omega) (by omega) | exact a_min rfl rfl | exact a_max rfl rfl | exact a_iaE rfl rfl rfl (fS rfl) (by omega) (by omega) (by exact rfl) | exact a_iaO1 rfl rfl rfl (fS rfl) (by omega) (by omega) | exact a_iaO rfl rfl rfl (fS rfl) (by omega) (by omega) (by exact rfl) | exact a_ld_rowI rfl rfl rfl (fC rfl) (by omega) | exact a_build (fZ rfl) (fU rfl) rfl rfl | exact a_ifc rfl (fI rfl) | exact a_ifcs rfl (fI rfl) | exact a_fn rfl); exact rfl; exact rfl)
    | (apply ny3; exact rfl; exact rfl; (first | exact a_alloc (fZ rfl) rfl | exact a_box rfl | exact a_lit (fP rfl) (by decide) rfl (by decide) rfl rfl rfl); exact rfl; exact rfl)
    | (refine o_gs rfl rfl (fun hc => ?_) (fun hc => ?_) <;> (try simp only [decide_eq_true_eq, decide_eq_false_iff_not, Bool.not_eq_true', Bool.not_eq_false', Bool.not_eq_true, Bool.not_eq_false, Bool.and_eq_true, Bool.or_eq_false_iff, Bool.not_not] at hc) <;> (try (exfalso; omega)))
    | (refine g_cond rfl (fun hc => ?_) (fun hc => ?_) <;> (try simp only [decide_eq_true_eq, decide_eq_false_iff_not, Bool.not_eq_true', Bool.not_eq_false', Bool.not_eq_true, Bool.not_eq_false, Bool.and_eq_true, Bool.or_eq_false_iff, Bool.not_not] at hc) <;> (try (exfalso; omega)))
  all_goals exact ends_r (.cons (.one rfl) .nil) (sle_i (by unfold szL; simp [*])) rfl
theorem szMachine_ok (m : Mach) (left : Int) (h1 : left ≤ 1048576) (h2 : 0 ≤ left) (hx : (m.ru.length : Int) ≤ 9223372036854775807) : Does Try.prog 11 [.agg (maC m), .one (int left)] [] (.one (int (szL m.ru.length left))) [] := by
  refine does_of (k := 0) Try.func11 rfl Try.ntmps11 rfl rfl fun w F0 S0 ρ0 => ?_
  dsimp only [argT, argH]
  repeat' first
    | refine g_seq ?_
    | refine g_skip ?_
    | refine g_ret ?_
    | refine g_exit ?_
    | refine g_block ?_
    | refine g_reg ?_
    | refine g_if_t rfl ?_
    | refine g_if_f rfl ?_
    | refine o_nil ?_
    | refine q_s ?_
    | refine q_sr ?_
    | refine q_se ?_
    | refine q_b ?_
    | refine q_br ?_
    | refine q_be rfl ?_
    | refine q_bn rfl ?_
    | refine q_lr ?_
    | refine q_le ?_
    | refine q_cr ?_
    | refine q_ce ?_
    | (apply p3; (first | exact a_move (sv := .one _) rfl | exact a_move (sv := .agg _) rfl | exact a_move (sv := .tup _) rfl | exact a_assign (sv := .one _) rfl | exact a_assign (sv := .agg _) rfl | exact a_assign (sv := .tup _) rfl | exact a_pick (sv := .one _) rfl rfl | exact a_pick (sv := .agg _) rfl rfl | exact a_nil rfl rfl | exact a_fa_gp rfl (fF rfl) rfl | exact a_fa_gv rfl rfl (fF rfl) | exact a_fa_imm rfl (fF rfl) rfl | exact a_ld_bx rfl rfl rfl (fC rfl) rfl | exact a_ld_imm rfl (fC rfl) rfl | exact a_lds_bx rfl rfl rfl (fA rfl) (Nat.le_of_ble_eq_true rfl) rfl | exact a_lds_imm rfl (fA rfl) (Nat.le_of_ble_eq_true rfl) rfl | exact a_extract (sv := .one _) rfl rfl rfl | exact a_extract (sv := .agg _) rfl rfl rfl | exact a_len_nil rfl (fS rfl) | exact a_lenE rfl rfl (fS rfl) (by exact rfl) | exact a_un rfl rfl | exact a_ne rfl rfl | exact a_cmp rfl rfl rfl trivial rfl | exact a_add rfl rfl (by omega) (by omega) | exact a_sub rfl rfl (by omega) (by omega) | exact a_neg rfl (by omega) (by omega) | exact a_conv64 rfl (fK rfl) (fK rfl) (by omega) (by omega) | exact a_min rfl rfl | exact a_max rfl rfl | exact a_iaE rfl rfl rfl (fS rfl) (by omega) (by omega) (by exact rfl) | exact a_iaO1 rfl rfl rfl (fS rfl) (by omega) (by omega) | exact a_iaO rfl rfl rfl (fS rfl) (by omega) (by omega) (by exact rfl) | exact a_ld_rowI rfl rfl rfl (fC rfl) (by omega) | exact a_build (fZ rfl) (fU rfl) rfl rfl | exact a_ifc rfl (fI rfl) | exact a_ifcs rfl (fI rfl) | exact a_fn rfl); exact rfl)
    | (apply n3; (first | exact a_alloc (fZ rfl) rfl | exact a_box rfl | exact a_lit (fP rfl) (by decide) rfl (by decide) rfl rfl rfl); exact rfl)
    | (apply w3; (first | exact a_st_bx rfl rfl rfl rfl (fN rfl rfl) (Nat.le_of_ble_eq_true rfl) rfl | exact a_st_rowI rfl rfl rfl rfl (fN rfl rfl) (by omega)); exact rfl)
    | refine o_no rfl rfl rfl rfl ?_
    | (apply py3; exact rfl; exact rfl; (first | exact a_move (sv := .one _) rfl | exact a_move (sv := .agg _) rfl | exact a_move (sv := .tup _) rfl | exact a_assign (sv := .one _) rfl | exact a_assign (sv := .agg _) rfl | exact a_assign (sv := .tup _) rfl | exact a_pick (sv := .one _) rfl rfl | exact a_pick (sv := .agg _) rfl rfl | exact a_nil rfl rfl | exact a_fa_gp rfl (fF rfl) rfl | exact a_fa_gv rfl rfl (fF rfl) | exact a_fa_imm rfl (fF rfl) rfl | exact a_ld_bx rfl rfl rfl (fC rfl) rfl | exact a_ld_imm rfl (fC rfl) rfl | exact a_lds_bx rfl rfl rfl (fA rfl) (Nat.le_of_ble_eq_true rfl) rfl | exact a_lds_imm rfl (fA rfl) (Nat.le_of_ble_eq_true rfl) rfl | exact a_extract (sv := .one _) rfl rfl rfl | exact a_extract (sv := .agg _) rfl rfl rfl | exact a_len_nil rfl (fS rfl) | exact a_lenE rfl rfl (fS rfl) (by exact rfl) | exact a_un rfl rfl | exact a_ne rfl rfl | exact a_cmp rfl rfl rfl trivial rfl | exact a_add rfl rfl (by omega) (by omega) | exact a_sub rfl rfl (by omega) (by omega) | exact a_neg rfl (by omega) (by omega) | exact a_conv64 rfl (fK rfl) (fK rfl) (by omega) (by omega) | exact a_min rfl rfl | exact a_max rfl rfl | exact a_iaE rfl rfl rfl (fS rfl) (by omega) (by omega) (by exact rfl) | exact a_iaO1 rfl rfl rfl (fS rfl) (by omega) (by omega) | exact a_iaO rfl rfl rfl (fS rfl) (by omega) (by omega) (by exact rfl) | exact a_ld_rowI rfl rfl rfl (fC rfl) (by omega) | exact a_build (fZ rfl) (fU rfl) rfl rfl | exact a_ifc rfl (fI rfl) | exact a_ifcs rfl (fI rfl) | exact a_fn rfl); exact rfl; exact rfl)
    | (apply ny3; exact rfl; exact rfl; (first | exact a_alloc (fZ rfl) rfl | exact a_box rfl | exact a_lit (fP rfl) (by decide) rfl (by decide) rfl rfl rfl); exact rfl; exact rfl)
    | (refine o_gs rfl rfl (fun hc => ?_) (fun hc => ?_) <;> (try simp only [decide_eq_true_eq, decide_eq_false_iff_not, Bool.not_eq_true', Bool.not_eq_false', Bool.not_eq_true, Bool.not_eq_false, Bool.and_eq_true, Bool.or_eq_false_iff, Bool.not_not] at hc) <;> (try (exfalso; omega)))
    | (refine g_cond rfl (fun hc => ?_) (fun hc => ?_) <;> (try simp only [decide_eq_true_eq, decide_eq_false_iff_not, Bool.not_eq_true', Bool.not_eq_false', Bool.not_eq_true, Bool.not_eq_false, Bool.and_eq_true, Bool.or_eq_false_iff, Bool.not_not] at hc) <;> (try (exfalso; omega)))
  apply c3 (n' := _) (θ := [])
  exact a_callS (θ := []) (ld := []) (szRuleS_ok m.ru left h1 h2 hx) rfl rfl (fQ rfl) (by repeat (first | exact ASLe.nil | refine ASLe.cons ?_ ?_ | exact SVLe.refl | exact SVLe.one (.sh rfl) | exact SVLe.one (.nil (by decide)) | exact SVLe.one (.lend (by simp) rfl (noOwnI _)) | exact SVLe.one (.lend (by simp) rfl (noOwnR _)) | exact SVLe.agg (by repeat (first | exact CsLe.nil | refine CsLe.cons ?_ ?_ | exact CLe.refl | exact CLe.sh rfl | exact CLe.nil (by decide) | exact CLe.lend (by simp) rfl (noOwnI _) | exact CLe.lend (by simp) rfl (noOwnR _))))) (by repeat (first | exact trivial | refine And.intro ?_ ?_ | exact rfl)) rfl rfl rfl rfl (.inl rfl) rfl rfl rfl rfl
  exact rfl
  exact rfl
  · (repeat (first | exact Nat.le_refl _ | refine And.intro ?_ ?_ | exact Nat.le_of_ble_eq_true rfl | exact .inr ⟨Nat.le_of_ble_eq_true rfl, Nat.le_of_ble_eq_true rfl⟩ | exact .inl (by simp)))
  try dsimp only [SV.ren, C.ren, C.ren.all, tRen, GB.ren, calF, upOf, List.cons_append, List.nil_append, Nat.reduceAdd]
  repeat' first
    | refine g_seq ?_
    | refine g_skip ?_
    | refine g_ret ?_
    | refine g_exit ?_
    | refine g_block ?_
    | refine g_reg ?_
    | refine g_if_t rfl ?_
    | refine g_if_f rfl ?_
    | refine o_nil ?_
    | refine q_s ?_
    | refine q_sr ?_
    | refine q_se ?_
    | refine q_b ?_
    | refine q_br ?_
    | refine q_be rfl ?_
    | refine q_bn rfl ?_
    | refine q_lr ?_
    | refine q_le ?_
    | refine q_cr ?_
    | refine q_ce ?_
    | (apply p3; (first | exact a_move (sv := .one _) rfl | exact a_move (sv := .agg _) rfl | exact a_move (sv := .tup _) rfl | exact a_assign (sv := .one _) rfl | exact a_assign (sv := .agg _) rfl | exact a_assign (sv := .tup _) rfl | exact a_pick (sv := .one _) rfl rfl | exact a_pick (sv := .agg _) rfl rfl | exact a_nil rfl rfl | exact a_fa_gp rfl (fF rfl) rfl | exact a_fa_gv rfl rfl (fF rfl) | exact a_fa_imm rfl (fF rfl) rfl | exact a_ld_bx rfl rfl rfl (fC rfl) rfl | exact a_ld_imm rfl (fC rfl) rfl | exact a_lds_bx rfl rfl rfl (fA rfl) (Nat.le_of_ble_eq_true rfl) rfl | exact a_lds_imm rfl (fA rfl) (Nat.le_of_ble_eq_true rfl) rfl | exact a_extract (sv := .one _) rfl rfl rfl | exact a_extract (sv := .agg _) rfl rfl rfl | exact a_len_nil rfl (fS rfl) | exact a_lenE rfl rfl (fS rfl) (by exact rfl) | exact a_un rfl rfl | exact a_ne rfl rfl | exact a_cmp rfl rfl rfl trivial rfl | exact a_add rfl rfl (by omega) (by omega) | exact a_sub rfl rfl (by omega) (by omega) | exact a_neg rfl (by omega) (by omega) | exact a_conv64 rfl (fK rfl) (fK rfl) (by omega) (by omega) | exact a_min rfl rfl | exact a_max rfl rfl | exact a_iaE rfl rfl rfl (fS rfl) (by omega) (by omega) (by exact rfl) | exact a_iaO1 rfl rfl rfl (fS rfl) (by omega) (by omega) | exact a_iaO rfl rfl rfl (fS rfl) (by omega) (by omega) (by exact rfl) | exact a_ld_rowI rfl rfl rfl (fC rfl) (by omega) | exact a_build (fZ rfl) (fU rfl) rfl rfl | exact a_ifc rfl (fI rfl) | exact a_ifcs rfl (fI rfl) | exact a_fn rfl); exact rfl)
    | (apply n3; (first | exact a_alloc (fZ rfl) rfl | exact a_box rfl | exact a_lit (fP rfl) (by decide) rfl (by decide) rfl rfl rfl); exact rfl)
    | (apply w3; (first | exact a_st_bx rfl rfl rfl rfl (fN rfl rfl) (Nat.le_of_ble_eq_true rfl) rfl | exact a_st_rowI rfl rfl rfl rfl (fN rfl rfl) (by omega)); exact rfl)
    | refine o_no rfl rfl rfl rfl ?_
    | (apply py3; exact rfl; exact rfl; (first | exact a_move (sv := .one _) rfl | exact a_move (sv := .agg _) rfl | exact a_move (sv := .tup _) rfl | exact a_assign (sv := .one _) rfl | exact a_assign (sv := .agg _) rfl | exact a_assign (sv := .tup _) rfl | exact a_pick (sv := .one _) rfl rfl | exact a_pick (sv := .agg _) rfl rfl | exact a_nil rfl rfl | exact a_fa_gp rfl (fF rfl) rfl | exact a_fa_gv rfl rfl (fF rfl) | exact a_fa_imm rfl (fF rfl) rfl | exact a_ld_bx rfl rfl rfl (fC rfl) rfl | exact a_ld_imm rfl (fC rfl) rfl | exact a_lds_bx rfl rfl rfl (fA rfl) (Nat.le_of_ble_eq_true rfl) rfl | exact a_lds_imm rfl (fA rfl) (Nat.le_of_ble_eq_true rfl) rfl | exact a_extract (sv := .one _) rfl rfl rfl | exact a_extract (sv := .agg _) rfl rfl rfl | exact a_len_nil rfl (fS rfl) | exact a_lenE rfl rfl (fS rfl) (by exact rfl) | exact a_un rfl rfl | exact a_ne rfl rfl | exact a_cmp rfl rfl rfl trivial rfl | exact a_add rfl rfl (by omega) (by omega) | exact a_sub rfl rfl (by omega) (by omega) | exact a_neg rfl (by omega) (by omega) | exact a_conv64 rfl (fK rfl) (fK rfl) (by omega) (by omega) | exact a_min rfl rfl | exact a_max rfl rfl | exact a_iaE rfl rfl rfl (fS rfl) (by omega) (by omega) (by exact rfl) | exact a_iaO1 rfl rfl rfl (fS rfl) (by omega) (by omega) | exact a_iaO rfl rfl rfl (fS rfl) (by omega) (by omega) (by exact rfl) | exact a_ld_rowI rfl rfl rfl (fC rfl) (by omega) | exact a_build (fZ rfl) (fU rfl) rfl rfl | exact a_ifc rfl (fI rfl) | exact a_ifcs rfl (fI rfl) | exact a_fn rfl); exact rfl; exact rfl)
    | (apply ny3; exact rfl; exact rfl; (first | exact a_alloc (fZ rfl) rfl | exact a_box rfl | exact a_lit (fP rfl) (by decide) rfl (by decide) rfl rfl rfl); exact rfl; exact rfl)
    | (refine o_gs rfl rfl (fun hc => ?_) (fun hc => ?_) <;> (try simp only [decide_eq_true_eq, decide_eq_false_iff_not, Bool.not_eq_true', Bool.not_eq_false', Bool.not_eq_true, Bool.not_eq_false, Bool.and_eq_true, Bool.or_eq_false_iff, Bool.not_not] at hc) <;> (try (exfalso; omega)))
    | (refine g_cond rfl (fun hc => ?_) (fun hc => ?_) <;> (try simp only [decide_eq_true_eq, decide_eq_false_iff_not, Bool.not_eq_true', Bool.not_eq_false', Bool.not_eq_true, Bool.not_eq_false, Bool.and_eq_true, Bool.or_eq_false_iff, Bool.not_not] at hc) <;> (try (exfalso; omega)))
  · exact ends_r (.cons (.one rfl) .nil) (sle_i (by unfold szL at *; split at hc <;> simp_all <;> omega)) rfl
  · exact ends_r (.cons (.one rfl) .nil) (sle_i rfl) rfl
theorem toRule_ok (r : Rule') : Does Try.prog 92 [.agg (ruC r)] [] (.agg (ruC r)) [] := by
  refine does_of (k := 0) Try.func92 rfl Try.ntmps92 rfl rfl fun w F0 S0 ρ0 => ?_
  dsimp only [argT, argH]
  repeat' first
    | refine g_seq ?_
    | refine g_skip ?_
    | refine g_ret ?_
    | refine g_exit ?_
    | refine g_block ?_
    | refine g_reg ?_
    | refine g_if_t rfl ?_
    | refine g_if_f rfl ?_
    | refine o_nil ?_
    | refine q_s ?_
    | refine q_sr ?_
    | refine q_se ?_
    | refine q_b ?_
    | refine q_br ?_
    | refine q_be rfl ?_
    | refine q_bn rfl ?_
    | refine q_lr ?_
    | refine q_le ?_
    | refine q_cr ?_
    | refine q_ce ?_
    | (apply p3; (first | exact a_move (sv := .one _) rfl | exact a_move (sv := .agg _) rfl | exact a_move (sv := .tup _) rfl | exact a_assign (sv := .one _) rfl | exact a_assign (sv := .agg _) rfl | exact a_assign (sv := .tup _) rfl | exact a_pick (sv := .one _) rfl rfl | exact a_pick (sv := .agg _) rfl rfl | exact a_nil rfl rfl | exact a_fa_gp rfl (fF rfl) rfl | exact a_fa_gv rfl rfl (fF rfl) | exact a_fa_imm rfl (fF rfl) rfl | exact a_ld_bx rfl rfl rfl (fC rfl) rfl | exact a_ld_imm rfl (fC rfl) rfl | exact a_lds_bx rfl rfl rfl (fA rfl) (Nat.le_of_ble_eq_true rfl) rfl | exact a_lds_imm rfl (fA rfl) (Nat.le_of_ble_eq_true rfl) rfl | exact a_extract (sv := .one _) rfl rfl rfl | exact a_extract (sv := .agg _) rfl rfl rfl | exact a_len_nil rfl (fS rfl) | exact a_lenE rfl rfl (fS rfl) (by exact rfl) | exact a_un rfl rfl | exact a_ne rfl rfl | exact a_cmp rfl rfl rfl trivial rfl | exact a_add rfl rfl (by omega) (by omega) | exact a_sub rfl rfl (by omega) (by omega) | exact a_neg rfl (by omega) (by omega) | exact a_conv64 rfl (fK rfl) (fK rfl) (by omega) (by omega) | exact a_min rfl rfl | exact a_max rfl rfl | exact a_iaE rfl rfl rfl (fS rfl) (by omega) (by omega) (by exact rfl) | exact a_iaO1 rfl rfl rfl (fS rfl) (by omega) (by omega) | exact a_iaO rfl rfl rfl (fS rfl) (by omega) (by omega) (by exact rfl) | exact a_ld_rowI rfl rfl rfl (fC rfl) (by omega) | exact a_build (fZ rfl) (fU rfl) rfl rfl | exact a_ifc rfl (fI rfl) | exact a_ifcs rfl (fI rfl) | exact a_fn rfl); exact rfl)
    | (apply n3; (first | exact a_alloc (fZ rfl) rfl | exact a_box rfl | exact a_lit (fP rfl) (by decide) rfl (by decide) rfl rfl rfl); exact rfl)
    | (apply w3; (first | exact a_st_bx rfl rfl rfl rfl (fN rfl rfl) (Nat.le_of_ble_eq_true rfl) rfl | exact a_st_rowI rfl rfl rfl rfl (fN rfl rfl) (by omega)); exact rfl)
    | refine o_no rfl rfl rfl rfl ?_
    | (apply py3; exact rfl; exact rfl; (first | exact a_move (sv := .one _) rfl | exact a_move (sv := .agg _) rfl | exact a_move (sv := .tup _) rfl | exact a_assign (sv := .one _) rfl | exact a_assign (sv := .agg _) rfl | exact a_assign (sv := .tup _) rfl | exact a_pick (sv := .one _) rfl rfl | exact a_pick (sv := .agg _) rfl rfl | exact a_nil rfl rfl | exact a_fa_gp rfl (fF rfl) rfl | exact a_fa_gv rfl rfl (fF rfl) | exact a_fa_imm rfl (fF rfl) rfl | exact a_ld_bx rfl rfl rfl (fC rfl) rfl | exact a_ld_imm rfl (fC rfl) rfl | exact a_lds_bx rfl rfl rfl (fA rfl) (Nat.le_of_ble_eq_true rfl) rfl | exact a_lds_imm rfl (fA rfl) (Nat.le_of_ble_eq_true rfl) rfl | exact a_extract (sv := .one _) rfl rfl rfl | exact a_extract (sv := .agg _) rfl rfl rfl | exact a_len_nil rfl (fS rfl) | exact a_lenE rfl rfl (fS rfl) (by exact rfl) | exact a_un rfl rfl | exact a_ne rfl rfl | exact a_cmp rfl rfl rfl trivial rfl | exact a_add rfl rfl (by omega) (by omega) | exact a_sub rfl rfl (by omega) (by omega) | exact a_neg rfl (by omega) (by omega) | exact a_conv64 rfl (fK rfl) (fK rfl) (by omega) (by omega) | exact a_min rfl rfl | exact a_max rfl rfl | exact a_iaE rfl rfl rfl (fS rfl) (by omega) (by omega) (by exact rfl) | exact a_iaO1 rfl rfl rfl (fS rfl) (by omega) (by omega) | exact a_iaO rfl rfl rfl (fS rfl) (by omega) (by omega) (by exact rfl) | exact a_ld_rowI rfl rfl rfl (fC rfl) (by omega) | exact a_build (fZ rfl) (fU rfl) rfl rfl | exact a_ifc rfl (fI rfl) | exact a_ifcs rfl (fI rfl) | exact a_fn rfl); exact rfl; exact rfl)
    | (apply ny3; exact rfl; exact rfl; (first | exact a_alloc (fZ rfl) rfl | exact a_box rfl | exact a_lit (fP rfl) (by decide) rfl (by decide) rfl rfl rfl); exact rfl; exact rfl)
    | (refine o_gs rfl rfl (fun hc => ?_) (fun hc => ?_) <;> (try simp only [decide_eq_true_eq, decide_eq_false_iff_not, Bool.not_eq_true', Bool.not_eq_false', Bool.not_eq_true, Bool.not_eq_false, Bool.and_eq_true, Bool.or_eq_false_iff, Bool.not_not] at hc) <;> (try (exfalso; omega)))
    | (refine g_cond rfl (fun hc => ?_) (fun hc => ?_) <;> (try simp only [decide_eq_true_eq, decide_eq_false_iff_not, Bool.not_eq_true', Bool.not_eq_false', Bool.not_eq_true, Bool.not_eq_false, Bool.and_eq_true, Bool.or_eq_false_iff, Bool.not_not] at hc) <;> (try (exfalso; omega)))
  exact ends_r (.cons (.cells rfl rfl rfl (fA rfl) (Nat.le_of_ble_eq_true rfl) rfl) .nil) .refl rfl
theorem repR (n : Nat) : repRow (List.map scD [Value.int .i64 0, Value.int .i64 0, Value.int .i64 0]) n = rows eR (List.replicate n ⟨0, 0, 0⟩) := rows_rep eR ⟨0, 0, 0⟩ n
theorem toRuleS_ok (xs : List Rule') (hx : (xs.length : Int) ≤ 1048576) : Does Try.prog 49 [.one (shR xs)] [] (.one (.gv 0)) [.row 3 (rows eR xs)] := by
  refine does_of (k := 0) Try.func49 rfl Try.ntmps49 rfl rfl fun w F0 S0 ρ0 => ?_
  dsimp only [argT, argH]
  repeat' first
    | refine g_seq ?_
    | refine g_skip ?_
    | refine g_ret ?_
    | refine g_exit ?_
    | refine g_block ?_
    | refine g_reg ?_
    | refine g_if_t rfl ?_
    | refine g_if_f rfl ?_
    | refine o_nil ?_
    | refine q_s ?_
    | refine q_sr ?_
    | refine q_se ?_
    | refine q_b ?_
    | refine q_br ?_
    | refine q_be rfl ?_
    | refine q_bn rfl ?_
    | refine q_lr ?_
    | refine q_le ?_
    | refine q_cr ?_
    | refine q_ce ?_
    | (apply p3; (first | exact a_move (sv := .one _) rfl | exact a_move (sv := .agg _) rfl | exact a_move (sv := .tup _) rfl | exact a_assign (sv := .one _) rfl | exact a_assign (sv := .agg _) rfl | exact a_assign (sv := .tup _) rfl | exact a_pick (sv := .one _) rfl rfl | exact a_pick (sv := .agg _) rfl rfl | exact a_nil rfl rfl | exact a_fa_gp rfl (fF rfl) rfl | exact a_fa_gv rfl rfl (fF rfl) | exact a_fa_imm rfl (fF rfl) rfl | exact a_ld_bx rfl rfl rfl (fC rfl) rfl | exact a_ld_imm rfl (fC rfl) rfl | exact a_lds_bx rfl rfl rfl (fA rfl) (Nat.le_of_ble_eq_true rfl) rfl | exact a_lds_imm rfl (fA rfl) (Nat.le_of_ble_eq_true rfl) rfl | exact a_extract (sv := .one _) rfl rfl rfl | exact a_extract (sv := .agg _) rfl rfl rfl | exact a_len_nil rfl (fS rfl) | exact a_lenE rfl rfl (fS rfl) (by exact rfl) | exact a_un rfl rfl | exact a_ne rfl rfl | exact a_cmp rfl rfl rfl trivial rfl | exact a_add rfl rfl (by omega) (by omega) | exact a_sub rfl rfl (by omega) (by omega) | exact a_neg rfl (by omega) (by omega) | exact a_conv64 rfl (fK rfl) (fK rfl) (by omega) (by omega) | exact a_min rfl rfl | exact a_max rfl rfl | exact a_iaE rfl rfl rfl (fS rfl) (by omega) (by omega) (by exact rfl) | exact a_iaO1 rfl rfl rfl (fS rfl) (by omega) (by omega) | exact a_iaO rfl rfl rfl (fS rfl) (by omega) (by omega) (by exact rfl) | exact a_ld_rowI rfl rfl rfl (fC rfl) (by omega) | exact a_build (fZ rfl) (fU rfl) rfl rfl | exact a_ifc rfl (fI rfl) | exact a_ifcs rfl (fI rfl) | exact a_fn rfl); exact rfl)
    | (apply n3; (first | exact a_alloc (fZ rfl) rfl | exact a_box rfl | exact a_lit (fP rfl) (by decide) rfl (by decide) rfl rfl rfl); exact rfl)
    | (apply w3; (first | exact a_st_bx rfl rfl rfl rfl (fN rfl rfl) (Nat.le_of_ble_eq_true rfl) rfl | exact a_st_rowI rfl rfl rfl rfl (fN rfl rfl) (by omega)); exact rfl)
    | refine o_no rfl rfl rfl rfl ?_
    | (apply py3; exact rfl; exact rfl; (first | exact a_move (sv := .one _) rfl | exact a_move (sv := .agg _) rfl | exact a_move (sv := .tup _) rfl | exact a_assign (sv := .one _) rfl | exact a_assign (sv := .agg _) rfl | exact a_assign (sv := .tup _) rfl | exact a_pick (sv := .one _) rfl rfl | exact a_pick (sv := .agg _) rfl rfl | exact a_nil rfl rfl | exact a_fa_gp rfl (fF rfl) rfl | exact a_fa_gv rfl rfl (fF rfl) | exact a_fa_imm rfl (fF rfl) rfl | exact a_ld_bx rfl rfl rfl (fC rfl) rfl | exact a_ld_imm rfl (fC rfl) rfl | exact a_lds_bx rfl rfl rfl (fA rfl) (Nat.le_of_ble_eq_true rfl) rfl | exact a_lds_imm rfl (fA rfl) (Nat.le_of_ble_eq_true rfl) rfl | exact a_extract (sv := .one _) rfl rfl rfl | exact a_extract (sv := .agg _) rfl rfl rfl | exact a_len_nil rfl (fS rfl) | exact a_lenE rfl rfl (fS rfl) (by exact rfl) | exact a_un rfl rfl | exact a_ne rfl rfl | exact a_cmp rfl rfl rfl trivial rfl | exact a_add rfl rfl (by omega) (by omega) | exact a_sub rfl rfl (by omega) (by omega) | exact a_neg rfl (by omega) (by omega) | exact a_conv64 rfl (fK rfl) (fK rfl) (by omega) (by omega) | exact a_min rfl rfl | exact a_max rfl rfl | exact a_iaE rfl rfl rfl (fS rfl) (by omega) (by omega) (by exact rfl) | exact a_iaO1 rfl rfl rfl (fS rfl) (by omega) (by omega) | exact a_iaO rfl rfl rfl (fS rfl) (by omega) (by omega) (by exact rfl) | exact a_ld_rowI rfl rfl rfl (fC rfl) (by omega) | exact a_build (fZ rfl) (fU rfl) rfl rfl | exact a_ifc rfl (fI rfl) | exact a_ifcs rfl (fI rfl) | exact a_fn rfl); exact rfl; exact rfl)
    | (apply ny3; exact rfl; exact rfl; (first | exact a_alloc (fZ rfl) rfl | exact a_box rfl | exact a_lit (fP rfl) (by decide) rfl (by decide) rfl rfl rfl); exact rfl; exact rfl)
    | (refine o_gs rfl rfl (fun hc => ?_) (fun hc => ?_) <;> (try simp only [decide_eq_true_eq, decide_eq_false_iff_not, Bool.not_eq_true', Bool.not_eq_false', Bool.not_eq_true, Bool.not_eq_false, Bool.and_eq_true, Bool.or_eq_false_iff, Bool.not_not] at hc) <;> (try (exfalso; omega)))
    | (refine g_cond rfl (fun hc => ?_) (fun hc => ?_) <;> (try simp only [decide_eq_true_eq, decide_eq_false_iff_not, Bool.not_eq_true', Bool.not_eq_false', Bool.not_eq_true, Bool.not_eq_false, Bool.and_eq_true, Bool.or_eq_false_iff, Bool.not_not] at hc) <;> (try (exfalso; omega)))
  apply n3
  exact a_make (fE rfl) (fZ rfl) (fP rfl) (by decide) rfl rfl (by omega) rfl (by omega) (by omega) (repR _)
  exact rfl
  repeat' first
    | refine g_seq ?_
    | refine g_skip ?_
    | refine g_ret ?_
    | refine g_exit ?_
    | refine g_block ?_
    | refine g_reg ?_
    | refine g_if_t rfl ?_
    | refine g_if_f rfl ?_
    | refine o_nil ?_
    | refine q_s ?_
    | refine q_sr ?_
    | refine q_se ?_
    | refine q_b ?_
    | refine q_br ?_
    | refine q_be rfl ?_
    | refine q_bn rfl ?_
    | refine q_lr ?_
    | refine q_le ?_
    | refine q_cr ?_
    | refine q_ce ?_
    | (apply p3; (first | exact a_move (sv := .one _) rfl | exact a_move (sv := .agg _) rfl | exact a_move (sv := .tup _) rfl | exact a_assign (sv := .one _) rfl | exact a_assign (sv := .agg _) rfl | exact a_assign (sv := .tup _) rfl | exact a_pick (sv := .one _) rfl rfl | exact a_pick (sv := .agg _) rfl rfl | exact a_nil rfl rfl | exact a_fa_gp rfl (fF rfl) rfl | exact a_fa_gv rfl rfl (fF rfl) | exact a_fa_imm rfl (fF rfl) rfl | exact a_ld_bx rfl rfl rfl (fC rfl) rfl | exact a_ld_imm rfl (fC rfl) rfl | exact a_lds_bx rfl rfl rfl (fA rfl) (Nat.le_of_ble_eq_true rfl) rfl | exact a_lds_imm rfl (fA rfl) (Nat.le_of_ble_eq_true rfl) rfl | exact a_extract (sv := .one _) rfl rfl rfl | exact a_extract (sv := .agg _) rfl rfl rfl | exact a_len_nil rfl (fS rfl) | exact a_lenE rfl rfl (fS rfl) (by exact rfl) | exact a_un rfl rfl | exact a_ne rfl rfl | exact a_cmp rfl rfl rfl trivial rfl | exact a_add rfl rfl (by omega) (by omega) | exact a_sub rfl rfl (by omega) (by omega) | exact a_neg rfl (by omega) (by omega) | exact a_conv64 rfl (fK rfl) (fK rfl) (by omega) (by omega) | exact a_min rfl rfl | exact a_max rfl rfl | exact a_iaE rfl rfl rfl (fS rfl) (by omega) (by omega) (by exact rfl) | exact a_iaO1 rfl rfl rfl (fS rfl) (by omega) (by omega) | exact a_iaO rfl rfl rfl (fS rfl) (by omega) (by omega) (by exact rfl) | exact a_ld_rowI rfl rfl rfl (fC rfl) (by omega) | exact a_build (fZ rfl) (fU rfl) rfl rfl | exact a_ifc rfl (fI rfl) | exact a_ifcs rfl (fI rfl) | exact a_fn rfl); exact rfl)
    | (apply n3; (first | exact a_alloc (fZ rfl) rfl | exact a_box rfl | exact a_lit (fP rfl) (by decide) rfl (by decide) rfl rfl rfl); exact rfl)
    | (apply w3; (first | exact a_st_bx rfl rfl rfl rfl (fN rfl rfl) (Nat.le_of_ble_eq_true rfl) rfl | exact a_st_rowI rfl rfl rfl rfl (fN rfl rfl) (by omega)); exact rfl)
    | refine o_no rfl rfl rfl rfl ?_
    | (apply py3; exact rfl; exact rfl; (first | exact a_move (sv := .one _) rfl | exact a_move (sv := .agg _) rfl | exact a_move (sv := .tup _) rfl | exact a_assign (sv := .one _) rfl | exact a_assign (sv := .agg _) rfl | exact a_assign (sv := .tup _) rfl | exact a_pick (sv := .one _) rfl rfl | exact a_pick (sv := .agg _) rfl rfl | exact a_nil rfl rfl | exact a_fa_gp rfl (fF rfl) rfl | exact a_fa_gv rfl rfl (fF rfl) | exact a_fa_imm rfl (fF rfl) rfl | exact a_ld_bx rfl rfl rfl (fC rfl) rfl | exact a_ld_imm rfl (fC rfl) rfl | exact a_lds_bx rfl rfl rfl (fA rfl) (Nat.le_of_ble_eq_true rfl) rfl | exact a_lds_imm rfl (fA rfl) (Nat.le_of_ble_eq_true rfl) rfl | exact a_extract (sv := .one _) rfl rfl rfl | exact a_extract (sv := .agg _) rfl rfl rfl | exact a_len_nil rfl (fS rfl) | exact a_lenE rfl rfl (fS rfl) (by exact rfl) | exact a_un rfl rfl | exact a_ne rfl rfl | exact a_cmp rfl rfl rfl trivial rfl | exact a_add rfl rfl (by omega) (by omega) | exact a_sub rfl rfl (by omega) (by omega) | exact a_neg rfl (by omega) (by omega) | exact a_conv64 rfl (fK rfl) (fK rfl) (by omega) (by omega) | exact a_min rfl rfl | exact a_max rfl rfl | exact a_iaE rfl rfl rfl (fS rfl) (by omega) (by omega) (by exact rfl) | exact a_iaO1 rfl rfl rfl (fS rfl) (by omega) (by omega) | exact a_iaO rfl rfl rfl (fS rfl) (by omega) (by omega) (by exact rfl) | exact a_ld_rowI rfl rfl rfl (fC rfl) (by omega) | exact a_build (fZ rfl) (fU rfl) rfl rfl | exact a_ifc rfl (fI rfl) | exact a_ifcs rfl (fI rfl) | exact a_fn rfl); exact rfl; exact rfl)
    | (apply ny3; exact rfl; exact rfl; (first | exact a_alloc (fZ rfl) rfl | exact a_box rfl | exact a_lit (fP rfl) (by decide) rfl (by decide) rfl rfl rfl); exact rfl; exact rfl)
    | (refine o_gs rfl rfl (fun hc => ?_) (fun hc => ?_) <;> (try simp only [decide_eq_true_eq, decide_eq_false_iff_not, Bool.not_eq_true', Bool.not_eq_false', Bool.not_eq_true, Bool.not_eq_false, Bool.and_eq_true, Bool.or_eq_false_iff, Bool.not_not] at hc) <;> (try (exfalso; omega)))
    | (refine g_cond rfl (fun hc => ?_) (fun hc => ?_) <;> (try simp only [decide_eq_true_eq, decide_eq_false_iff_not, Bool.not_eq_true', Bool.not_eq_false', Bool.not_eq_true, Bool.not_eq_false, Bool.and_eq_true, Bool.or_eq_false_iff, Bool.not_not] at hc) <;> (try (exfalso; omega)))
  refine g_loop (α := Int × List Rule') (fun x => 0 ≤ x.1 ∧ x.1 ≤ xs.length ∧ x.2.length = xs.length ∧ ∀ k (h : k < xs.length), k < x.1 → x.2[k]? = some xs[k]) (fun x => ⟨[(0, .one (shR xs)), (3, .one (.gv 0)), (4, .one (int x.1))], [(0, .row 3 (rows eR x.2))], 1⟩) (fun x => (xs.length - x.1).toNat) (0, List.replicate xs.length ⟨0, 0, 0⟩) [0] ⟨by simp, by simp, by simp, by intro k h h'; simp at h'; omega⟩ ?_ ?_
  · exact ⟨rfl, rfl, rfl, by repeat (first | exact trivial | refine And.intro ?_ ?_ | exact SVLe.refl | exact SVLe.any | exact SVLe.one (.sh rfl) | exact SVLe.one (.nil (by decide))), by repeat (first | exact trivial | refine And.intro ?_ ?_ | exact rfl), rfl, rfl⟩
  · rintro ⟨i, l⟩ ⟨h0, h1, h2, h3⟩
    dsimp only at h0 h1 h2 h3 ⊢
    repeat' first
      | refine g_seq ?_
      | refine g_skip ?_
      | refine g_ret ?_
      | refine g_exit ?_
      | refine g_block ?_
      | refine g_reg ?_
      | refine g_if_t rfl ?_
      | refine g_if_f rfl ?_
      | refine o_nil ?_
      | refine q_s ?_
      | refine q_sr ?_
      | refine q_se ?_
      | refine q_b ?_
      | refine q_br ?_
      | refine q_be rfl ?_
      | refine q_bn rfl ?_
      | refine q_lr ?_
      | refine q_le ?_
      | refine q_cr ?_
      | refine q_ce ?_
      | (apply p3; (first | exact a_move (sv := .one _) rfl | exact a_move (sv := .agg _) rfl | exact a_move (sv := .tup _) rfl | exact a_assign (sv := .one _) rfl | exact a_assign (sv := .agg _) rfl | exact a_assign (sv := .tup _) rfl | exact a_pick (sv := .one _) rfl rfl | exact a_pick (sv := .agg _) rfl rfl | exact a_nil rfl rfl | exact a_fa_gp rfl (fF rfl) rfl | exact a_fa_gv rfl rfl (fF rfl) | exact a_fa_imm rfl (fF rfl) rfl | exact a_ld_bx rfl rfl rfl (fC rfl) rfl | exact a_ld_imm rfl (fC rfl) rfl | exact a_lds_bx rfl rfl rfl (fA rfl) (Nat.le_of_ble_eq_true rfl) rfl | exact a_lds_imm rfl (fA rfl) (Nat.le_of_ble_eq_true rfl) rfl | exact a_extract (sv := .one _) rfl rfl rfl | exact a_extract (sv := .agg _) rfl rfl rfl | exact a_len_nil rfl (fS rfl) | exact a_lenE rfl rfl (fS rfl) (by exact rfl) | exact a_un rfl rfl | exact a_ne rfl rfl | exact a_cmp rfl rfl rfl trivial rfl | exact a_add rfl rfl (by omega) (by omega) | exact a_sub rfl rfl (by omega) (by omega) | exact a_neg rfl (by omega) (by omega) | exact a_conv64 rfl (fK rfl) (fK rfl) (by omega) (by omega) | exact a_min rfl rfl | exact a_max rfl rfl | exact a_iaE rfl rfl rfl (fS rfl) (by omega) (by omega) (by exact rfl) | exact a_iaO1 rfl rfl rfl (fS rfl) (by omega) (by omega) | exact a_iaO rfl rfl rfl (fS rfl) (by omega) (by omega) (by exact rfl) | exact a_ld_rowI rfl rfl rfl (fC rfl) (by omega) | exact a_build (fZ rfl) (fU rfl) rfl rfl | exact a_ifc rfl (fI rfl) | exact a_ifcs rfl (fI rfl) | exact a_fn rfl); exact rfl)
      | (apply n3; (first | exact a_alloc (fZ rfl) rfl | exact a_box rfl | exact a_lit (fP rfl) (by decide) rfl (by decide) rfl rfl rfl); exact rfl)
      | (apply w3; (first | exact a_st_bx rfl rfl rfl rfl (fN rfl rfl) (Nat.le_of_ble_eq_true rfl) rfl | exact a_st_rowI rfl rfl rfl rfl (fN rfl rfl) (by omega)); exact rfl)
      | refine o_no rfl rfl rfl rfl ?_
      | (apply py3; exact rfl; exact rfl; (first | exact a_move (sv := .one _) rfl | exact a_move (sv := .agg _) rfl | exact a_move (sv := .tup _) rfl | exact a_assign (sv := .one _) rfl | exact a_assign (sv := .agg _) rfl | exact a_assign (sv := .tup _) rfl | exact a_pick (sv := .one _) rfl rfl | exact a_pick (sv := .agg _) rfl rfl | exact a_nil rfl rfl | exact a_fa_gp rfl (fF rfl) rfl | exact a_fa_gv rfl rfl (fF rfl) | exact a_fa_imm rfl (fF rfl) rfl | exact a_ld_bx rfl rfl rfl (fC rfl) rfl | exact a_ld_imm rfl (fC rfl) rfl | exact a_lds_bx rfl rfl rfl (fA rfl) (Nat.le_of_ble_eq_true rfl) rfl | exact a_lds_imm rfl (fA rfl) (Nat.le_of_ble_eq_true rfl) rfl | exact a_extract (sv := .one _) rfl rfl rfl | exact a_extract (sv := .agg _) rfl rfl rfl | exact a_len_nil rfl (fS rfl) | exact a_lenE rfl rfl (fS rfl) (by exact rfl) | exact a_un rfl rfl | exact a_ne rfl rfl | exact a_cmp rfl rfl rfl trivial rfl | exact a_add rfl rfl (by omega) (by omega) | exact a_sub rfl rfl (by omega) (by omega) | exact a_neg rfl (by omega) (by omega) | exact a_conv64 rfl (fK rfl) (fK rfl) (by omega) (by omega) | exact a_min rfl rfl | exact a_max rfl rfl | exact a_iaE rfl rfl rfl (fS rfl) (by omega) (by omega) (by exact rfl) | exact a_iaO1 rfl rfl rfl (fS rfl) (by omega) (by omega) | exact a_iaO rfl rfl rfl (fS rfl) (by omega) (by omega) (by exact rfl) | exact a_ld_rowI rfl rfl rfl (fC rfl) (by omega) | exact a_build (fZ rfl) (fU rfl) rfl rfl | exact a_ifc rfl (fI rfl) | exact a_ifcs rfl (fI rfl) | exact a_fn rfl); exact rfl; exact rfl)
      | (apply ny3; exact rfl; exact rfl; (first | exact a_alloc (fZ rfl) rfl | exact a_box rfl | exact a_lit (fP rfl) (by decide) rfl (by decide) rfl rfl rfl); exact rfl; exact rfl)
      | (refine o_gs rfl rfl (fun hc => ?_) (fun hc => ?_) <;> (try simp only [decide_eq_true_eq, decide_eq_false_iff_not, Bool.not_eq_true', Bool.not_eq_false', Bool.not_eq_true, Bool.not_eq_false, Bool.and_eq_true, Bool.or_eq_false_iff, Bool.not_not] at hc) <;> (try (exfalso; omega)))
      | (refine g_cond rfl (fun hc => ?_) (fun hc => ?_) <;> (try simp only [decide_eq_true_eq, decide_eq_false_iff_not, Bool.not_eq_true', Bool.not_eq_false', Bool.not_eq_true, Bool.not_eq_false, Bool.and_eq_true, Bool.or_eq_false_iff, Bool.not_not] at hc) <;> (try (exfalso; omega)))
    · apply c3 (n' := _) (θ := [])
      exact a_callS (θ := []) (ld := []) (toRule_ok (xs[i.toNat]'(by omega))) rfl rfl (fQ rfl) (by repeat (first | exact ASLe.nil | refine ASLe.cons ?_ ?_ | exact SVLe.refl | exact SVLe.one (.sh rfl) | exact SVLe.one (.nil (by decide)) | exact SVLe.one (.lend (by simp) rfl (noOwnI _)) | exact SVLe.one (.lend (by simp) rfl (noOwnR _)) | exact SVLe.agg (by repeat (first | exact CsLe.nil | refine CsLe.cons ?_ ?_ | exact CLe.refl | exact CLe.sh rfl | exact CLe.nil (by decide) | exact CLe.lend (by simp) rfl (noOwnI _) | exact CLe.lend (by simp) rfl (noOwnR _))))) (by repeat (first | exact trivial | refine And.intro ?_ ?_ | exact rfl)) rfl rfl rfl rfl (.inl rfl) rfl rfl rfl rfl
      exact rfl
      exact rfl
      · (repeat (first | exact Nat.le_refl _ | refine And.intro ?_ ?_ | exact Nat.le_of_ble_eq_true rfl | exact .inr ⟨Nat.le_of_ble_eq_true rfl, Nat.le_of_ble_eq_true rfl⟩ | exact .inl (by simp)))
      try dsimp only [SV.ren, C.ren, C.ren.all, tRen, GB.ren, calF, upOf, List.cons_append, List.nil_append, Nat.reduceAdd]
      repeat' first
        | refine g_seq ?_
        | refine g_skip ?_
        | refine g_ret ?_
        | refine g_exit ?_
        | refine g_block ?_
        | refine g_reg ?_
        | refine g_if_t rfl ?_
        | refine g_if_f rfl ?_
        | refine o_nil ?_
        | refine q_s ?_
        | refine q_sr ?_
        | refine q_se ?_
        | refine q_b ?_
        | refine q_br ?_
        | refine q_be rfl ?_
        | refine q_bn rfl ?_
        | refine q_lr ?_
        | refine q_le ?_
        | refine q_cr ?_
        | refine q_ce ?_
        | (apply p3; (first | exact a_move (sv := .one _) rfl | exact a_move (sv := .agg _) rfl | exact a_move (sv := .tup _) rfl | exact a_assign (sv := .one _) rfl | exact a_assign (sv := .agg _) rfl | exact a_assign (sv := .tup _) rfl | exact a_pick (sv := .one _) rfl rfl | exact a_pick (sv := .agg _) rfl rfl | exact a_nil rfl rfl | exact a_fa_gp rfl (fF rfl) rfl | exact a_fa_gv rfl rfl (fF rfl) | exact a_fa_imm rfl (fF rfl) rfl | exact a_ld_bx rfl rfl rfl (fC rfl) rfl | exact a_ld_imm rfl (fC rfl) rfl | exact a_lds_bx rfl rfl rfl (fA rfl) (Nat.le_of_ble_eq_true rfl) rfl | exact a_lds_imm rfl (fA rfl) (Nat.le_of_ble_eq_true rfl) rfl | exact a_extract (sv := .one _) rfl rfl rfl | exact a_extract (sv := .agg _) rfl rfl rfl | exact a_len_nil rfl (fS rfl) | exact a_lenE rfl rfl (fS rfl) (by exact rfl) | exact a_un rfl rfl | exact a_ne rfl rfl | exact a_cmp rfl rfl rfl trivial rfl | exact a_add rfl rfl (by omega) (by omega) | exact a_sub rfl rfl (by omega) (by omega) | exact a_neg rfl (by omega) (by omega) | exact a_conv64 rfl (fK rfl) (fK rfl) (by omega) (by omega) | exact a_min rfl rfl | exact a_max rfl rfl | exact a_iaE rfl rfl rfl (fS rfl) (by omega) (by omega) (by exact rfl) | exact a_iaO1 rfl rfl rfl (fS rfl) (by omega) (by omega) | exact a_iaO rfl rfl rfl (fS rfl) (by omega) (by omega) (by exact rfl) | exact a_ld_rowI rfl rfl rfl (fC rfl) (by omega) | exact a_build (fZ rfl) (fU rfl) rfl rfl | exact a_ifc rfl (fI rfl) | exact a_ifcs rfl (fI rfl) | exact a_fn rfl); exact rfl)
        | (apply n3; (first | exact a_alloc (fZ rfl) rfl | exact a_box rfl | exact a_lit (fP rfl) (by decide) rfl (by decide) rfl rfl rfl); exact rfl)
        | (apply w3; (first | exact a_st_bx rfl rfl rfl rfl (fN rfl rfl) (Nat.le_of_ble_eq_true rfl) rfl | exact a_st_rowI rfl rfl rfl rfl (fN rfl rfl) (by omega)); exact rfl)
        | refine o_no rfl rfl rfl rfl ?_
        | (apply py3; exact rfl; exact rfl; (first | exact a_move (sv := .one _) rfl | exact a_move (sv := .agg _) rfl | exact a_move (sv := .tup _) rfl | exact a_assign (sv := .one _) rfl | exact a_assign (sv := .agg _) rfl | exact a_assign (sv := .tup _) rfl | exact a_pick (sv := .one _) rfl rfl | exact a_pick (sv := .agg _) rfl rfl | exact a_nil rfl rfl | exact a_fa_gp rfl (fF rfl) rfl | exact a_fa_gv rfl rfl (fF rfl) | exact a_fa_imm rfl (fF rfl) rfl | exact a_ld_bx rfl rfl rfl (fC rfl) rfl | exact a_ld_imm rfl (fC rfl) rfl | exact a_lds_bx rfl rfl rfl (fA rfl) (Nat.le_of_ble_eq_true rfl) rfl | exact a_lds_imm rfl (fA rfl) (Nat.le_of_ble_eq_true rfl) rfl | exact a_extract (sv := .one _) rfl rfl rfl | exact a_extract (sv := .agg _) rfl rfl rfl | exact a_len_nil rfl (fS rfl) | exact a_lenE rfl rfl (fS rfl) (by exact rfl) | exact a_un rfl rfl | exact a_ne rfl rfl | exact a_cmp rfl rfl rfl trivial rfl | exact a_add rfl rfl (by omega) (by omega) | exact a_sub rfl rfl (by omega) (by omega) | exact a_neg rfl (by omega) (by omega) | exact a_conv64 rfl (fK rfl) (fK rfl) (by omega) (by omega) | exact a_min rfl rfl | exact a_max rfl rfl | exact a_iaE rfl rfl rfl (fS rfl) (by omega) (by omega) (by exact rfl) | exact a_iaO1 rfl rfl rfl (fS rfl) (by omega) (by omega) | exact a_iaO rfl rfl rfl (fS rfl) (by omega) (by omega) (by exact rfl) | exact a_ld_rowI rfl rfl rfl (fC rfl) (by omega) | exact a_build (fZ rfl) (fU rfl) rfl rfl | exact a_ifc rfl (fI rfl) | exact a_ifcs rfl (fI rfl) | exact a_fn rfl); exact rfl; exact rfl)
        | (apply ny3; exact rfl; exact rfl; (first | exact a_alloc (fZ rfl) rfl | exact a_box rfl | exact a_lit (fP rfl) (by decide) rfl (by decide) rfl rfl rfl); exact rfl; exact rfl)
        | (refine o_gs rfl rfl (fun hc => ?_) (fun hc => ?_) <;> (try simp only [decide_eq_true_eq, decide_eq_false_iff_not, Bool.not_eq_true', Bool.not_eq_false', Bool.not_eq_true, Bool.not_eq_false, Bool.and_eq_true, Bool.or_eq_false_iff, Bool.not_not] at hc) <;> (try (exfalso; omega)))
        | (refine g_cond rfl (fun hc => ?_) (fun hc => ?_) <;> (try simp only [decide_eq_true_eq, decide_eq_false_iff_not, Bool.not_eq_true', Bool.not_eq_false', Bool.not_eq_true, Bool.not_eq_false, Bool.and_eq_true, Bool.or_eq_false_iff, Bool.not_not] at hc) <;> (try (exfalso; omega)))
      apply w3
      exact a_stE (xs[i.toNat]'(by omega)) rfl rfl rfl rfl (fN rfl rfl) (by omega) (by exact rfl)
      exact rfl
      repeat' first
        | refine g_seq ?_
        | refine g_skip ?_
        | refine g_ret ?_
        | refine g_exit ?_
        | refine g_block ?_
        | refine g_reg ?_
        | refine g_if_t rfl ?_
        | refine g_if_f rfl ?_
        | refine o_nil ?_
        | refine q_s ?_
        | refine q_sr ?_
        | refine q_se ?_
        | refine q_b ?_
        | refine q_br ?_
        | refine q_be rfl ?_
        | refine q_bn rfl ?_
        | refine q_lr ?_
        | refine q_le ?_
        | refine q_cr ?_
        | refine q_ce ?_
        | (apply p3; (first | exact a_move (sv := .one _) rfl | exact a_move (sv := .agg _) rfl | exact a_move (sv := .tup _) rfl | exact a_assign (sv := .one _) rfl | exact a_assign (sv := .agg _) rfl | exact a_assign (sv := .tup _) rfl | exact a_pick (sv := .one _) rfl rfl | exact a_pick (sv := .agg _) rfl rfl | exact a_nil rfl rfl | exact a_fa_gp rfl (fF rfl) rfl | exact a_fa_gv rfl rfl (fF rfl) | exact a_fa_imm rfl (fF rfl) rfl | exact a_ld_bx rfl rfl rfl (fC rfl) rfl | exact a_ld_imm rfl (fC rfl) rfl | exact a_lds_bx rfl rfl rfl (fA rfl) (Nat.le_of_ble_eq_true rfl) rfl | exact a_lds_imm rfl (fA rfl) (Nat.le_of_ble_eq_true rfl) rfl | exact a_extract (sv := .one _) rfl rfl rfl | exact a_extract (sv := .agg _) rfl rfl rfl | exact a_len_nil rfl (fS rfl) | exact a_lenE rfl rfl (fS rfl) (by exact rfl) | exact a_un rfl rfl | exact a_ne rfl rfl | exact a_cmp rfl rfl rfl trivial rfl | exact a_add rfl rfl (by omega) (by omega) | exact a_sub rfl rfl (by omega) (by omega) | exact a_neg rfl (by omega) (by omega) | exact a_conv64 rfl (fK rfl) (fK rfl) (by omega) (by omega) | exact a_min rfl rfl | exact a_max rfl rfl | exact a_iaE rfl rfl rfl (fS rfl) (by omega) (by omega) (by exact rfl) | exact a_iaO1 rfl rfl rfl (fS rfl) (by omega) (by omega) | exact a_iaO rfl rfl rfl (fS rfl) (by omega) (by omega) (by exact rfl) | exact a_ld_rowI rfl rfl rfl (fC rfl) (by omega) | exact a_build (fZ rfl) (fU rfl) rfl rfl | exact a_ifc rfl (fI rfl) | exact a_ifcs rfl (fI rfl) | exact a_fn rfl); exact rfl)
        | (apply n3; (first | exact a_alloc (fZ rfl) rfl | exact a_box rfl | exact a_lit (fP rfl) (by decide) rfl (by decide) rfl rfl rfl); exact rfl)
        | (apply w3; (first | exact a_st_bx rfl rfl rfl rfl (fN rfl rfl) (Nat.le_of_ble_eq_true rfl) rfl | exact a_st_rowI rfl rfl rfl rfl (fN rfl rfl) (by omega)); exact rfl)
        | refine o_no rfl rfl rfl rfl ?_
        | (apply py3; exact rfl; exact rfl; (first | exact a_move (sv := .one _) rfl | exact a_move (sv := .agg _) rfl | exact a_move (sv := .tup _) rfl | exact a_assign (sv := .one _) rfl | exact a_assign (sv := .agg _) rfl | exact a_assign (sv := .tup _) rfl | exact a_pick (sv := .one _) rfl rfl | exact a_pick (sv := .agg _) rfl rfl | exact a_nil rfl rfl | exact a_fa_gp rfl (fF rfl) rfl | exact a_fa_gv rfl rfl (fF rfl) | exact a_fa_imm rfl (fF rfl) rfl | exact a_ld_bx rfl rfl rfl (fC rfl) rfl | exact a_ld_imm rfl (fC rfl) rfl | exact a_lds_bx rfl rfl rfl (fA rfl) (Nat.le_of_ble_eq_true rfl) rfl | exact a_lds_imm rfl (fA rfl) (Nat.le_of_ble_eq_true rfl) rfl | exact a_extract (sv := .one _) rfl rfl rfl | exact a_extract (sv := .agg _) rfl rfl rfl | exact a_len_nil rfl (fS rfl) | exact a_lenE rfl rfl (fS rfl) (by exact rfl) | exact a_un rfl rfl | exact a_ne rfl rfl | exact a_cmp rfl rfl rfl trivial rfl | exact a_add rfl rfl (by omega) (by omega) | exact a_sub rfl rfl (by omega) (by omega) | exact a_neg rfl (by omega) (by omega) | exact a_conv64 rfl (fK rfl) (fK rfl) (by omega) (by omega) | exact a_min rfl rfl | exact a_max rfl rfl | exact a_iaE rfl rfl rfl (fS rfl) (by omega) (by omega) (by exact rfl) | exact a_iaO1 rfl rfl rfl (fS rfl) (by omega) (by omega) | exact a_iaO rfl rfl rfl (fS rfl) (by omega) (by omega) (by exact rfl) | exact a_ld_rowI rfl rfl rfl (fC rfl) (by omega) | exact a_build (fZ rfl) (fU rfl) rfl rfl | exact a_ifc rfl (fI rfl) | exact a_ifcs rfl (fI rfl) | exact a_fn rfl); exact rfl; exact rfl)
        | (apply ny3; exact rfl; exact rfl; (first | exact a_alloc (fZ rfl) rfl | exact a_box rfl | exact a_lit (fP rfl) (by decide) rfl (by decide) rfl rfl rfl); exact rfl; exact rfl)
        | (refine o_gs rfl rfl (fun hc => ?_) (fun hc => ?_) <;> (try simp only [decide_eq_true_eq, decide_eq_false_iff_not, Bool.not_eq_true', Bool.not_eq_false', Bool.not_eq_true, Bool.not_eq_false, Bool.and_eq_true, Bool.or_eq_false_iff, Bool.not_not] at hc) <;> (try (exfalso; omega)))
        | (refine g_cond rfl (fun hc => ?_) (fun hc => ?_) <;> (try simp only [decide_eq_true_eq, decide_eq_false_iff_not, Bool.not_eq_true', Bool.not_eq_false', Bool.not_eq_true, Bool.not_eq_false, Bool.and_eq_true, Bool.or_eq_false_iff, Bool.not_not] at hc) <;> (try (exfalso; omega)))
      refine .again (i + 1, l.set i.toNat (xs[i.toNat]'(by omega))) [0] ⟨by dsimp only; omega, by dsimp only; omega, by simp [h2], ?_⟩ (by dsimp only; omega) ?_
      · intro k h h'
        dsimp only at h' ⊢
        rw [List.getElem?_set]
        split
        · rename_i e
          subst e
          rw [if_pos (by omega)]
        · exact h3 k h (by omega)
      · exact ⟨rfl, rfl, rfl, by repeat (first | exact trivial | refine And.intro ?_ ?_ | exact SVLe.refl | exact SVLe.any | exact SVLe.one (.sh rfl) | exact SVLe.one (.nil (by decide))), by repeat (first | exact trivial | refine And.intro ?_ ?_ | exact rfl), rfl, rfl⟩
    · have hl : l = xs := by
        apply List.ext_getElem?
        intro k
        by_cases hk : k < xs.length
        · rw [h3 k hk (by omega), List.getElem?_eq_getElem hk]
        · rw [List.getElem?_eq_none (by omega), List.getElem?_eq_none (by omega)]
      subst hl
      exact ends1 0 (.cons (.one rfl) .nil) .refl rfl rfl rfl
/-- A machine with own rules. -/
abbrev maO (m : Mach) (g : Nat) : List C := [int m.sy, int m.st, .gv g]
theorem toMachine_ok (m : Mach) (hx : (m.ru.length : Int) ≤ 1048576) : Does Try.prog 13 [.agg (maC m)] [] (.agg (maO m 0)) [.row 3 (rows eR m.ru)] := by
  refine does_of (k := 0) Try.func13 rfl Try.ntmps13 rfl rfl fun w F0 S0 ρ0 => ?_
  dsimp only [argT, argH]
  repeat' first
    | refine g_seq ?_
    | refine g_skip ?_
    | refine g_ret ?_
    | refine g_exit ?_
    | refine g_block ?_
    | refine g_reg ?_
    | refine g_if_t rfl ?_
    | refine g_if_f rfl ?_
    | refine o_nil ?_
    | refine q_s ?_
    | refine q_sr ?_
    | refine q_se ?_
    | refine q_b ?_
    | refine q_br ?_
    | refine q_be rfl ?_
    | refine q_bn rfl ?_
    | refine q_lr ?_
    | refine q_le ?_
    | refine q_cr ?_
    | refine q_ce ?_
    | (apply p3; (first | exact a_move (sv := .one _) rfl | exact a_move (sv := .agg _) rfl | exact a_move (sv := .tup _) rfl | exact a_assign (sv := .one _) rfl | exact a_assign (sv := .agg _) rfl | exact a_assign (sv := .tup _) rfl | exact a_pick (sv := .one _) rfl rfl | exact a_pick (sv := .agg _) rfl rfl | exact a_nil rfl rfl | exact a_fa_gp rfl (fF rfl) rfl | exact a_fa_gv rfl rfl (fF rfl) | exact a_fa_imm rfl (fF rfl) rfl | exact a_ld_bx rfl rfl rfl (fC rfl) rfl | exact a_ld_imm rfl (fC rfl) rfl | exact a_lds_bx rfl rfl rfl (fA rfl) (Nat.le_of_ble_eq_true rfl) rfl | exact a_lds_imm rfl (fA rfl) (Nat.le_of_ble_eq_true rfl) rfl | exact a_extract (sv := .one _) rfl rfl rfl | exact a_extract (sv := .agg _) rfl rfl rfl | exact a_len_nil rfl (fS rfl) | exact a_lenE rfl rfl (fS rfl) (by exact rfl) | exact a_un rfl rfl | exact a_ne rfl rfl | exact a_cmp rfl rfl rfl trivial rfl | exact a_add rfl rfl (by omega) (by omega) | exact a_sub rfl rfl (by omega) (by omega) | exact a_neg rfl (by omega) (by omega) | exact a_conv64 rfl (fK rfl) (fK rfl) (by omega) (by omega) | exact a_min rfl rfl | exact a_max rfl rfl | exact a_iaE rfl rfl rfl (fS rfl) (by omega) (by omega) (by exact rfl) | exact a_iaO1 rfl rfl rfl (fS rfl) (by omega) (by omega) | exact a_iaO rfl rfl rfl (fS rfl) (by omega) (by omega) (by exact rfl) | exact a_ld_rowI rfl rfl rfl (fC rfl) (by omega) | exact a_build (fZ rfl) (fU rfl) rfl rfl | exact a_ifc rfl (fI rfl) | exact a_ifcs rfl (fI rfl) | exact a_fn rfl); exact rfl)
    | (apply n3; (first | exact a_alloc (fZ rfl) rfl | exact a_box rfl | exact a_lit (fP rfl) (by decide) rfl (by decide) rfl rfl rfl); exact rfl)
    | (apply w3; (first | exact a_st_bx rfl rfl rfl rfl (fN rfl rfl) (Nat.le_of_ble_eq_true rfl) rfl | exact a_st_rowI rfl rfl rfl rfl (fN rfl rfl) (by omega)); exact rfl)
    | refine o_no rfl rfl rfl rfl ?_
    | (apply py3; exact rfl; exact rfl; (first | exact a_move (sv := .one _) rfl | exact a_move (sv := .agg _) rfl | exact a_move (sv := .tup _) rfl | exact a_assign (sv := .one _) rfl | exact a_assign (sv := .agg _) rfl | exact a_assign (sv := .tup _) rfl | exact a_pick (sv := .one _) rfl rfl | exact a_pick (sv := .agg _) rfl rfl | exact a_nil rfl rfl | exact a_fa_gp rfl (fF rfl) rfl | exact a_fa_gv rfl rfl (fF rfl) | exact a_fa_imm rfl (fF rfl) rfl | exact a_ld_bx rfl rfl rfl (fC rfl) rfl | exact a_ld_imm rfl (fC rfl) rfl | exact a_lds_bx rfl rfl rfl (fA rfl) (Nat.le_of_ble_eq_true rfl) rfl | exact a_lds_imm rfl (fA rfl) (Nat.le_of_ble_eq_true rfl) rfl | exact a_extract (sv := .one _) rfl rfl rfl | exact a_extract (sv := .agg _) rfl rfl rfl | exact a_len_nil rfl (fS rfl) | exact a_lenE rfl rfl (fS rfl) (by exact rfl) | exact a_un rfl rfl | exact a_ne rfl rfl | exact a_cmp rfl rfl rfl trivial rfl | exact a_add rfl rfl (by omega) (by omega) | exact a_sub rfl rfl (by omega) (by omega) | exact a_neg rfl (by omega) (by omega) | exact a_conv64 rfl (fK rfl) (fK rfl) (by omega) (by omega) | exact a_min rfl rfl | exact a_max rfl rfl | exact a_iaE rfl rfl rfl (fS rfl) (by omega) (by omega) (by exact rfl) | exact a_iaO1 rfl rfl rfl (fS rfl) (by omega) (by omega) | exact a_iaO rfl rfl rfl (fS rfl) (by omega) (by omega) (by exact rfl) | exact a_ld_rowI rfl rfl rfl (fC rfl) (by omega) | exact a_build (fZ rfl) (fU rfl) rfl rfl | exact a_ifc rfl (fI rfl) | exact a_ifcs rfl (fI rfl) | exact a_fn rfl); exact rfl; exact rfl)
    | (apply ny3; exact rfl; exact rfl; (first | exact a_alloc (fZ rfl) rfl | exact a_box rfl | exact a_lit (fP rfl) (by decide) rfl (by decide) rfl rfl rfl); exact rfl; exact rfl)
    | (refine o_gs rfl rfl (fun hc => ?_) (fun hc => ?_) <;> (try simp only [decide_eq_true_eq, decide_eq_false_iff_not, Bool.not_eq_true', Bool.not_eq_false', Bool.not_eq_true, Bool.not_eq_false, Bool.and_eq_true, Bool.or_eq_false_iff, Bool.not_not] at hc) <;> (try (exfalso; omega)))
    | (refine g_cond rfl (fun hc => ?_) (fun hc => ?_) <;> (try simp only [decide_eq_true_eq, decide_eq_false_iff_not, Bool.not_eq_true', Bool.not_eq_false', Bool.not_eq_true, Bool.not_eq_false, Bool.and_eq_true, Bool.or_eq_false_iff, Bool.not_not] at hc) <;> (try (exfalso; omega)))
  apply c3 (n' := 4) (θ := [])
  exact a_callS (θ := []) (ld := []) (toRuleS_ok m.ru hx) rfl rfl (fQ rfl) (by repeat (first | exact ASLe.nil | refine ASLe.cons ?_ ?_ | exact SVLe.refl | exact SVLe.one (.sh rfl) | exact SVLe.one (.nil (by decide)) | exact SVLe.one (.lend (by simp) rfl (noOwnI _)) | exact SVLe.one (.lend (by simp) rfl (noOwnR _)) | exact SVLe.agg (by repeat (first | exact CsLe.nil | refine CsLe.cons ?_ ?_ | exact CLe.refl | exact CLe.sh rfl | exact CLe.nil (by decide) | exact CLe.lend (by simp) rfl (noOwnI _) | exact CLe.lend (by simp) rfl (noOwnR _))))) (by repeat (first | exact trivial | refine And.intro ?_ ?_ | exact rfl)) rfl rfl rfl rfl (.inl rfl) rfl rfl rfl rfl
  exact rfl
  exact rfl
  · (repeat (first | exact Nat.le_refl _ | refine And.intro ?_ ?_ | exact Nat.le_of_ble_eq_true rfl | exact .inr ⟨Nat.le_of_ble_eq_true rfl, Nat.le_of_ble_eq_true rfl⟩ | exact .inl (by simp)))
  try dsimp only [SV.ren, C.ren, C.ren.all, tRen, GB.ren, calF, upOf, List.cons_append, List.nil_append, Nat.reduceAdd]
  repeat' first
    | refine g_seq ?_
    | refine g_skip ?_
    | refine g_ret ?_
    | refine g_exit ?_
    | refine g_block ?_
    | refine g_reg ?_
    | refine g_if_t rfl ?_
    | refine g_if_f rfl ?_
    | refine o_nil ?_
    | refine q_s ?_
    | refine q_sr ?_
    | refine q_se ?_
    | refine q_b ?_
    | refine q_br ?_
    | refine q_be rfl ?_
    | refine q_bn rfl ?_
    | refine q_lr ?_
    | refine q_le ?_
    | refine q_cr ?_
    | refine q_ce ?_
    | (apply p3; (first | exact a_move (sv := .one _) rfl | exact a_move (sv := .agg _) rfl | exact a_move (sv := .tup _) rfl | exact a_assign (sv := .one _) rfl | exact a_assign (sv := .agg _) rfl | exact a_assign (sv := .tup _) rfl | exact a_pick (sv := .one _) rfl rfl | exact a_pick (sv := .agg _) rfl rfl | exact a_nil rfl rfl | exact a_fa_gp rfl (fF rfl) rfl | exact a_fa_gv rfl rfl (fF rfl) | exact a_fa_imm rfl (fF rfl) rfl | exact a_ld_bx rfl rfl rfl (fC rfl) rfl | exact a_ld_imm rfl (fC rfl) rfl | exact a_lds_bx rfl rfl rfl (fA rfl) (Nat.le_of_ble_eq_true rfl) rfl | exact a_lds_imm rfl (fA rfl) (Nat.le_of_ble_eq_true rfl) rfl | exact a_extract (sv := .one _) rfl rfl rfl | exact a_extract (sv := .agg _) rfl rfl rfl | exact a_len_nil rfl (fS rfl) | exact a_lenE rfl rfl (fS rfl) (by exact rfl) | exact a_un rfl rfl | exact a_ne rfl rfl | exact a_cmp rfl rfl rfl trivial rfl | exact a_add rfl rfl (by omega) (by omega) | exact a_sub rfl rfl (by omega) (by omega) | exact a_neg rfl (by omega) (by omega) | exact a_conv64 rfl (fK rfl) (fK rfl) (by omega) (by omega) | exact a_min rfl rfl | exact a_max rfl rfl | exact a_iaE rfl rfl rfl (fS rfl) (by omega) (by omega) (by exact rfl) | exact a_iaO1 rfl rfl rfl (fS rfl) (by omega) (by omega) | exact a_iaO rfl rfl rfl (fS rfl) (by omega) (by omega) (by exact rfl) | exact a_ld_rowI rfl rfl rfl (fC rfl) (by omega) | exact a_build (fZ rfl) (fU rfl) rfl rfl | exact a_ifc rfl (fI rfl) | exact a_ifcs rfl (fI rfl) | exact a_fn rfl); exact rfl)
    | (apply n3; (first | exact a_alloc (fZ rfl) rfl | exact a_box rfl | exact a_lit (fP rfl) (by decide) rfl (by decide) rfl rfl rfl); exact rfl)
    | (apply w3; (first | exact a_st_bx rfl rfl rfl rfl (fN rfl rfl) (Nat.le_of_ble_eq_true rfl) rfl | exact a_st_rowI rfl rfl rfl rfl (fN rfl rfl) (by omega)); exact rfl)
    | refine o_no rfl rfl rfl rfl ?_
    | (apply py3; exact rfl; exact rfl; (first | exact a_move (sv := .one _) rfl | exact a_move (sv := .agg _) rfl | exact a_move (sv := .tup _) rfl | exact a_assign (sv := .one _) rfl | exact a_assign (sv := .agg _) rfl | exact a_assign (sv := .tup _) rfl | exact a_pick (sv := .one _) rfl rfl | exact a_pick (sv := .agg _) rfl rfl | exact a_nil rfl rfl | exact a_fa_gp rfl (fF rfl) rfl | exact a_fa_gv rfl rfl (fF rfl) | exact a_fa_imm rfl (fF rfl) rfl | exact a_ld_bx rfl rfl rfl (fC rfl) rfl | exact a_ld_imm rfl (fC rfl) rfl | exact a_lds_bx rfl rfl rfl (fA rfl) (Nat.le_of_ble_eq_true rfl) rfl | exact a_lds_imm rfl (fA rfl) (Nat.le_of_ble_eq_true rfl) rfl | exact a_extract (sv := .one _) rfl rfl rfl | exact a_extract (sv := .agg _) rfl rfl rfl | exact a_len_nil rfl (fS rfl) | exact a_lenE rfl rfl (fS rfl) (by exact rfl) | exact a_un rfl rfl | exact a_ne rfl rfl | exact a_cmp rfl rfl rfl trivial rfl | exact a_add rfl rfl (by omega) (by omega) | exact a_sub rfl rfl (by omega) (by omega) | exact a_neg rfl (by omega) (by omega) | exact a_conv64 rfl (fK rfl) (fK rfl) (by omega) (by omega) | exact a_min rfl rfl | exact a_max rfl rfl | exact a_iaE rfl rfl rfl (fS rfl) (by omega) (by omega) (by exact rfl) | exact a_iaO1 rfl rfl rfl (fS rfl) (by omega) (by omega) | exact a_iaO rfl rfl rfl (fS rfl) (by omega) (by omega) (by exact rfl) | exact a_ld_rowI rfl rfl rfl (fC rfl) (by omega) | exact a_build (fZ rfl) (fU rfl) rfl rfl | exact a_ifc rfl (fI rfl) | exact a_ifcs rfl (fI rfl) | exact a_fn rfl); exact rfl; exact rfl)
    | (apply ny3; exact rfl; exact rfl; (first | exact a_alloc (fZ rfl) rfl | exact a_box rfl | exact a_lit (fP rfl) (by decide) rfl (by decide) rfl rfl rfl); exact rfl; exact rfl)
    | (refine o_gs rfl rfl (fun hc => ?_) (fun hc => ?_) <;> (try simp only [decide_eq_true_eq, decide_eq_false_iff_not, Bool.not_eq_true', Bool.not_eq_false', Bool.not_eq_true, Bool.not_eq_false, Bool.and_eq_true, Bool.or_eq_false_iff, Bool.not_not] at hc) <;> (try (exfalso; omega)))
    | (refine g_cond rfl (fun hc => ?_) (fun hc => ?_) <;> (try simp only [decide_eq_true_eq, decide_eq_false_iff_not, Bool.not_eq_true', Bool.not_eq_false', Bool.not_eq_true, Bool.not_eq_false, Bool.and_eq_true, Bool.or_eq_false_iff, Bool.not_not] at hc) <;> (try (exfalso; omega)))
  exact ends1 3 (.cons (.cells rfl rfl rfl (fA rfl) (Nat.le_of_ble_eq_true rfl) rfl) .nil) .refl rfl rfl rfl
abbrev coO (c : Conf) (g h : Nat) : List C := [int c.st, .gv g, .gv h]
theorem toConfig_ok (c : Conf) (h1 : (c.le.length : Int) ≤ 1048576) (h2 : (c.ri.length : Int) ≤ 1048576) : Does Try.prog 20 [.agg (coC c)] [] (.agg (coO c 0 1)) [.row 1 (rows eI c.le), .row 1 (rows eI c.ri)] := by
  refine does_of (k := 0) Try.func20 rfl Try.ntmps20 rfl rfl fun w F0 S0 ρ0 => ?_
  dsimp only [argT, argH]
  repeat' first
    | refine g_seq ?_
    | refine g_skip ?_
    | refine g_ret ?_
    | refine g_exit ?_
    | refine g_block ?_
    | refine g_reg ?_
    | refine g_if_t rfl ?_
    | refine g_if_f rfl ?_
    | refine o_nil ?_
    | refine q_s ?_
    | refine q_sr ?_
    | refine q_se ?_
    | refine q_b ?_
    | refine q_br ?_
    | refine q_be rfl ?_
    | refine q_bn rfl ?_
    | refine q_lr ?_
    | refine q_le ?_
    | refine q_cr ?_
    | refine q_ce ?_
    | (apply p3; (first | exact a_move (sv := .one _) rfl | exact a_move (sv := .agg _) rfl | exact a_move (sv := .tup _) rfl | exact a_assign (sv := .one _) rfl | exact a_assign (sv := .agg _) rfl | exact a_assign (sv := .tup _) rfl | exact a_pick (sv := .one _) rfl rfl | exact a_pick (sv := .agg _) rfl rfl | exact a_nil rfl rfl | exact a_fa_gp rfl (fF rfl) rfl | exact a_fa_gv rfl rfl (fF rfl) | exact a_fa_imm rfl (fF rfl) rfl | exact a_ld_bx rfl rfl rfl (fC rfl) rfl | exact a_ld_imm rfl (fC rfl) rfl | exact a_lds_bx rfl rfl rfl (fA rfl) (Nat.le_of_ble_eq_true rfl) rfl | exact a_lds_imm rfl (fA rfl) (Nat.le_of_ble_eq_true rfl) rfl | exact a_extract (sv := .one _) rfl rfl rfl | exact a_extract (sv := .agg _) rfl rfl rfl | exact a_len_nil rfl (fS rfl) | exact a_lenE rfl rfl (fS rfl) (by exact rfl) | exact a_un rfl rfl | exact a_ne rfl rfl | exact a_cmp rfl rfl rfl trivial rfl | exact a_add rfl rfl (by omega) (by omega) | exact a_sub rfl rfl (by omega) (by omega) | exact a_neg rfl (by omega) (by omega) | exact a_conv64 rfl (fK rfl) (fK rfl) (by omega) (by omega) | exact a_min rfl rfl | exact a_max rfl rfl | exact a_iaE rfl rfl rfl (fS rfl) (by omega) (by omega) (by exact rfl) | exact a_iaO1 rfl rfl rfl (fS rfl) (by omega) (by omega) | exact a_iaO rfl rfl rfl (fS rfl) (by omega) (by omega) (by exact rfl) | exact a_ld_rowI rfl rfl rfl (fC rfl) (by omega) | exact a_build (fZ rfl) (fU rfl) rfl rfl | exact a_ifc rfl (fI rfl) | exact a_ifcs rfl (fI rfl) | exact a_fn rfl); exact rfl)
    | (apply n3; (first | exact a_alloc (fZ rfl) rfl | exact a_box rfl | exact a_lit (fP rfl) (by decide) rfl (by decide) rfl rfl rfl); exact rfl)
    | (apply w3; (first | exact a_st_bx rfl rfl rfl rfl (fN rfl rfl) (Nat.le_of_ble_eq_true rfl) rfl | exact a_st_rowI rfl rfl rfl rfl (fN rfl rfl) (by omega)); exact rfl)
    | refine o_no rfl rfl rfl rfl ?_
    | (apply py3; exact rfl; exact rfl; (first | exact a_move (sv := .one _) rfl | exact a_move (sv := .agg _) rfl | exact a_move (sv := .tup _) rfl | exact a_assign (sv := .one _) rfl | exact a_assign (sv := .agg _) rfl | exact a_assign (sv := .tup _) rfl | exact a_pick (sv := .one _) rfl rfl | exact a_pick (sv := .agg _) rfl rfl | exact a_nil rfl rfl | exact a_fa_gp rfl (fF rfl) rfl | exact a_fa_gv rfl rfl (fF rfl) | exact a_fa_imm rfl (fF rfl) rfl | exact a_ld_bx rfl rfl rfl (fC rfl) rfl | exact a_ld_imm rfl (fC rfl) rfl | exact a_lds_bx rfl rfl rfl (fA rfl) (Nat.le_of_ble_eq_true rfl) rfl | exact a_lds_imm rfl (fA rfl) (Nat.le_of_ble_eq_true rfl) rfl | exact a_extract (sv := .one _) rfl rfl rfl | exact a_extract (sv := .agg _) rfl rfl rfl | exact a_len_nil rfl (fS rfl) | exact a_lenE rfl rfl (fS rfl) (by exact rfl) | exact a_un rfl rfl | exact a_ne rfl rfl | exact a_cmp rfl rfl rfl trivial rfl | exact a_add rfl rfl (by omega) (by omega) | exact a_sub rfl rfl (by omega) (by omega) | exact a_neg rfl (by omega) (by omega) | exact a_conv64 rfl (fK rfl) (fK rfl) (by omega) (by omega) | exact a_min rfl rfl | exact a_max rfl rfl | exact a_iaE rfl rfl rfl (fS rfl) (by omega) (by omega) (by exact rfl) | exact a_iaO1 rfl rfl rfl (fS rfl) (by omega) (by omega) | exact a_iaO rfl rfl rfl (fS rfl) (by omega) (by omega) (by exact rfl) | exact a_ld_rowI rfl rfl rfl (fC rfl) (by omega) | exact a_build (fZ rfl) (fU rfl) rfl rfl | exact a_ifc rfl (fI rfl) | exact a_ifcs rfl (fI rfl) | exact a_fn rfl); exact rfl; exact rfl)
    | (apply ny3; exact rfl; exact rfl; (first | exact a_alloc (fZ rfl) rfl | exact a_box rfl | exact a_lit (fP rfl) (by decide) rfl (by decide) rfl rfl rfl); exact rfl; exact rfl)
    | (refine o_gs rfl rfl (fun hc => ?_) (fun hc => ?_) <;> (try simp only [decide_eq_true_eq, decide_eq_false_iff_not, Bool.not_eq_true', Bool.not_eq_false', Bool.not_eq_true, Bool.not_eq_false, Bool.and_eq_true, Bool.or_eq_false_iff, Bool.not_not] at hc) <;> (try (exfalso; omega)))
    | (refine g_cond rfl (fun hc => ?_) (fun hc => ?_) <;> (try simp only [decide_eq_true_eq, decide_eq_false_iff_not, Bool.not_eq_true', Bool.not_eq_false', Bool.not_eq_true, Bool.not_eq_false, Bool.and_eq_true, Bool.or_eq_false_iff, Bool.not_not] at hc) <;> (try (exfalso; omega)))
  apply c3 (n' := 4) (θ := [])
  exact a_callS (θ := []) (ld := []) (toInt64S_ok c.le h1) rfl rfl (fQ rfl) (by repeat (first | exact ASLe.nil | refine ASLe.cons ?_ ?_ | exact SVLe.refl | exact SVLe.one (.sh rfl) | exact SVLe.one (.nil (by decide)) | exact SVLe.one (.lend (by simp) rfl (noOwnI _)) | exact SVLe.one (.lend (by simp) rfl (noOwnR _)) | exact SVLe.agg (by repeat (first | exact CsLe.nil | refine CsLe.cons ?_ ?_ | exact CLe.refl | exact CLe.sh rfl | exact CLe.nil (by decide) | exact CLe.lend (by simp) rfl (noOwnI _) | exact CLe.lend (by simp) rfl (noOwnR _))))) (by repeat (first | exact trivial | refine And.intro ?_ ?_ | exact rfl)) rfl rfl rfl rfl (.inl rfl) rfl rfl rfl rfl
  exact rfl
  exact rfl
  · (repeat (first | exact Nat.le_refl _ | refine And.intro ?_ ?_ | exact Nat.le_of_ble_eq_true rfl | exact .inr ⟨Nat.le_of_ble_eq_true rfl, Nat.le_of_ble_eq_true rfl⟩ | exact .inl (by simp)))
  try dsimp only [SV.ren, C.ren, C.ren.all, tRen, GB.ren, calF, upOf, List.cons_append, List.nil_append, Nat.reduceAdd]
  repeat' first
    | refine g_seq ?_
    | refine g_skip ?_
    | refine g_ret ?_
    | refine g_exit ?_
    | refine g_block ?_
    | refine g_reg ?_
    | refine g_if_t rfl ?_
    | refine g_if_f rfl ?_
    | refine o_nil ?_
    | refine q_s ?_
    | refine q_sr ?_
    | refine q_se ?_
    | refine q_b ?_
    | refine q_br ?_
    | refine q_be rfl ?_
    | refine q_bn rfl ?_
    | refine q_lr ?_
    | refine q_le ?_
    | refine q_cr ?_
    | refine q_ce ?_
    | (apply p3; (first | exact a_move (sv := .one _) rfl | exact a_move (sv := .agg _) rfl | exact a_move (sv := .tup _) rfl | exact a_assign (sv := .one _) rfl | exact a_assign (sv := .agg _) rfl | exact a_assign (sv := .tup _) rfl | exact a_pick (sv := .one _) rfl rfl | exact a_pick (sv := .agg _) rfl rfl | exact a_nil rfl rfl | exact a_fa_gp rfl (fF rfl) rfl | exact a_fa_gv rfl rfl (fF rfl) | exact a_fa_imm rfl (fF rfl) rfl | exact a_ld_bx rfl rfl rfl (fC rfl) rfl | exact a_ld_imm rfl (fC rfl) rfl | exact a_lds_bx rfl rfl rfl (fA rfl) (Nat.le_of_ble_eq_true rfl) rfl | exact a_lds_imm rfl (fA rfl) (Nat.le_of_ble_eq_true rfl) rfl | exact a_extract (sv := .one _) rfl rfl rfl | exact a_extract (sv := .agg _) rfl rfl rfl | exact a_len_nil rfl (fS rfl) | exact a_lenE rfl rfl (fS rfl) (by exact rfl) | exact a_un rfl rfl | exact a_ne rfl rfl | exact a_cmp rfl rfl rfl trivial rfl | exact a_add rfl rfl (by omega) (by omega) | exact a_sub rfl rfl (by omega) (by omega) | exact a_neg rfl (by omega) (by omega) | exact a_conv64 rfl (fK rfl) (fK rfl) (by omega) (by omega) | exact a_min rfl rfl | exact a_max rfl rfl | exact a_iaE rfl rfl rfl (fS rfl) (by omega) (by omega) (by exact rfl) | exact a_iaO1 rfl rfl rfl (fS rfl) (by omega) (by omega) | exact a_iaO rfl rfl rfl (fS rfl) (by omega) (by omega) (by exact rfl) | exact a_ld_rowI rfl rfl rfl (fC rfl) (by omega) | exact a_build (fZ rfl) (fU rfl) rfl rfl | exact a_ifc rfl (fI rfl) | exact a_ifcs rfl (fI rfl) | exact a_fn rfl); exact rfl)
    | (apply n3; (first | exact a_alloc (fZ rfl) rfl | exact a_box rfl | exact a_lit (fP rfl) (by decide) rfl (by decide) rfl rfl rfl); exact rfl)
    | (apply w3; (first | exact a_st_bx rfl rfl rfl rfl (fN rfl rfl) (Nat.le_of_ble_eq_true rfl) rfl | exact a_st_rowI rfl rfl rfl rfl (fN rfl rfl) (by omega)); exact rfl)
    | refine o_no rfl rfl rfl rfl ?_
    | (apply py3; exact rfl; exact rfl; (first | exact a_move (sv := .one _) rfl | exact a_move (sv := .agg _) rfl | exact a_move (sv := .tup _) rfl | exact a_assign (sv := .one _) rfl | exact a_assign (sv := .agg _) rfl | exact a_assign (sv := .tup _) rfl | exact a_pick (sv := .one _) rfl rfl | exact a_pick (sv := .agg _) rfl rfl | exact a_nil rfl rfl | exact a_fa_gp rfl (fF rfl) rfl | exact a_fa_gv rfl rfl (fF rfl) | exact a_fa_imm rfl (fF rfl) rfl | exact a_ld_bx rfl rfl rfl (fC rfl) rfl | exact a_ld_imm rfl (fC rfl) rfl | exact a_lds_bx rfl rfl rfl (fA rfl) (Nat.le_of_ble_eq_true rfl) rfl | exact a_lds_imm rfl (fA rfl) (Nat.le_of_ble_eq_true rfl) rfl | exact a_extract (sv := .one _) rfl rfl rfl | exact a_extract (sv := .agg _) rfl rfl rfl | exact a_len_nil rfl (fS rfl) | exact a_lenE rfl rfl (fS rfl) (by exact rfl) | exact a_un rfl rfl | exact a_ne rfl rfl | exact a_cmp rfl rfl rfl trivial rfl | exact a_add rfl rfl (by omega) (by omega) | exact a_sub rfl rfl (by omega) (by omega) | exact a_neg rfl (by omega) (by omega) | exact a_conv64 rfl (fK rfl) (fK rfl) (by omega) (by omega) | exact a_min rfl rfl | exact a_max rfl rfl | exact a_iaE rfl rfl rfl (fS rfl) (by omega) (by omega) (by exact rfl) | exact a_iaO1 rfl rfl rfl (fS rfl) (by omega) (by omega) | exact a_iaO rfl rfl rfl (fS rfl) (by omega) (by omega) (by exact rfl) | exact a_ld_rowI rfl rfl rfl (fC rfl) (by omega) | exact a_build (fZ rfl) (fU rfl) rfl rfl | exact a_ifc rfl (fI rfl) | exact a_ifcs rfl (fI rfl) | exact a_fn rfl); exact rfl; exact rfl)
    | (apply ny3; exact rfl; exact rfl; (first | exact a_alloc (fZ rfl) rfl | exact a_box rfl | exact a_lit (fP rfl) (by decide) rfl (by decide) rfl rfl rfl); exact rfl; exact rfl)
    | (refine o_gs rfl rfl (fun hc => ?_) (fun hc => ?_) <;> (try simp only [decide_eq_true_eq, decide_eq_false_iff_not, Bool.not_eq_true', Bool.not_eq_false', Bool.not_eq_true, Bool.not_eq_false, Bool.and_eq_true, Bool.or_eq_false_iff, Bool.not_not] at hc) <;> (try (exfalso; omega)))
    | (refine g_cond rfl (fun hc => ?_) (fun hc => ?_) <;> (try simp only [decide_eq_true_eq, decide_eq_false_iff_not, Bool.not_eq_true', Bool.not_eq_false', Bool.not_eq_true, Bool.not_eq_false, Bool.and_eq_true, Bool.or_eq_false_iff, Bool.not_not] at hc) <;> (try (exfalso; omega)))
  apply c3 (n' := 5) (θ := [])
  exact a_callS (θ := []) (ld := []) (toInt64S_ok c.ri h2) rfl rfl (fQ rfl) (by repeat (first | exact ASLe.nil | refine ASLe.cons ?_ ?_ | exact SVLe.refl | exact SVLe.one (.sh rfl) | exact SVLe.one (.nil (by decide)) | exact SVLe.one (.lend (by simp) rfl (noOwnI _)) | exact SVLe.one (.lend (by simp) rfl (noOwnR _)) | exact SVLe.agg (by repeat (first | exact CsLe.nil | refine CsLe.cons ?_ ?_ | exact CLe.refl | exact CLe.sh rfl | exact CLe.nil (by decide) | exact CLe.lend (by simp) rfl (noOwnI _) | exact CLe.lend (by simp) rfl (noOwnR _))))) (by repeat (first | exact trivial | refine And.intro ?_ ?_ | exact rfl)) rfl rfl rfl rfl (.inl rfl) rfl rfl rfl rfl
  exact rfl
  exact rfl
  · (repeat (first | exact Nat.le_refl _ | refine And.intro ?_ ?_ | exact Nat.le_of_ble_eq_true rfl | exact .inr ⟨Nat.le_of_ble_eq_true rfl, Nat.le_of_ble_eq_true rfl⟩ | exact .inl (by simp)))
  try dsimp only [SV.ren, C.ren, C.ren.all, tRen, GB.ren, calF, upOf, List.cons_append, List.nil_append, Nat.reduceAdd]
  repeat' first
    | refine g_seq ?_
    | refine g_skip ?_
    | refine g_ret ?_
    | refine g_exit ?_
    | refine g_block ?_
    | refine g_reg ?_
    | refine g_if_t rfl ?_
    | refine g_if_f rfl ?_
    | refine o_nil ?_
    | refine q_s ?_
    | refine q_sr ?_
    | refine q_se ?_
    | refine q_b ?_
    | refine q_br ?_
    | refine q_be rfl ?_
    | refine q_bn rfl ?_
    | refine q_lr ?_
    | refine q_le ?_
    | refine q_cr ?_
    | refine q_ce ?_
    | (apply p3; (first | exact a_move (sv := .one _) rfl | exact a_move (sv := .agg _) rfl | exact a_move (sv := .tup _) rfl | exact a_assign (sv := .one _) rfl | exact a_assign (sv := .agg _) rfl | exact a_assign (sv := .tup _) rfl | exact a_pick (sv := .one _) rfl rfl | exact a_pick (sv := .agg _) rfl rfl | exact a_nil rfl rfl | exact a_fa_gp rfl (fF rfl) rfl | exact a_fa_gv rfl rfl (fF rfl) | exact a_fa_imm rfl (fF rfl) rfl | exact a_ld_bx rfl rfl rfl (fC rfl) rfl | exact a_ld_imm rfl (fC rfl) rfl | exact a_lds_bx rfl rfl rfl (fA rfl) (Nat.le_of_ble_eq_true rfl) rfl | exact a_lds_imm rfl (fA rfl) (Nat.le_of_ble_eq_true rfl) rfl | exact a_extract (sv := .one _) rfl rfl rfl | exact a_extract (sv := .agg _) rfl rfl rfl | exact a_len_nil rfl (fS rfl) | exact a_lenE rfl rfl (fS rfl) (by exact rfl) | exact a_un rfl rfl | exact a_ne rfl rfl | exact a_cmp rfl rfl rfl trivial rfl | exact a_add rfl rfl (by omega) (by omega) | exact a_sub rfl rfl (by omega) (by omega) | exact a_neg rfl (by omega) (by omega) | exact a_conv64 rfl (fK rfl) (fK rfl) (by omega) (by omega) | exact a_min rfl rfl | exact a_max rfl rfl | exact a_iaE rfl rfl rfl (fS rfl) (by omega) (by omega) (by exact rfl) | exact a_iaO1 rfl rfl rfl (fS rfl) (by omega) (by omega) | exact a_iaO rfl rfl rfl (fS rfl) (by omega) (by omega) (by exact rfl) | exact a_ld_rowI rfl rfl rfl (fC rfl) (by omega) | exact a_build (fZ rfl) (fU rfl) rfl rfl | exact a_ifc rfl (fI rfl) | exact a_ifcs rfl (fI rfl) | exact a_fn rfl); exact rfl)
    | (apply n3; (first | exact a_alloc (fZ rfl) rfl | exact a_box rfl | exact a_lit (fP rfl) (by decide) rfl (by decide) rfl rfl rfl); exact rfl)
    | (apply w3; (first | exact a_st_bx rfl rfl rfl rfl (fN rfl rfl) (Nat.le_of_ble_eq_true rfl) rfl | exact a_st_rowI rfl rfl rfl rfl (fN rfl rfl) (by omega)); exact rfl)
    | refine o_no rfl rfl rfl rfl ?_
    | (apply py3; exact rfl; exact rfl; (first | exact a_move (sv := .one _) rfl | exact a_move (sv := .agg _) rfl | exact a_move (sv := .tup _) rfl | exact a_assign (sv := .one _) rfl | exact a_assign (sv := .agg _) rfl | exact a_assign (sv := .tup _) rfl | exact a_pick (sv := .one _) rfl rfl | exact a_pick (sv := .agg _) rfl rfl | exact a_nil rfl rfl | exact a_fa_gp rfl (fF rfl) rfl | exact a_fa_gv rfl rfl (fF rfl) | exact a_fa_imm rfl (fF rfl) rfl | exact a_ld_bx rfl rfl rfl (fC rfl) rfl | exact a_ld_imm rfl (fC rfl) rfl | exact a_lds_bx rfl rfl rfl (fA rfl) (Nat.le_of_ble_eq_true rfl) rfl | exact a_lds_imm rfl (fA rfl) (Nat.le_of_ble_eq_true rfl) rfl | exact a_extract (sv := .one _) rfl rfl rfl | exact a_extract (sv := .agg _) rfl rfl rfl | exact a_len_nil rfl (fS rfl) | exact a_lenE rfl rfl (fS rfl) (by exact rfl) | exact a_un rfl rfl | exact a_ne rfl rfl | exact a_cmp rfl rfl rfl trivial rfl | exact a_add rfl rfl (by omega) (by omega) | exact a_sub rfl rfl (by omega) (by omega) | exact a_neg rfl (by omega) (by omega) | exact a_conv64 rfl (fK rfl) (fK rfl) (by omega) (by omega) | exact a_min rfl rfl | exact a_max rfl rfl | exact a_iaE rfl rfl rfl (fS rfl) (by omega) (by omega) (by exact rfl) | exact a_iaO1 rfl rfl rfl (fS rfl) (by omega) (by omega) | exact a_iaO rfl rfl rfl (fS rfl) (by omega) (by omega) (by exact rfl) | exact a_ld_rowI rfl rfl rfl (fC rfl) (by omega) | exact a_build (fZ rfl) (fU rfl) rfl rfl | exact a_ifc rfl (fI rfl) | exact a_ifcs rfl (fI rfl) | exact a_fn rfl); exact rfl; exact rfl)
    | (apply ny3; exact rfl; exact rfl; (first | exact a_alloc (fZ rfl) rfl | exact a_box rfl | exact a_lit (fP rfl) (by decide) rfl (by decide) rfl rfl rfl); exact rfl; exact rfl)
    | (refine o_gs rfl rfl (fun hc => ?_) (fun hc => ?_) <;> (try simp only [decide_eq_true_eq, decide_eq_false_iff_not, Bool.not_eq_true', Bool.not_eq_false', Bool.not_eq_true, Bool.not_eq_false, Bool.and_eq_true, Bool.or_eq_false_iff, Bool.not_not] at hc) <;> (try (exfalso; omega)))
    | (refine g_cond rfl (fun hc => ?_) (fun hc => ?_) <;> (try simp only [decide_eq_true_eq, decide_eq_false_iff_not, Bool.not_eq_true', Bool.not_eq_false', Bool.not_eq_true, Bool.not_eq_false, Bool.and_eq_true, Bool.or_eq_false_iff, Bool.not_not] at hc) <;> (try (exfalso; omega)))
  refine ⟨.inr rfl, _, [3, 4], .cons (.cells rfl rfl rfl (fA rfl) (Nat.le_of_ble_eq_true rfl) rfl) .nil, .refl, ⟨.inr rfl, .inr rfl, trivial⟩, rfl, rfl, rfl, rfl⟩
@[irreducible] def szC (c : Conf) (left : Int) : Int := if szL c.le.length left < 0 then -1 else szL c.ri.length (szL c.le.length left)
theorem szL_le {n : Nat} {l : Int} (h : l ≤ 1048576) : szL n l ≤ 1048576 := by unfold szL; split <;> omega
theorem szL_neg {n : Nat} {l : Int} (h : szL n l < 0) : szL n l = -1 := by unfold szL at *; split at h <;> simp_all
theorem szConfig_ok (c : Conf) (left : Int) (h1 : left ≤ 1048576) (h2 : 0 ≤ left) (hx : (c.le.length : Int) ≤ 9223372036854775807) (hy : (c.ri.length : Int) ≤ 9223372036854775807) : Does Try.prog 18 [.agg (coC c), .one (int left)] [] (.one (int (szC c left))) [] := by
  refine does_of (k := 0) Try.func18 rfl Try.ntmps18 rfl rfl fun w F0 S0 ρ0 => ?_
  dsimp only [argT, argH]
  repeat' first
    | refine g_seq ?_
    | refine g_skip ?_
    | refine g_ret ?_
    | refine g_exit ?_
    | refine g_block ?_
    | refine g_reg ?_
    | refine g_if_t rfl ?_
    | refine g_if_f rfl ?_
    | refine o_nil ?_
    | refine q_s ?_
    | refine q_sr ?_
    | refine q_se ?_
    | refine q_b ?_
    | refine q_br ?_
    | refine q_be rfl ?_
    | refine q_bn rfl ?_
    | refine q_lr ?_
    | refine q_le ?_
    | refine q_cr ?_
    | refine q_ce ?_
    | (apply p3; (first | exact a_move (sv := .one _) rfl | exact a_move (sv := .agg _) rfl | exact a_move (sv := .tup _) rfl | exact a_assign (sv := .one _) rfl | exact a_assign (sv := .agg _) rfl | exact a_assign (sv := .tup _) rfl | exact a_pick (sv := .one _) rfl rfl | exact a_pick (sv := .agg _) rfl rfl | exact a_nil rfl rfl | exact a_fa_gp rfl (fF rfl) rfl | exact a_fa_gv rfl rfl (fF rfl) | exact a_fa_imm rfl (fF rfl) rfl | exact a_ld_bx rfl rfl rfl (fC rfl) rfl | exact a_ld_imm rfl (fC rfl) rfl | exact a_lds_bx rfl rfl rfl (fA rfl) (Nat.le_of_ble_eq_true rfl) rfl | exact a_lds_imm rfl (fA rfl) (Nat.le_of_ble_eq_true rfl) rfl | exact a_extract (sv := .one _) rfl rfl rfl | exact a_extract (sv := .agg _) rfl rfl rfl | exact a_len_nil rfl (fS rfl) | exact a_lenE rfl rfl (fS rfl) (by exact rfl) | exact a_un rfl rfl | exact a_ne rfl rfl | exact a_cmp rfl rfl rfl trivial rfl | exact a_add rfl rfl (by omega) (by omega) | exact a_sub rfl rfl (by omega) (by omega) | exact a_neg rfl (by omega) (by omega) | exact a_conv64 rfl (fK rfl) (fK rfl) (by omega) (by omega) | exact a_min rfl rfl | exact a_max rfl rfl | exact a_iaE rfl rfl rfl (fS rfl) (by omega) (by omega) (by exact rfl) | exact a_iaO1 rfl rfl rfl (fS rfl) (by omega) (by omega) | exact a_iaO rfl rfl rfl (fS rfl) (by omega) (by omega) (by exact rfl) | exact a_ld_rowI rfl rfl rfl (fC rfl) (by omega) | exact a_build (fZ rfl) (fU rfl) rfl rfl | exact a_ifc rfl (fI rfl) | exact a_ifcs rfl (fI rfl) | exact a_fn rfl); exact rfl)
    | (apply n3; (first | exact a_alloc (fZ rfl) rfl | exact a_box rfl | exact a_lit (fP rfl) (by decide) rfl (by decide) rfl rfl rfl); exact rfl)
    | (apply w3; (first | exact a_st_bx rfl rfl rfl rfl (fN rfl rfl) (Nat.le_of_ble_eq_true rfl) rfl | exact a_st_rowI rfl rfl rfl rfl (fN rfl rfl) (by omega)); exact rfl)
    | refine o_no rfl rfl rfl rfl ?_
    | (apply py3; exact rfl; exact rfl; (first | exact a_move (sv := .one _) rfl | exact a_move (sv := .agg _) rfl | exact a_move (sv := .tup _) rfl | exact a_assign (sv := .one _) rfl | exact a_assign (sv := .agg _) rfl | exact a_assign (sv := .tup _) rfl | exact a_pick (sv := .one _) rfl rfl | exact a_pick (sv := .agg _) rfl rfl | exact a_nil rfl rfl | exact a_fa_gp rfl (fF rfl) rfl | exact a_fa_gv rfl rfl (fF rfl) | exact a_fa_imm rfl (fF rfl) rfl | exact a_ld_bx rfl rfl rfl (fC rfl) rfl | exact a_ld_imm rfl (fC rfl) rfl | exact a_lds_bx rfl rfl rfl (fA rfl) (Nat.le_of_ble_eq_true rfl) rfl | exact a_lds_imm rfl (fA rfl) (Nat.le_of_ble_eq_true rfl) rfl | exact a_extract (sv := .one _) rfl rfl rfl | exact a_extract (sv := .agg _) rfl rfl rfl | exact a_len_nil rfl (fS rfl) | exact a_lenE rfl rfl (fS rfl) (by exact rfl) | exact a_un rfl rfl | exact a_ne rfl rfl | exact a_cmp rfl rfl rfl trivial rfl | exact a_add rfl rfl (by omega) (by omega) | exact a_sub rfl rfl (by omega) (by omega) | exact a_neg rfl (by omega) (by omega) | exact a_conv64 rfl (fK rfl) (fK rfl) (by omega) (by omega) | exact a_min rfl rfl | exact a_max rfl rfl | exact a_iaE rfl rfl rfl (fS rfl) (by omega) (by omega) (by exact rfl) | exact a_iaO1 rfl rfl rfl (fS rfl) (by omega) (by omega) | exact a_iaO rfl rfl rfl (fS rfl) (by omega) (by omega) (by exact rfl) | exact a_ld_rowI rfl rfl rfl (fC rfl) (by omega) | exact a_build (fZ rfl) (fU rfl) rfl rfl | exact a_ifc rfl (fI rfl) | exact a_ifcs rfl (fI rfl) | exact a_fn rfl); exact rfl; exact rfl)
    | (apply ny3; exact rfl; exact rfl; (first | exact a_alloc (fZ rfl) rfl | exact a_box rfl | exact a_lit (fP rfl) (by decide) rfl (by decide) rfl rfl rfl); exact rfl; exact rfl)
    | (refine o_gs rfl rfl (fun hc => ?_) (fun hc => ?_) <;> (try simp only [decide_eq_true_eq, decide_eq_false_iff_not, Bool.not_eq_true', Bool.not_eq_false', Bool.not_eq_true, Bool.not_eq_false, Bool.and_eq_true, Bool.or_eq_false_iff, Bool.not_not] at hc) <;> (try (exfalso; omega)))
    | (refine g_cond rfl (fun hc => ?_) (fun hc => ?_) <;> (try simp only [decide_eq_true_eq, decide_eq_false_iff_not, Bool.not_eq_true', Bool.not_eq_false', Bool.not_eq_true, Bool.not_eq_false, Bool.and_eq_true, Bool.or_eq_false_iff, Bool.not_not] at hc) <;> (try (exfalso; omega)))
  apply c3 (n' := _) (θ := [])
  exact a_callS (θ := []) (ld := []) (szInt64S_ok c.le left h1 h2 hx) rfl rfl (fQ rfl) (by repeat (first | exact ASLe.nil | refine ASLe.cons ?_ ?_ | exact SVLe.refl | exact SVLe.one (.sh rfl) | exact SVLe.one (.nil (by decide)) | exact SVLe.one (.lend (by simp) rfl (noOwnI _)) | exact SVLe.one (.lend (by simp) rfl (noOwnR _)) | exact SVLe.agg (by repeat (first | exact CsLe.nil | refine CsLe.cons ?_ ?_ | exact CLe.refl | exact CLe.sh rfl | exact CLe.nil (by decide) | exact CLe.lend (by simp) rfl (noOwnI _) | exact CLe.lend (by simp) rfl (noOwnR _))))) (by repeat (first | exact trivial | refine And.intro ?_ ?_ | exact rfl)) rfl rfl rfl rfl (.inl rfl) rfl rfl rfl rfl
  exact rfl
  exact rfl
  · (repeat (first | exact Nat.le_refl _ | refine And.intro ?_ ?_ | exact Nat.le_of_ble_eq_true rfl | exact .inr ⟨Nat.le_of_ble_eq_true rfl, Nat.le_of_ble_eq_true rfl⟩ | exact .inl (by simp)))
  try dsimp only [SV.ren, C.ren, C.ren.all, tRen, GB.ren, calF, upOf, List.cons_append, List.nil_append, Nat.reduceAdd]
  repeat' first
    | refine g_seq ?_
    | refine g_skip ?_
    | refine g_ret ?_
    | refine g_exit ?_
    | refine g_block ?_
    | refine g_reg ?_
    | refine g_if_t rfl ?_
    | refine g_if_f rfl ?_
    | refine o_nil ?_
    | refine q_s ?_
    | refine q_sr ?_
    | refine q_se ?_
    | refine q_b ?_
    | refine q_br ?_
    | refine q_be rfl ?_
    | refine q_bn rfl ?_
    | refine q_lr ?_
    | refine q_le ?_
    | refine q_cr ?_
    | refine q_ce ?_
    | (apply p3; (first | exact a_move (sv := .one _) rfl | exact a_move (sv := .agg _) rfl | exact a_move (sv := .tup _) rfl | exact a_assign (sv := .one _) rfl | exact a_assign (sv := .agg _) rfl | exact a_assign (sv := .tup _) rfl | exact a_pick (sv := .one _) rfl rfl | exact a_pick (sv := .agg _) rfl rfl | exact a_nil rfl rfl | exact a_fa_gp rfl (fF rfl) rfl | exact a_fa_gv rfl rfl (fF rfl) | exact a_fa_imm rfl (fF rfl) rfl | exact a_ld_bx rfl rfl rfl (fC rfl) rfl | exact a_ld_imm rfl (fC rfl) rfl | exact a_lds_bx rfl rfl rfl (fA rfl) (Nat.le_of_ble_eq_true rfl) rfl | exact a_lds_imm rfl (fA rfl) (Nat.le_of_ble_eq_true rfl) rfl | exact a_extract (sv := .one _) rfl rfl rfl | exact a_extract (sv := .agg _) rfl rfl rfl | exact a_len_nil rfl (fS rfl) | exact a_lenE rfl rfl (fS rfl) (by exact rfl) | exact a_un rfl rfl | exact a_ne rfl rfl | exact a_cmp rfl rfl rfl trivial rfl | exact a_add rfl rfl (by omega) (by omega) | exact a_sub rfl rfl (by omega) (by omega) | exact a_neg rfl (by omega) (by omega) | exact a_conv64 rfl (fK rfl) (fK rfl) (by omega) (by omega) | exact a_min rfl rfl | exact a_max rfl rfl | exact a_iaE rfl rfl rfl (fS rfl) (by omega) (by omega) (by exact rfl) | exact a_iaO1 rfl rfl rfl (fS rfl) (by omega) (by omega) | exact a_iaO rfl rfl rfl (fS rfl) (by omega) (by omega) (by exact rfl) | exact a_ld_rowI rfl rfl rfl (fC rfl) (by omega) | exact a_build (fZ rfl) (fU rfl) rfl rfl | exact a_ifc rfl (fI rfl) | exact a_ifcs rfl (fI rfl) | exact a_fn rfl); exact rfl)
    | (apply n3; (first | exact a_alloc (fZ rfl) rfl | exact a_box rfl | exact a_lit (fP rfl) (by decide) rfl (by decide) rfl rfl rfl); exact rfl)
    | (apply w3; (first | exact a_st_bx rfl rfl rfl rfl (fN rfl rfl) (Nat.le_of_ble_eq_true rfl) rfl | exact a_st_rowI rfl rfl rfl rfl (fN rfl rfl) (by omega)); exact rfl)
    | refine o_no rfl rfl rfl rfl ?_
    | (apply py3; exact rfl; exact rfl; (first | exact a_move (sv := .one _) rfl | exact a_move (sv := .agg _) rfl | exact a_move (sv := .tup _) rfl | exact a_assign (sv := .one _) rfl | exact a_assign (sv := .agg _) rfl | exact a_assign (sv := .tup _) rfl | exact a_pick (sv := .one _) rfl rfl | exact a_pick (sv := .agg _) rfl rfl | exact a_nil rfl rfl | exact a_fa_gp rfl (fF rfl) rfl | exact a_fa_gv rfl rfl (fF rfl) | exact a_fa_imm rfl (fF rfl) rfl | exact a_ld_bx rfl rfl rfl (fC rfl) rfl | exact a_ld_imm rfl (fC rfl) rfl | exact a_lds_bx rfl rfl rfl (fA rfl) (Nat.le_of_ble_eq_true rfl) rfl | exact a_lds_imm rfl (fA rfl) (Nat.le_of_ble_eq_true rfl) rfl | exact a_extract (sv := .one _) rfl rfl rfl | exact a_extract (sv := .agg _) rfl rfl rfl | exact a_len_nil rfl (fS rfl) | exact a_lenE rfl rfl (fS rfl) (by exact rfl) | exact a_un rfl rfl | exact a_ne rfl rfl | exact a_cmp rfl rfl rfl trivial rfl | exact a_add rfl rfl (by omega) (by omega) | exact a_sub rfl rfl (by omega) (by omega) | exact a_neg rfl (by omega) (by omega) | exact a_conv64 rfl (fK rfl) (fK rfl) (by omega) (by omega) | exact a_min rfl rfl | exact a_max rfl rfl | exact a_iaE rfl rfl rfl (fS rfl) (by omega) (by omega) (by exact rfl) | exact a_iaO1 rfl rfl rfl (fS rfl) (by omega) (by omega) | exact a_iaO rfl rfl rfl (fS rfl) (by omega) (by omega) (by exact rfl) | exact a_ld_rowI rfl rfl rfl (fC rfl) (by omega) | exact a_build (fZ rfl) (fU rfl) rfl rfl | exact a_ifc rfl (fI rfl) | exact a_ifcs rfl (fI rfl) | exact a_fn rfl); exact rfl; exact rfl)
    | (apply ny3; exact rfl; exact rfl; (first | exact a_alloc (fZ rfl) rfl | exact a_box rfl | exact a_lit (fP rfl) (by decide) rfl (by decide) rfl rfl rfl); exact rfl; exact rfl)
    | (refine o_gs rfl rfl (fun hc => ?_) (fun hc => ?_) <;> (try simp only [decide_eq_true_eq, decide_eq_false_iff_not, Bool.not_eq_true', Bool.not_eq_false', Bool.not_eq_true, Bool.not_eq_false, Bool.and_eq_true, Bool.or_eq_false_iff, Bool.not_not] at hc) <;> (try (exfalso; omega)))
    | (refine g_cond rfl (fun hc => ?_) (fun hc => ?_) <;> (try simp only [decide_eq_true_eq, decide_eq_false_iff_not, Bool.not_eq_true', Bool.not_eq_false', Bool.not_eq_true, Bool.not_eq_false, Bool.and_eq_true, Bool.or_eq_false_iff, Bool.not_not] at hc) <;> (try (exfalso; omega)))
  · exact ends_r (.cons (.one rfl) .nil) (sle_i (by unfold szC; simp [*])) rfl
  apply c3 (n' := _) (θ := [])
  exact a_callS (θ := []) (ld := []) (szInt64S_ok c.ri (szL c.le.length left) (szL_le h1) (by omega) hy) rfl rfl (fQ rfl) (by repeat (first | exact ASLe.nil | refine ASLe.cons ?_ ?_ | exact SVLe.refl | exact SVLe.one (.sh rfl) | exact SVLe.one (.nil (by decide)) | exact SVLe.one (.lend (by simp) rfl (noOwnI _)) | exact SVLe.one (.lend (by simp) rfl (noOwnR _)) | exact SVLe.agg (by repeat (first | exact CsLe.nil | refine CsLe.cons ?_ ?_ | exact CLe.refl | exact CLe.sh rfl | exact CLe.nil (by decide) | exact CLe.lend (by simp) rfl (noOwnI _) | exact CLe.lend (by simp) rfl (noOwnR _))))) (by repeat (first | exact trivial | refine And.intro ?_ ?_ | exact rfl)) rfl rfl rfl rfl (.inl rfl) rfl rfl rfl rfl
  exact rfl
  exact rfl
  · (repeat (first | exact Nat.le_refl _ | refine And.intro ?_ ?_ | exact Nat.le_of_ble_eq_true rfl | exact .inr ⟨Nat.le_of_ble_eq_true rfl, Nat.le_of_ble_eq_true rfl⟩ | exact .inl (by simp)))
  try dsimp only [SV.ren, C.ren, C.ren.all, tRen, GB.ren, calF, upOf, List.cons_append, List.nil_append, Nat.reduceAdd]
  repeat' first
    | refine g_seq ?_
    | refine g_skip ?_
    | refine g_ret ?_
    | refine g_exit ?_
    | refine g_block ?_
    | refine g_reg ?_
    | refine g_if_t rfl ?_
    | refine g_if_f rfl ?_
    | refine o_nil ?_
    | refine q_s ?_
    | refine q_sr ?_
    | refine q_se ?_
    | refine q_b ?_
    | refine q_br ?_
    | refine q_be rfl ?_
    | refine q_bn rfl ?_
    | refine q_lr ?_
    | refine q_le ?_
    | refine q_cr ?_
    | refine q_ce ?_
    | (apply p3; (first | exact a_move (sv := .one _) rfl | exact a_move (sv := .agg _) rfl | exact a_move (sv := .tup _) rfl | exact a_assign (sv := .one _) rfl | exact a_assign (sv := .agg _) rfl | exact a_assign (sv := .tup _) rfl | exact a_pick (sv := .one _) rfl rfl | exact a_pick (sv := .agg _) rfl rfl | exact a_nil rfl rfl | exact a_fa_gp rfl (fF rfl) rfl | exact a_fa_gv rfl rfl (fF rfl) | exact a_fa_imm rfl (fF rfl) rfl | exact a_ld_bx rfl rfl rfl (fC rfl) rfl | exact a_ld_imm rfl (fC rfl) rfl | exact a_lds_bx rfl rfl rfl (fA rfl) (Nat.le_of_ble_eq_true rfl) rfl | exact a_lds_imm rfl (fA rfl) (Nat.le_of_ble_eq_true rfl) rfl | exact a_extract (sv := .one _) rfl rfl rfl | exact a_extract (sv := .agg _) rfl rfl rfl | exact a_len_nil rfl (fS rfl) | exact a_lenE rfl rfl (fS rfl) (by exact rfl) | exact a_un rfl rfl | exact a_ne rfl rfl | exact a_cmp rfl rfl rfl trivial rfl | exact a_add rfl rfl (by omega) (by omega) | exact a_sub rfl rfl (by omega) (by omega) | exact a_neg rfl (by omega) (by omega) | exact a_conv64 rfl (fK rfl) (fK rfl) (by omega) (by omega) | exact a_min rfl rfl | exact a_max rfl rfl | exact a_iaE rfl rfl rfl (fS rfl) (by omega) (by omega) (by exact rfl) | exact a_iaO1 rfl rfl rfl (fS rfl) (by omega) (by omega) | exact a_iaO rfl rfl rfl (fS rfl) (by omega) (by omega) (by exact rfl) | exact a_ld_rowI rfl rfl rfl (fC rfl) (by omega) | exact a_build (fZ rfl) (fU rfl) rfl rfl | exact a_ifc rfl (fI rfl) | exact a_ifcs rfl (fI rfl) | exact a_fn rfl); exact rfl)
    | (apply n3; (first | exact a_alloc (fZ rfl) rfl | exact a_box rfl | exact a_lit (fP rfl) (by decide) rfl (by decide) rfl rfl rfl); exact rfl)
    | (apply w3; (first | exact a_st_bx rfl rfl rfl rfl (fN rfl rfl) (Nat.le_of_ble_eq_true rfl) rfl | exact a_st_rowI rfl rfl rfl rfl (fN rfl rfl) (by omega)); exact rfl)
    | refine o_no rfl rfl rfl rfl ?_
    | (apply py3; exact rfl; exact rfl; (first | exact a_move (sv := .one _) rfl | exact a_move (sv := .agg _) rfl | exact a_move (sv := .tup _) rfl | exact a_assign (sv := .one _) rfl | exact a_assign (sv := .agg _) rfl | exact a_assign (sv := .tup _) rfl | exact a_pick (sv := .one _) rfl rfl | exact a_pick (sv := .agg _) rfl rfl | exact a_nil rfl rfl | exact a_fa_gp rfl (fF rfl) rfl | exact a_fa_gv rfl rfl (fF rfl) | exact a_fa_imm rfl (fF rfl) rfl | exact a_ld_bx rfl rfl rfl (fC rfl) rfl | exact a_ld_imm rfl (fC rfl) rfl | exact a_lds_bx rfl rfl rfl (fA rfl) (Nat.le_of_ble_eq_true rfl) rfl | exact a_lds_imm rfl (fA rfl) (Nat.le_of_ble_eq_true rfl) rfl | exact a_extract (sv := .one _) rfl rfl rfl | exact a_extract (sv := .agg _) rfl rfl rfl | exact a_len_nil rfl (fS rfl) | exact a_lenE rfl rfl (fS rfl) (by exact rfl) | exact a_un rfl rfl | exact a_ne rfl rfl | exact a_cmp rfl rfl rfl trivial rfl | exact a_add rfl rfl (by omega) (by omega) | exact a_sub rfl rfl (by omega) (by omega) | exact a_neg rfl (by omega) (by omega) | exact a_conv64 rfl (fK rfl) (fK rfl) (by omega) (by omega) | exact a_min rfl rfl | exact a_max rfl rfl | exact a_iaE rfl rfl rfl (fS rfl) (by omega) (by omega) (by exact rfl) | exact a_iaO1 rfl rfl rfl (fS rfl) (by omega) (by omega) | exact a_iaO rfl rfl rfl (fS rfl) (by omega) (by omega) (by exact rfl) | exact a_ld_rowI rfl rfl rfl (fC rfl) (by omega) | exact a_build (fZ rfl) (fU rfl) rfl rfl | exact a_ifc rfl (fI rfl) | exact a_ifcs rfl (fI rfl) | exact a_fn rfl); exact rfl; exact rfl)
    | (apply ny3; exact rfl; exact rfl; (first | exact a_alloc (fZ rfl) rfl | exact a_box rfl | exact a_lit (fP rfl) (by decide) rfl (by decide) rfl rfl rfl); exact rfl; exact rfl)
    | (refine o_gs rfl rfl (fun hc => ?_) (fun hc => ?_) <;> (try simp only [decide_eq_true_eq, decide_eq_false_iff_not, Bool.not_eq_true', Bool.not_eq_false', Bool.not_eq_true, Bool.not_eq_false, Bool.and_eq_true, Bool.or_eq_false_iff, Bool.not_not] at hc) <;> (try (exfalso; omega)))
    | (refine g_cond rfl (fun hc => ?_) (fun hc => ?_) <;> (try simp only [decide_eq_true_eq, decide_eq_false_iff_not, Bool.not_eq_true', Bool.not_eq_false', Bool.not_eq_true, Bool.not_eq_false, Bool.and_eq_true, Bool.or_eq_false_iff, Bool.not_not] at hc) <;> (try (exfalso; omega)))
  · exact ends_r (.cons (.one rfl) .nil) (sle_i (by rw [szC, if_neg (by assumption)]; exact (szL_neg hc).symm)) rfl
  · exact ends_r (.cons (.one rfl) .nil) (sle_i (by unfold szC; simp [*])) rfl
@[irreducible] def eqR (a b : Rule') : Bool := decide (a = b)
theorem eqRule_ok (a b : Rule') : Does Try.prog 99 [.agg (ruC a), .agg (ruC b)] [] (.one (boo (eqR a b))) [] := by
  obtain ⟨a1, a2, a3⟩ := a
  obtain ⟨b1, b2, b3⟩ := b
  refine does_of (k := 0) Try.func99 rfl Try.ntmps99 rfl rfl fun w F0 S0 ρ0 => ?_
  dsimp only [argT, argH]
  repeat' first
    | refine g_seq ?_
    | refine g_skip ?_
    | refine g_ret ?_
    | refine g_exit ?_
    | refine g_block ?_
    | refine g_reg ?_
    | refine g_if_t rfl ?_
    | refine g_if_f rfl ?_
    | refine o_nil ?_
    | refine q_s ?_
    | refine q_sr ?_
    | refine q_se ?_
    | refine q_b ?_
    | refine q_br ?_
    | refine q_be rfl ?_
    | refine q_bn rfl ?_
    | refine q_lr ?_
    | refine q_le ?_
    | refine q_cr ?_
    | refine q_ce ?_
    | (apply p3; (first | exact a_move (sv := .one _) rfl | exact a_move (sv := .agg _) rfl | exact a_move (sv := .tup _) rfl | exact a_assign (sv := .one _) rfl | exact a_assign (sv := .agg _) rfl | exact a_assign (sv := .tup _) rfl | exact a_pick (sv := .one _) rfl rfl | exact a_pick (sv := .agg _) rfl rfl | exact a_nil rfl rfl | exact a_fa_gp rfl (fF rfl) rfl | exact a_fa_gv rfl rfl (fF rfl) | exact a_fa_imm rfl (fF rfl) rfl | exact a_ld_bx rfl rfl rfl (fC rfl) rfl | exact a_ld_imm rfl (fC rfl) rfl | exact a_lds_bx rfl rfl rfl (fA rfl) (Nat.le_of_ble_eq_true rfl) rfl | exact a_lds_imm rfl (fA rfl) (Nat.le_of_ble_eq_true rfl) rfl | exact a_extract (sv := .one _) rfl rfl rfl | exact a_extract (sv := .agg _) rfl rfl rfl | exact a_len_nil rfl (fS rfl) | exact a_lenE rfl rfl (fS rfl) (by exact rfl) | exact a_un rfl rfl | exact a_ne rfl rfl | exact a_cmp rfl rfl rfl trivial rfl | exact a_add rfl rfl (by omega) (by omega) | exact a_sub rfl rfl (by omega) (by omega) | exact a_neg rfl (by omega) (by omega) | exact a_conv64 rfl (fK rfl) (fK rfl) (by omega) (by omega) | exact a_min rfl rfl | exact a_max rfl rfl | exact a_iaE rfl rfl rfl (fS rfl) (by omega) (by omega) (by exact rfl) | exact a_iaO1 rfl rfl rfl (fS rfl) (by omega) (by omega) | exact a_iaO rfl rfl rfl (fS rfl) (by omega) (by omega) (by exact rfl) | exact a_ld_rowI rfl rfl rfl (fC rfl) (by omega) | exact a_build (fZ rfl) (fU rfl) rfl rfl | exact a_ifc rfl (fI rfl) | exact a_ifcs rfl (fI rfl) | exact a_fn rfl); exact rfl)
    | (apply n3; (first | exact a_alloc (fZ rfl) rfl | exact a_box rfl | exact a_lit (fP rfl) (by decide) rfl (by decide) rfl rfl rfl); exact rfl)
    | (apply w3; (first | exact a_st_bx rfl rfl rfl rfl (fN rfl rfl) (Nat.le_of_ble_eq_true rfl) rfl | exact a_st_rowI rfl rfl rfl rfl (fN rfl rfl) (by omega)); exact rfl)
    | refine o_no rfl rfl rfl rfl ?_
    | (apply py3; exact rfl; exact rfl; (first | exact a_move (sv := .one _) rfl | exact a_move (sv := .agg _) rfl | exact a_move (sv := .tup _) rfl | exact a_assign (sv := .one _) rfl | exact a_assign (sv := .agg _) rfl | exact a_assign (sv := .tup _) rfl | exact a_pick (sv := .one _) rfl rfl | exact a_pick (sv := .agg _) rfl rfl | exact a_nil rfl rfl | exact a_fa_gp rfl (fF rfl) rfl | exact a_fa_gv rfl rfl (fF rfl) | exact a_fa_imm rfl (fF rfl) rfl | exact a_ld_bx rfl rfl rfl (fC rfl) rfl | exact a_ld_imm rfl (fC rfl) rfl | exact a_lds_bx rfl rfl rfl (fA rfl) (Nat.le_of_ble_eq_true rfl) rfl | exact a_lds_imm rfl (fA rfl) (Nat.le_of_ble_eq_true rfl) rfl | exact a_extract (sv := .one _) rfl rfl rfl | exact a_extract (sv := .agg _) rfl rfl rfl | exact a_len_nil rfl (fS rfl) | exact a_lenE rfl rfl (fS rfl) (by exact rfl) | exact a_un rfl rfl | exact a_ne rfl rfl | exact a_cmp rfl rfl rfl trivial rfl | exact a_add rfl rfl (by omega) (by omega) | exact a_sub rfl rfl (by omega) (by omega) | exact a_neg rfl (by omega) (by omega) | exact a_conv64 rfl (fK rfl) (fK rfl) (by omega) (by omega) | exact a_min rfl rfl | exact a_max rfl rfl | exact a_iaE rfl rfl rfl (fS rfl) (by omega) (by omega) (by exact rfl) | exact a_iaO1 rfl rfl rfl (fS rfl) (by omega) (by omega) | exact a_iaO rfl rfl rfl (fS rfl) (by omega) (by omega) (by exact rfl) | exact a_ld_rowI rfl rfl rfl (fC rfl) (by omega) | exact a_build (fZ rfl) (fU rfl) rfl rfl | exact a_ifc rfl (fI rfl) | exact a_ifcs rfl (fI rfl) | exact a_fn rfl); exact rfl; exact rfl)
    | (apply ny3; exact rfl; exact rfl; (first | exact a_alloc (fZ rfl) rfl | exact a_box rfl | exact a_lit (fP rfl) (by decide) rfl (by decide) rfl rfl rfl); exact rfl; exact rfl)
    | (refine o_gs rfl rfl (fun hc => ?_) (fun hc => ?_) <;> (try simp only [decide_eq_true_eq, decide_eq_false_iff_not, Bool.not_eq_true', Bool.not_eq_false', Bool.not_eq_true, Bool.not_eq_false, Bool.and_eq_true, Bool.or_eq_false_iff, Bool.not_not] at hc) <;> (try (exfalso; omega)))
    | (refine g_cond rfl (fun hc => ?_) (fun hc => ?_) <;> (try simp only [decide_eq_true_eq, decide_eq_false_iff_not, Bool.not_eq_true', Bool.not_eq_false', Bool.not_eq_true, Bool.not_eq_false, Bool.and_eq_true, Bool.or_eq_false_iff, Bool.not_not] at hc) <;> (try (exfalso; omega)))
  all_goals exact ends_r (.cons (.one rfl) .nil) (sle_b (by unfold eqR; symm; simp [*])) rfl
@[irreducible] def eqRs (a b : List Rule') : Bool := decide (a = b)
theorem eqRuleS_ok (xs ys : List Rule') (hx : (xs.length : Int) ≤ 1048576) (hy : (ys.length : Int) ≤ 1048576) : Does Try.prog 54 [.one (shR xs), .one (shR ys)] [] (.one (boo (eqRs xs ys))) [] := by
  refine does_of (k := 0) Try.func54 rfl Try.ntmps54 rfl rfl fun w F0 S0 ρ0 => ?_
  dsimp only [argT, argH]
  repeat' first
    | refine g_seq ?_
    | refine g_skip ?_
    | refine g_ret ?_
    | refine g_exit ?_
    | refine g_block ?_
    | refine g_reg ?_
    | refine g_if_t rfl ?_
    | refine g_if_f rfl ?_
    | refine o_nil ?_
    | refine q_s ?_
    | refine q_sr ?_
    | refine q_se ?_
    | refine q_b ?_
    | refine q_br ?_
    | refine q_be rfl ?_
    | refine q_bn rfl ?_
    | refine q_lr ?_
    | refine q_le ?_
    | refine q_cr ?_
    | refine q_ce ?_
    | (apply p3; (first | exact a_move (sv := .one _) rfl | exact a_move (sv := .agg _) rfl | exact a_move (sv := .tup _) rfl | exact a_assign (sv := .one _) rfl | exact a_assign (sv := .agg _) rfl | exact a_assign (sv := .tup _) rfl | exact a_pick (sv := .one _) rfl rfl | exact a_pick (sv := .agg _) rfl rfl | exact a_nil rfl rfl | exact a_fa_gp rfl (fF rfl) rfl | exact a_fa_gv rfl rfl (fF rfl) | exact a_fa_imm rfl (fF rfl) rfl | exact a_ld_bx rfl rfl rfl (fC rfl) rfl | exact a_ld_imm rfl (fC rfl) rfl | exact a_lds_bx rfl rfl rfl (fA rfl) (Nat.le_of_ble_eq_true rfl) rfl | exact a_lds_imm rfl (fA rfl) (Nat.le_of_ble_eq_true rfl) rfl | exact a_extract (sv := .one _) rfl rfl rfl | exact a_extract (sv := .agg _) rfl rfl rfl | exact a_len_nil rfl (fS rfl) | exact a_lenE rfl rfl (fS rfl) (by exact rfl) | exact a_un rfl rfl | exact a_ne rfl rfl | exact a_cmp rfl rfl rfl trivial rfl | exact a_add rfl rfl (by omega) (by omega) | exact a_sub rfl rfl (by omega) (by omega) | exact a_neg rfl (by omega) (by omega) | exact a_conv64 rfl (fK rfl) (fK rfl) (by omega) (by omega) | exact a_min rfl rfl | exact a_max rfl rfl | exact a_iaE rfl rfl rfl (fS rfl) (by omega) (by omega) (by exact rfl) | exact a_iaO1 rfl rfl rfl (fS rfl) (by omega) (by omega) | exact a_iaO rfl rfl rfl (fS rfl) (by omega) (by omega) (by exact rfl) | exact a_ld_rowI rfl rfl rfl (fC rfl) (by omega) | exact a_build (fZ rfl) (fU rfl) rfl rfl | exact a_ifc rfl (fI rfl) | exact a_ifcs rfl (fI rfl) | exact a_fn rfl); exact rfl)
    | (apply n3; (first | exact a_alloc (fZ rfl) rfl | exact a_box rfl | exact a_lit (fP rfl) (by decide) rfl (by decide) rfl rfl rfl); exact rfl)
    | (apply w3; (first | exact a_st_bx rfl rfl rfl rfl (fN rfl rfl) (Nat.le_of_ble_eq_true rfl) rfl | exact a_st_rowI rfl rfl rfl rfl (fN rfl rfl) (by omega)); exact rfl)
    | refine o_no rfl rfl rfl rfl ?_
    | (apply py3; exact rfl; exact rfl; (first | exact a_move (sv := .one _) rfl | exact a_move (sv := .agg _) rfl | exact a_move (sv := .tup _) rfl | exact a_assign (sv := .one _) rfl | exact a_assign (sv := .agg _) rfl | exact a_assign (sv := .tup _) rfl | exact a_pick (sv := .one _) rfl rfl | exact a_pick (sv := .agg _) rfl rfl | exact a_nil rfl rfl | exact a_fa_gp rfl (fF rfl) rfl | exact a_fa_gv rfl rfl (fF rfl) | exact a_fa_imm rfl (fF rfl) rfl | exact a_ld_bx rfl rfl rfl (fC rfl) rfl | exact a_ld_imm rfl (fC rfl) rfl | exact a_lds_bx rfl rfl rfl (fA rfl) (Nat.le_of_ble_eq_true rfl) rfl | exact a_lds_imm rfl (fA rfl) (Nat.le_of_ble_eq_true rfl) rfl | exact a_extract (sv := .one _) rfl rfl rfl | exact a_extract (sv := .agg _) rfl rfl rfl | exact a_len_nil rfl (fS rfl) | exact a_lenE rfl rfl (fS rfl) (by exact rfl) | exact a_un rfl rfl | exact a_ne rfl rfl | exact a_cmp rfl rfl rfl trivial rfl | exact a_add rfl rfl (by omega) (by omega) | exact a_sub rfl rfl (by omega) (by omega) | exact a_neg rfl (by omega) (by omega) | exact a_conv64 rfl (fK rfl) (fK rfl) (by omega) (by omega) | exact a_min rfl rfl | exact a_max rfl rfl | exact a_iaE rfl rfl rfl (fS rfl) (by omega) (by omega) (by exact rfl) | exact a_iaO1 rfl rfl rfl (fS rfl) (by omega) (by omega) | exact a_iaO rfl rfl rfl (fS rfl) (by omega) (by omega) (by exact rfl) | exact a_ld_rowI rfl rfl rfl (fC rfl) (by omega) | exact a_build (fZ rfl) (fU rfl) rfl rfl | exact a_ifc rfl (fI rfl) | exact a_ifcs rfl (fI rfl) | exact a_fn rfl); exact rfl; exact rfl)
    | (apply ny3; exact rfl; exact rfl; (first | exact a_alloc (fZ rfl) rfl | exact a_box rfl | exact a_lit (fP rfl) (by decide) rfl (by decide) rfl rfl rfl); exact rfl; exact rfl)
    | (refine o_gs rfl rfl (fun hc => ?_) (fun hc => ?_) <;> (try simp only [decide_eq_true_eq, decide_eq_false_iff_not, Bool.not_eq_true', Bool.not_eq_false', Bool.not_eq_true, Bool.not_eq_false, Bool.and_eq_true, Bool.or_eq_false_iff, Bool.not_not] at hc) <;> (try (exfalso; omega)))
    | (refine g_cond rfl (fun hc => ?_) (fun hc => ?_) <;> (try simp only [decide_eq_true_eq, decide_eq_false_iff_not, Bool.not_eq_true', Bool.not_eq_false', Bool.not_eq_true, Bool.not_eq_false, Bool.and_eq_true, Bool.or_eq_false_iff, Bool.not_not] at hc) <;> (try (exfalso; omega)))
  · exact ends_r (.cons (.one rfl) .nil) (sle_b (by symm; unfold eqRs; rw [decide_eq_false_iff_not]; rintro rfl; omega)) rfl
  refine g_loop (α := Int) (fun i => 0 ≤ i ∧ i ≤ xs.length ∧ xs.take i.toNat = ys.take i.toNat) (fun i => ⟨[(0, .one (shR xs)), (1, .one (shR ys)), (5, .one (int i))], [], 0⟩) (fun i => (xs.length - i).toNat) 0 [] ⟨by simp, by simp, by simp⟩ ?_ ?_
  · exact ⟨rfl, rfl, rfl, by repeat (first | exact trivial | refine And.intro ?_ ?_ | exact SVLe.refl | exact SVLe.any | exact SVLe.one (.sh rfl) | exact SVLe.one (.nil (by decide))), by repeat (first | exact trivial | refine And.intro ?_ ?_ | exact rfl), rfl, rfl⟩
  · rintro i ⟨h0, h1, h2⟩
    repeat' first
      | refine g_seq ?_
      | refine g_skip ?_
      | refine g_ret ?_
      | refine g_exit ?_
      | refine g_block ?_
      | refine g_reg ?_
      | refine g_if_t rfl ?_
      | refine g_if_f rfl ?_
      | refine o_nil ?_
      | refine q_s ?_
      | refine q_sr ?_
      | refine q_se ?_
      | refine q_b ?_
      | refine q_br ?_
      | refine q_be rfl ?_
      | refine q_bn rfl ?_
      | refine q_lr ?_
      | refine q_le ?_
      | refine q_cr ?_
      | refine q_ce ?_
      | (apply p3; (first | exact a_move (sv := .one _) rfl | exact a_move (sv := .agg _) rfl | exact a_move (sv := .tup _) rfl | exact a_assign (sv := .one _) rfl | exact a_assign (sv := .agg _) rfl | exact a_assign (sv := .tup _) rfl | exact a_pick (sv := .one _) rfl rfl | exact a_pick (sv := .agg _) rfl rfl | exact a_nil rfl rfl | exact a_fa_gp rfl (fF rfl) rfl | exact a_fa_gv rfl rfl (fF rfl) | exact a_fa_imm rfl (fF rfl) rfl | exact a_ld_bx rfl rfl rfl (fC rfl) rfl | exact a_ld_imm rfl (fC rfl) rfl | exact a_lds_bx rfl rfl rfl (fA rfl) (Nat.le_of_ble_eq_true rfl) rfl | exact a_lds_imm rfl (fA rfl) (Nat.le_of_ble_eq_true rfl) rfl | exact a_extract (sv := .one _) rfl rfl rfl | exact a_extract (sv := .agg _) rfl rfl rfl | exact a_len_nil rfl (fS rfl) | exact a_lenE rfl rfl (fS rfl) (by exact rfl) | exact a_un rfl rfl | exact a_ne rfl rfl | exact a_cmp rfl rfl rfl trivial rfl | exact a_add rfl rfl (by omega) (by omega) | exact a_sub rfl rfl (by omega) (by omega) | exact a_neg rfl (by omega) (by omega) | exact a_conv64 rfl (fK rfl) (fK rfl) (by omega) (by omega) | exact a_min rfl rfl | exact a_max rfl rfl | exact a_iaE rfl rfl rfl (fS rfl) (by omega) (by omega) (by exact rfl) | exact a_iaO1 rfl rfl rfl (fS rfl) (by omega) (by omega) | exact a_iaO rfl rfl rfl (fS rfl) (by omega) (by omega) (by exact rfl) | exact a_ld_rowI rfl rfl rfl (fC rfl) (by omega) | exact a_build (fZ rfl) (fU rfl) rfl rfl | exact a_ifc rfl (fI rfl) | exact a_ifcs rfl (fI rfl) | exact a_fn rfl); exact rfl)
      | (apply n3; (first | exact a_alloc (fZ rfl) rfl | exact a_box rfl | exact a_lit (fP rfl) (by decide) rfl (by decide) rfl rfl rfl); exact rfl)
      | (apply w3; (first | exact a_st_bx rfl rfl rfl rfl (fN rfl rfl) (Nat.le_of_ble_eq_true rfl) rfl | exact a_st_rowI rfl rfl rfl rfl (fN rfl rfl) (by omega)); exact rfl)
      | refine o_no rfl rfl rfl rfl ?_
      | (apply py3; exact rfl; exact rfl; (first | exact a_move (sv := .one _) rfl | exact a_move (sv := .agg _) rfl | exact a_move (sv := .tup _) rfl | exact a_assign (sv := .one _) rfl | exact a_assign (sv := .agg _) rfl | exact a_assign (sv := .tup _) rfl | exact a_pick (sv := .one _) rfl rfl | exact a_pick (sv := .agg _) rfl rfl | exact a_nil rfl rfl | exact a_fa_gp rfl (fF rfl) rfl | exact a_fa_gv rfl rfl (fF rfl) | exact a_fa_imm rfl (fF rfl) rfl | exact a_ld_bx rfl rfl rfl (fC rfl) rfl | exact a_ld_imm rfl (fC rfl) rfl | exact a_lds_bx rfl rfl rfl (fA rfl) (Nat.le_of_ble_eq_true rfl) rfl | exact a_lds_imm rfl (fA rfl) (Nat.le_of_ble_eq_true rfl) rfl | exact a_extract (sv := .one _) rfl rfl rfl | exact a_extract (sv := .agg _) rfl rfl rfl | exact a_len_nil rfl (fS rfl) | exact a_lenE rfl rfl (fS rfl) (by exact rfl) | exact a_un rfl rfl | exact a_ne rfl rfl | exact a_cmp rfl rfl rfl trivial rfl | exact a_add rfl rfl (by omega) (by omega) | exact a_sub rfl rfl (by omega) (by omega) | exact a_neg rfl (by omega) (by omega) | exact a_conv64 rfl (fK rfl) (fK rfl) (by omega) (by omega) | exact a_min rfl rfl | exact a_max rfl rfl | exact a_iaE rfl rfl rfl (fS rfl) (by omega) (by omega) (by exact rfl) | exact a_iaO1 rfl rfl rfl (fS rfl) (by omega) (by omega) | exact a_iaO rfl rfl rfl (fS rfl) (by omega) (by omega) (by exact rfl) | exact a_ld_rowI rfl rfl rfl (fC rfl) (by omega) | exact a_build (fZ rfl) (fU rfl) rfl rfl | exact a_ifc rfl (fI rfl) | exact a_ifcs rfl (fI rfl) | exact a_fn rfl); exact rfl; exact rfl)
      | (apply ny3; exact rfl; exact rfl; (first | exact a_alloc (fZ rfl) rfl | exact a_box rfl | exact a_lit (fP rfl) (by decide) rfl (by decide) rfl rfl rfl); exact rfl; exact rfl)
      | (refine o_gs rfl rfl (fun hc => ?_) (fun hc => ?_) <;> (try simp only [decide_eq_true_eq, decide_eq_false_iff_not, Bool.not_eq_true', Bool.not_eq_false', Bool.not_eq_true, Bool.not_eq_false, Bool.and_eq_true, Bool.or_eq_false_iff, Bool.not_not] at hc) <;> (try (exfalso; omega)))
      | (refine g_cond rfl (fun hc => ?_) (fun hc => ?_) <;> (try simp only [decide_eq_true_eq, decide_eq_false_iff_not, Bool.not_eq_true', Bool.not_eq_false', Bool.not_eq_true, Bool.not_eq_false, Bool.and_eq_true, Bool.or_eq_false_iff, Bool.not_not] at hc) <;> (try (exfalso; omega)))
    · refine g_dr okM [[], [], [0, 1], [0, 1, 2], [], [], [4, 5], [4, 5, 6], [0, 1, 2, 3, 4, 5, 6, 7], [0, 1, 2, 3, 4, 5, 6, 7, 8]] [([], []), ([], []), ([], []), ([], []), ([], []), ([], []), ([], []), ([], []), ([], []), ([], [])] 0 (by kernel_rfl) (by kernel_rfl) (by kernel_rfl) ?_
      all_goals (apply d_p (i := 0) (fs := []) (u := [18, 21, 22, 23, 24]) (uk := []); (first | exact a_move (sv := .one _) rfl | exact a_move (sv := .agg _) rfl | exact a_move (sv := .tup _) rfl | exact a_assign (sv := .one _) rfl | exact a_assign (sv := .agg _) rfl | exact a_assign (sv := .tup _) rfl | exact a_pick (sv := .one _) rfl rfl | exact a_pick (sv := .agg _) rfl rfl | exact a_nil rfl rfl | exact a_fa_gp rfl (fF rfl) rfl | exact a_fa_gv rfl rfl (fF rfl) | exact a_fa_imm rfl (fF rfl) rfl | exact a_ld_bx rfl rfl rfl (fC rfl) rfl | exact a_ld_imm rfl (fC rfl) rfl | exact a_lds_bx rfl rfl rfl (fA rfl) (Nat.le_of_ble_eq_true rfl) rfl | exact a_lds_imm rfl (fA rfl) (Nat.le_of_ble_eq_true rfl) rfl | exact a_extract (sv := .one _) rfl rfl rfl | exact a_extract (sv := .agg _) rfl rfl rfl | exact a_len_nil rfl (fS rfl) | exact a_lenE rfl rfl (fS rfl) (by exact rfl) | exact a_un rfl rfl | exact a_ne rfl rfl | exact a_cmp rfl rfl rfl trivial rfl | exact a_add rfl rfl (by omega) (by omega) | exact a_sub rfl rfl (by omega) (by omega) | exact a_neg rfl (by omega) (by omega) | exact a_conv64 rfl (fK rfl) (fK rfl) (by omega) (by omega) | exact a_min rfl rfl | exact a_max rfl rfl | exact a_iaE rfl rfl rfl (fS rfl) (by omega) (by omega) (by exact rfl) | exact a_iaO1 rfl rfl rfl (fS rfl) (by omega) (by omega) | exact a_iaO rfl rfl rfl (fS rfl) (by omega) (by omega) (by exact rfl) | exact a_ld_rowI rfl rfl rfl (fC rfl) (by omega) | exact a_build (fZ rfl) (fU rfl) rfl rfl | exact a_ifc rfl (fI rfl) | exact a_ifcs rfl (fI rfl) | exact a_fn rfl); exact rfl; kernel_rfl; kernel_rfl; kernel_rfl; exact rfl; exact rfl)
      all_goals (apply d_p (i := 1) (fs := [false]) (u := [17, 21, 22, 23, 24]) (uk := []); (first | exact a_move (sv := .one _) rfl | exact a_move (sv := .agg _) rfl | exact a_move (sv := .tup _) rfl | exact a_assign (sv := .one _) rfl | exact a_assign (sv := .agg _) rfl | exact a_assign (sv := .tup _) rfl | exact a_pick (sv := .one _) rfl rfl | exact a_pick (sv := .agg _) rfl rfl | exact a_nil rfl rfl | exact a_fa_gp rfl (fF rfl) rfl | exact a_fa_gv rfl rfl (fF rfl) | exact a_fa_imm rfl (fF rfl) rfl | exact a_ld_bx rfl rfl rfl (fC rfl) rfl | exact a_ld_imm rfl (fC rfl) rfl | exact a_lds_bx rfl rfl rfl (fA rfl) (Nat.le_of_ble_eq_true rfl) rfl | exact a_lds_imm rfl (fA rfl) (Nat.le_of_ble_eq_true rfl) rfl | exact a_extract (sv := .one _) rfl rfl rfl | exact a_extract (sv := .agg _) rfl rfl rfl | exact a_len_nil rfl (fS rfl) | exact a_lenE rfl rfl (fS rfl) (by exact rfl) | exact a_un rfl rfl | exact a_ne rfl rfl | exact a_cmp rfl rfl rfl trivial rfl | exact a_add rfl rfl (by omega) (by omega) | exact a_sub rfl rfl (by omega) (by omega) | exact a_neg rfl (by omega) (by omega) | exact a_conv64 rfl (fK rfl) (fK rfl) (by omega) (by omega) | exact a_min rfl rfl | exact a_max rfl rfl | exact a_iaE rfl rfl rfl (fS rfl) (by omega) (by omega) (by exact rfl) | exact a_iaO1 rfl rfl rfl (fS rfl) (by omega) (by omega) | exact a_iaO rfl rfl rfl (fS rfl) (by omega) (by omega) (by exact rfl) | exact a_ld_rowI rfl rfl rfl (fC rfl) (by omega) | exact a_build (fZ rfl) (fU rfl) rfl rfl | exact a_ifc rfl (fI rfl) | exact a_ifcs rfl (fI rfl) | exact a_fn rfl); exact rfl; kernel_rfl; kernel_rfl; kernel_rfl; exact rfl; exact rfl)
      all_goals (apply d_p (i := 2) (fs := [true, true]) (u := [21, 22, 23, 24]) (uk := []); (first | exact a_move (sv := .one _) rfl | exact a_move (sv := .agg _) rfl | exact a_move (sv := .tup _) rfl | exact a_assign (sv := .one _) rfl | exact a_assign (sv := .agg _) rfl | exact a_assign (sv := .tup _) rfl | exact a_pick (sv := .one _) rfl rfl | exact a_pick (sv := .agg _) rfl rfl | exact a_nil rfl rfl | exact a_fa_gp rfl (fF rfl) rfl | exact a_fa_gv rfl rfl (fF rfl) | exact a_fa_imm rfl (fF rfl) rfl | exact a_ld_bx rfl rfl rfl (fC rfl) rfl | exact a_ld_imm rfl (fC rfl) rfl | exact a_lds_bx rfl rfl rfl (fA rfl) (Nat.le_of_ble_eq_true rfl) rfl | exact a_lds_imm rfl (fA rfl) (Nat.le_of_ble_eq_true rfl) rfl | exact a_extract (sv := .one _) rfl rfl rfl | exact a_extract (sv := .agg _) rfl rfl rfl | exact a_len_nil rfl (fS rfl) | exact a_lenE rfl rfl (fS rfl) (by exact rfl) | exact a_un rfl rfl | exact a_ne rfl rfl | exact a_cmp rfl rfl rfl trivial rfl | exact a_add rfl rfl (by omega) (by omega) | exact a_sub rfl rfl (by omega) (by omega) | exact a_neg rfl (by omega) (by omega) | exact a_conv64 rfl (fK rfl) (fK rfl) (by omega) (by omega) | exact a_min rfl rfl | exact a_max rfl rfl | exact a_iaE rfl rfl rfl (fS rfl) (by omega) (by omega) (by exact rfl) | exact a_iaO1 rfl rfl rfl (fS rfl) (by omega) (by omega) | exact a_iaO rfl rfl rfl (fS rfl) (by omega) (by omega) (by exact rfl) | exact a_ld_rowI rfl rfl rfl (fC rfl) (by omega) | exact a_build (fZ rfl) (fU rfl) rfl rfl | exact a_ifc rfl (fI rfl) | exact a_ifcs rfl (fI rfl) | exact a_fn rfl); exact rfl; kernel_rfl; kernel_rfl; kernel_rfl; exact rfl; exact rfl)
      all_goals (apply d_p (i := 3) (fs := [true, true, true]) (u := [21, 22, 23, 24]) (uk := []); (first | exact a_move (sv := .one _) rfl | exact a_move (sv := .agg _) rfl | exact a_move (sv := .tup _) rfl | exact a_assign (sv := .one _) rfl | exact a_assign (sv := .agg _) rfl | exact a_assign (sv := .tup _) rfl | exact a_pick (sv := .one _) rfl rfl | exact a_pick (sv := .agg _) rfl rfl | exact a_nil rfl rfl | exact a_fa_gp rfl (fF rfl) rfl | exact a_fa_gv rfl rfl (fF rfl) | exact a_fa_imm rfl (fF rfl) rfl | exact a_ld_bx rfl rfl rfl (fC rfl) rfl | exact a_ld_imm rfl (fC rfl) rfl | exact a_lds_bx rfl rfl rfl (fA rfl) (Nat.le_of_ble_eq_true rfl) rfl | exact a_lds_imm rfl (fA rfl) (Nat.le_of_ble_eq_true rfl) rfl | exact a_extract (sv := .one _) rfl rfl rfl | exact a_extract (sv := .agg _) rfl rfl rfl | exact a_len_nil rfl (fS rfl) | exact a_lenE rfl rfl (fS rfl) (by exact rfl) | exact a_un rfl rfl | exact a_ne rfl rfl | exact a_cmp rfl rfl rfl trivial rfl | exact a_add rfl rfl (by omega) (by omega) | exact a_sub rfl rfl (by omega) (by omega) | exact a_neg rfl (by omega) (by omega) | exact a_conv64 rfl (fK rfl) (fK rfl) (by omega) (by omega) | exact a_min rfl rfl | exact a_max rfl rfl | exact a_iaE rfl rfl rfl (fS rfl) (by omega) (by omega) (by exact rfl) | exact a_iaO1 rfl rfl rfl (fS rfl) (by omega) (by omega) | exact a_iaO rfl rfl rfl (fS rfl) (by omega) (by omega) (by exact rfl) | exact a_ld_rowI rfl rfl rfl (fC rfl) (by omega) | exact a_build (fZ rfl) (fU rfl) rfl rfl | exact a_ifc rfl (fI rfl) | exact a_ifcs rfl (fI rfl) | exact a_fn rfl); exact rfl; kernel_rfl; kernel_rfl; kernel_rfl; exact rfl; exact rfl)
      all_goals (apply d_p (i := 4) (fs := [false, false, false, false]) (u := [17, 18, 19, 20, 22]) (uk := []); (first | exact a_move (sv := .one _) rfl | exact a_move (sv := .agg _) rfl | exact a_move (sv := .tup _) rfl | exact a_assign (sv := .one _) rfl | exact a_assign (sv := .agg _) rfl | exact a_assign (sv := .tup _) rfl | exact a_pick (sv := .one _) rfl rfl | exact a_pick (sv := .agg _) rfl rfl | exact a_nil rfl rfl | exact a_fa_gp rfl (fF rfl) rfl | exact a_fa_gv rfl rfl (fF rfl) | exact a_fa_imm rfl (fF rfl) rfl | exact a_ld_bx rfl rfl rfl (fC rfl) rfl | exact a_ld_imm rfl (fC rfl) rfl | exact a_lds_bx rfl rfl rfl (fA rfl) (Nat.le_of_ble_eq_true rfl) rfl | exact a_lds_imm rfl (fA rfl) (Nat.le_of_ble_eq_true rfl) rfl | exact a_extract (sv := .one _) rfl rfl rfl | exact a_extract (sv := .agg _) rfl rfl rfl | exact a_len_nil rfl (fS rfl) | exact a_lenE rfl rfl (fS rfl) (by exact rfl) | exact a_un rfl rfl | exact a_ne rfl rfl | exact a_cmp rfl rfl rfl trivial rfl | exact a_add rfl rfl (by omega) (by omega) | exact a_sub rfl rfl (by omega) (by omega) | exact a_neg rfl (by omega) (by omega) | exact a_conv64 rfl (fK rfl) (fK rfl) (by omega) (by omega) | exact a_min rfl rfl | exact a_max rfl rfl | exact a_iaE rfl rfl rfl (fS rfl) (by omega) (by omega) (by exact rfl) | exact a_iaO1 rfl rfl rfl (fS rfl) (by omega) (by omega) | exact a_iaO rfl rfl rfl (fS rfl) (by omega) (by omega) (by exact rfl) | exact a_ld_rowI rfl rfl rfl (fC rfl) (by omega) | exact a_build (fZ rfl) (fU rfl) rfl rfl | exact a_ifc rfl (fI rfl) | exact a_ifcs rfl (fI rfl) | exact a_fn rfl); exact rfl; kernel_rfl; kernel_rfl; kernel_rfl; exact rfl; exact rfl)
      all_goals (apply d_p (i := 5) (fs := [false, false, false, false, false]) (u := [17, 18, 19, 20, 21]) (uk := []); (first | exact a_move (sv := .one _) rfl | exact a_move (sv := .agg _) rfl | exact a_move (sv := .tup _) rfl | exact a_assign (sv := .one _) rfl | exact a_assign (sv := .agg _) rfl | exact a_assign (sv := .tup _) rfl | exact a_pick (sv := .one _) rfl rfl | exact a_pick (sv := .agg _) rfl rfl | exact a_nil rfl rfl | exact a_fa_gp rfl (fF rfl) rfl | exact a_fa_gv rfl rfl (fF rfl) | exact a_fa_imm rfl (fF rfl) rfl | exact a_ld_bx rfl rfl rfl (fC rfl) rfl | exact a_ld_imm rfl (fC rfl) rfl | exact a_lds_bx rfl rfl rfl (fA rfl) (Nat.le_of_ble_eq_true rfl) rfl | exact a_lds_imm rfl (fA rfl) (Nat.le_of_ble_eq_true rfl) rfl | exact a_extract (sv := .one _) rfl rfl rfl | exact a_extract (sv := .agg _) rfl rfl rfl | exact a_len_nil rfl (fS rfl) | exact a_lenE rfl rfl (fS rfl) (by exact rfl) | exact a_un rfl rfl | exact a_ne rfl rfl | exact a_cmp rfl rfl rfl trivial rfl | exact a_add rfl rfl (by omega) (by omega) | exact a_sub rfl rfl (by omega) (by omega) | exact a_neg rfl (by omega) (by omega) | exact a_conv64 rfl (fK rfl) (fK rfl) (by omega) (by omega) | exact a_min rfl rfl | exact a_max rfl rfl | exact a_iaE rfl rfl rfl (fS rfl) (by omega) (by omega) (by exact rfl) | exact a_iaO1 rfl rfl rfl (fS rfl) (by omega) (by omega) | exact a_iaO rfl rfl rfl (fS rfl) (by omega) (by omega) (by exact rfl) | exact a_ld_rowI rfl rfl rfl (fC rfl) (by omega) | exact a_build (fZ rfl) (fU rfl) rfl rfl | exact a_ifc rfl (fI rfl) | exact a_ifcs rfl (fI rfl) | exact a_fn rfl); exact rfl; kernel_rfl; kernel_rfl; kernel_rfl; exact rfl; exact rfl)
      all_goals (apply d_p (i := 6) (fs := [true, true, false, false, false, false]) (u := [17, 18, 19, 20]) (uk := []); (first | exact a_move (sv := .one _) rfl | exact a_move (sv := .agg _) rfl | exact a_move (sv := .tup _) rfl | exact a_assign (sv := .one _) rfl | exact a_assign (sv := .agg _) rfl | exact a_assign (sv := .tup _) rfl | exact a_pick (sv := .one _) rfl rfl | exact a_pick (sv := .agg _) rfl rfl | exact a_nil rfl rfl | exact a_fa_gp rfl (fF rfl) rfl | exact a_fa_gv rfl rfl (fF rfl) | exact a_fa_imm rfl (fF rfl) rfl | exact a_ld_bx rfl rfl rfl (fC rfl) rfl | exact a_ld_imm rfl (fC rfl) rfl | exact a_lds_bx rfl rfl rfl (fA rfl) (Nat.le_of_ble_eq_true rfl) rfl | exact a_lds_imm rfl (fA rfl) (Nat.le_of_ble_eq_true rfl) rfl | exact a_extract (sv := .one _) rfl rfl rfl | exact a_extract (sv := .agg _) rfl rfl rfl | exact a_len_nil rfl (fS rfl) | exact a_lenE rfl rfl (fS rfl) (by exact rfl) | exact a_un rfl rfl | exact a_ne rfl rfl | exact a_cmp rfl rfl rfl trivial rfl | exact a_add rfl rfl (by omega) (by omega) | exact a_sub rfl rfl (by omega) (by omega) | exact a_neg rfl (by omega) (by omega) | exact a_conv64 rfl (fK rfl) (fK rfl) (by omega) (by omega) | exact a_min rfl rfl | exact a_max rfl rfl | exact a_iaE rfl rfl rfl (fS rfl) (by omega) (by omega) (by exact rfl) | exact a_iaO1 rfl rfl rfl (fS rfl) (by omega) (by omega) | exact a_iaO rfl rfl rfl (fS rfl) (by omega) (by omega) (by exact rfl) | exact a_ld_rowI rfl rfl rfl (fC rfl) (by omega) | exact a_build (fZ rfl) (fU rfl) rfl rfl | exact a_ifc rfl (fI rfl) | exact a_ifcs rfl (fI rfl) | exact a_fn rfl); exact rfl; kernel_rfl; kernel_rfl; kernel_rfl; exact rfl; exact rfl)
      all_goals (apply d_p (i := 7) (fs := [true, true, true, false, false, false, false]) (u := [17, 18, 19, 20]) (uk := []); (first | exact a_move (sv := .one _) rfl | exact a_move (sv := .agg _) rfl | exact a_move (sv := .tup _) rfl | exact a_assign (sv := .one _) rfl | exact a_assign (sv := .agg _) rfl | exact a_assign (sv := .tup _) rfl | exact a_pick (sv := .one _) rfl rfl | exact a_pick (sv := .agg _) rfl rfl | exact a_nil rfl rfl | exact a_fa_gp rfl (fF rfl) rfl | exact a_fa_gv rfl rfl (fF rfl) | exact a_fa_imm rfl (fF rfl) rfl | exact a_ld_bx rfl rfl rfl (fC rfl) rfl | exact a_ld_imm rfl (fC rfl) rfl | exact a_lds_bx rfl rfl rfl (fA rfl) (Nat.le_of_ble_eq_true rfl) rfl | exact a_lds_imm rfl (fA rfl) (Nat.le_of_ble_eq_true rfl) rfl | exact a_extract (sv := .one _) rfl rfl rfl | exact a_extract (sv := .agg _) rfl rfl rfl | exact a_len_nil rfl (fS rfl) | exact a_lenE rfl rfl (fS rfl) (by exact rfl) | exact a_un rfl rfl | exact a_ne rfl rfl | exact a_cmp rfl rfl rfl trivial rfl | exact a_add rfl rfl (by omega) (by omega) | exact a_sub rfl rfl (by omega) (by omega) | exact a_neg rfl (by omega) (by omega) | exact a_conv64 rfl (fK rfl) (fK rfl) (by omega) (by omega) | exact a_min rfl rfl | exact a_max rfl rfl | exact a_iaE rfl rfl rfl (fS rfl) (by omega) (by omega) (by exact rfl) | exact a_iaO1 rfl rfl rfl (fS rfl) (by omega) (by omega) | exact a_iaO rfl rfl rfl (fS rfl) (by omega) (by omega) (by exact rfl) | exact a_ld_rowI rfl rfl rfl (fC rfl) (by omega) | exact a_build (fZ rfl) (fU rfl) rfl rfl | exact a_ifc rfl (fI rfl) | exact a_ifcs rfl (fI rfl) | exact a_fn rfl); exact rfl; kernel_rfl; kernel_rfl; kernel_rfl; exact rfl; exact rfl)
      all_goals (apply d_p (i := 8) (fs := [true, true, true, true, true, true, true, true]) (u := []) (uk := []); (first | exact a_call (θ := []) (ld := []) (m := 0) (eqRule_ok (xs[i.toNat]'(by omega)) (ys[i.toNat]'(by omega))) rfl rfl (fQ rfl) (by repeat (first | exact ASLe.nil | refine ASLe.cons ?_ ?_ | exact SVLe.refl | exact SVLe.one (.sh rfl) | exact SVLe.one (.nil (by decide)) | exact SVLe.one (.lend (by simp) rfl (noOwnI _)) | exact SVLe.one (.lend (by simp) rfl (noOwnR _)) | exact SVLe.agg (by repeat (first | exact CsLe.nil | refine CsLe.cons ?_ ?_ | exact CLe.refl | exact CLe.sh rfl | exact CLe.nil (by decide) | exact CLe.lend (by simp) rfl (noOwnI _) | exact CLe.lend (by simp) rfl (noOwnR _))))) (by repeat (first | exact trivial | refine And.intro ?_ ?_ | exact rfl)) rfl rfl rfl rfl (.inl rfl) rfl rfl rfl rfl rfl rfl); exact rfl; kernel_rfl; kernel_rfl; kernel_rfl; exact rfl; exact rfl)
      all_goals (apply d_p (i := 9) (fs := [true, true, true, true, true, true, true, true, true]) (u := []) (uk := []); (first | exact a_move (sv := .one _) rfl | exact a_move (sv := .agg _) rfl | exact a_move (sv := .tup _) rfl | exact a_assign (sv := .one _) rfl | exact a_assign (sv := .agg _) rfl | exact a_assign (sv := .tup _) rfl | exact a_pick (sv := .one _) rfl rfl | exact a_pick (sv := .agg _) rfl rfl | exact a_nil rfl rfl | exact a_fa_gp rfl (fF rfl) rfl | exact a_fa_gv rfl rfl (fF rfl) | exact a_fa_imm rfl (fF rfl) rfl | exact a_ld_bx rfl rfl rfl (fC rfl) rfl | exact a_ld_imm rfl (fC rfl) rfl | exact a_lds_bx rfl rfl rfl (fA rfl) (Nat.le_of_ble_eq_true rfl) rfl | exact a_lds_imm rfl (fA rfl) (Nat.le_of_ble_eq_true rfl) rfl | exact a_extract (sv := .one _) rfl rfl rfl | exact a_extract (sv := .agg _) rfl rfl rfl | exact a_len_nil rfl (fS rfl) | exact a_lenE rfl rfl (fS rfl) (by exact rfl) | exact a_un rfl rfl | exact a_ne rfl rfl | exact a_cmp rfl rfl rfl trivial rfl | exact a_add rfl rfl (by omega) (by omega) | exact a_sub rfl rfl (by omega) (by omega) | exact a_neg rfl (by omega) (by omega) | exact a_conv64 rfl (fK rfl) (fK rfl) (by omega) (by omega) | exact a_min rfl rfl | exact a_max rfl rfl | exact a_iaE rfl rfl rfl (fS rfl) (by omega) (by omega) (by exact rfl) | exact a_iaO1 rfl rfl rfl (fS rfl) (by omega) (by omega) | exact a_iaO rfl rfl rfl (fS rfl) (by omega) (by omega) (by exact rfl) | exact a_ld_rowI rfl rfl rfl (fC rfl) (by omega) | exact a_build (fZ rfl) (fU rfl) rfl rfl | exact a_ifc rfl (fI rfl) | exact a_ifcs rfl (fI rfl) | exact a_fn rfl); exact rfl; kernel_rfl; kernel_rfl; kernel_rfl; exact rfl; exact rfl)
      all_goals (refine d_nil ?_; dsimp only [selT, selH, trues, SV.ren, C.ren, C.ren.all, tRen, GB.ren, calF, upOf, List.cons_append, List.nil_append, Nat.reduceAdd])
      repeat' first
        | refine g_seq ?_
        | refine g_skip ?_
        | refine g_ret ?_
        | refine g_exit ?_
        | refine g_block ?_
        | refine g_reg ?_
        | refine g_if_t rfl ?_
        | refine g_if_f rfl ?_
        | refine o_nil ?_
        | refine q_s ?_
        | refine q_sr ?_
        | refine q_se ?_
        | refine q_b ?_
        | refine q_br ?_
        | refine q_be rfl ?_
        | refine q_bn rfl ?_
        | refine q_lr ?_
        | refine q_le ?_
        | refine q_cr ?_
        | refine q_ce ?_
        | (apply p3; (first | exact a_move (sv := .one _) rfl | exact a_move (sv := .agg _) rfl | exact a_move (sv := .tup _) rfl | exact a_assign (sv := .one _) rfl | exact a_assign (sv := .agg _) rfl | exact a_assign (sv := .tup _) rfl | exact a_pick (sv := .one _) rfl rfl | exact a_pick (sv := .agg _) rfl rfl | exact a_nil rfl rfl | exact a_fa_gp rfl (fF rfl) rfl | exact a_fa_gv rfl rfl (fF rfl) | exact a_fa_imm rfl (fF rfl) rfl | exact a_ld_bx rfl rfl rfl (fC rfl) rfl | exact a_ld_imm rfl (fC rfl) rfl | exact a_lds_bx rfl rfl rfl (fA rfl) (Nat.le_of_ble_eq_true rfl) rfl | exact a_lds_imm rfl (fA rfl) (Nat.le_of_ble_eq_true rfl) rfl | exact a_extract (sv := .one _) rfl rfl rfl | exact a_extract (sv := .agg _) rfl rfl rfl | exact a_len_nil rfl (fS rfl) | exact a_lenE rfl rfl (fS rfl) (by exact rfl) | exact a_un rfl rfl | exact a_ne rfl rfl | exact a_cmp rfl rfl rfl trivial rfl | exact a_add rfl rfl (by omega) (by omega) | exact a_sub rfl rfl (by omega) (by omega) | exact a_neg rfl (by omega) (by omega) | exact a_conv64 rfl (fK rfl) (fK rfl) (by omega) (by omega) | exact a_min rfl rfl | exact a_max rfl rfl | exact a_iaE rfl rfl rfl (fS rfl) (by omega) (by omega) (by exact rfl) | exact a_iaO1 rfl rfl rfl (fS rfl) (by omega) (by omega) | exact a_iaO rfl rfl rfl (fS rfl) (by omega) (by omega) (by exact rfl) | exact a_ld_rowI rfl rfl rfl (fC rfl) (by omega) | exact a_build (fZ rfl) (fU rfl) rfl rfl | exact a_ifc rfl (fI rfl) | exact a_ifcs rfl (fI rfl) | exact a_fn rfl); exact rfl)
        | (apply n3; (first | exact a_alloc (fZ rfl) rfl | exact a_box rfl | exact a_lit (fP rfl) (by decide) rfl (by decide) rfl rfl rfl); exact rfl)
        | (apply w3; (first | exact a_st_bx rfl rfl rfl rfl (fN rfl rfl) (Nat.le_of_ble_eq_true rfl) rfl | exact a_st_rowI rfl rfl rfl rfl (fN rfl rfl) (by omega)); exact rfl)
        | refine o_no rfl rfl rfl rfl ?_
        | (apply py3; exact rfl; exact rfl; (first | exact a_move (sv := .one _) rfl | exact a_move (sv := .agg _) rfl | exact a_move (sv := .tup _) rfl | exact a_assign (sv := .one _) rfl | exact a_assign (sv := .agg _) rfl | exact a_assign (sv := .tup _) rfl | exact a_pick (sv := .one _) rfl rfl | exact a_pick (sv := .agg _) rfl rfl | exact a_nil rfl rfl | exact a_fa_gp rfl (fF rfl) rfl | exact a_fa_gv rfl rfl (fF rfl) | exact a_fa_imm rfl (fF rfl) rfl | exact a_ld_bx rfl rfl rfl (fC rfl) rfl | exact a_ld_imm rfl (fC rfl) rfl | exact a_lds_bx rfl rfl rfl (fA rfl) (Nat.le_of_ble_eq_true rfl) rfl | exact a_lds_imm rfl (fA rfl) (Nat.le_of_ble_eq_true rfl) rfl | exact a_extract (sv := .one _) rfl rfl rfl | exact a_extract (sv := .agg _) rfl rfl rfl | exact a_len_nil rfl (fS rfl) | exact a_lenE rfl rfl (fS rfl) (by exact rfl) | exact a_un rfl rfl | exact a_ne rfl rfl | exact a_cmp rfl rfl rfl trivial rfl | exact a_add rfl rfl (by omega) (by omega) | exact a_sub rfl rfl (by omega) (by omega) | exact a_neg rfl (by omega) (by omega) | exact a_conv64 rfl (fK rfl) (fK rfl) (by omega) (by omega) | exact a_min rfl rfl | exact a_max rfl rfl | exact a_iaE rfl rfl rfl (fS rfl) (by omega) (by omega) (by exact rfl) | exact a_iaO1 rfl rfl rfl (fS rfl) (by omega) (by omega) | exact a_iaO rfl rfl rfl (fS rfl) (by omega) (by omega) (by exact rfl) | exact a_ld_rowI rfl rfl rfl (fC rfl) (by omega) | exact a_build (fZ rfl) (fU rfl) rfl rfl | exact a_ifc rfl (fI rfl) | exact a_ifcs rfl (fI rfl) | exact a_fn rfl); exact rfl; exact rfl)
        | (apply ny3; exact rfl; exact rfl; (first | exact a_alloc (fZ rfl) rfl | exact a_box rfl | exact a_lit (fP rfl) (by decide) rfl (by decide) rfl rfl rfl); exact rfl; exact rfl)
        | (refine o_gs rfl rfl (fun hc => ?_) (fun hc => ?_) <;> (try simp only [decide_eq_true_eq, decide_eq_false_iff_not, Bool.not_eq_true', Bool.not_eq_false', Bool.not_eq_true, Bool.not_eq_false, Bool.and_eq_true, Bool.or_eq_false_iff, Bool.not_not] at hc) <;> (try (exfalso; omega)))
        | (refine g_cond rfl (fun hc => ?_) (fun hc => ?_) <;> (try simp only [decide_eq_true_eq, decide_eq_false_iff_not, Bool.not_eq_true', Bool.not_eq_false', Bool.not_eq_true, Bool.not_eq_false, Bool.and_eq_true, Bool.or_eq_false_iff, Bool.not_not] at hc) <;> (try (exfalso; omega)))
      · exact ends_r (.cons (.one rfl) .nil) (sle_b (by symm; unfold eqRs; rw [decide_eq_false_iff_not]; rintro rfl; simp [eqR] at hc)) rfl
      · refine .again (i + 1) [] ⟨by omega, by omega, ?_⟩ (by omega) ?_
        · unfold eqR at hc
          rw [decide_eq_true_eq] at hc
          rw [show (i + 1).toNat = i.toNat + 1 by omega, List.take_succ_eq_append_getElem (by omega), List.take_succ_eq_append_getElem (by omega), h2, hc]
        · exact ⟨rfl, rfl, rfl, by repeat (first | exact trivial | refine And.intro ?_ ?_ | exact SVLe.refl | exact SVLe.any | exact SVLe.one (.sh rfl) | exact SVLe.one (.nil (by decide))), by repeat (first | exact trivial | refine And.intro ?_ ?_ | exact rfl), rfl, rfl⟩
    · refine ends_r (.cons (.one rfl) .nil) (sle_b ?_) rfl
      symm
      unfold eqRs
      rw [decide_eq_true_eq]
      rw [List.take_of_length_le (by omega), List.take_of_length_le (by omega)] at h2
      exact h2
@[irreducible] def eqM (a b : Mach) : Bool := decide (a.sy = b.sy ∧ a.st = b.st ∧ a.ru = b.ru)
theorem eqMachine_ok (a b : Mach) (ha : (a.ru.length : Int) ≤ 1048576) (hb : (b.ru.length : Int) ≤ 1048576) : Does Try.prog 15 [.agg (maC a), .agg (maC b)] [] (.one (boo (eqM a b))) [] := by
  refine does_of (k := 0) Try.func15 rfl Try.ntmps15 rfl rfl fun w F0 S0 ρ0 => ?_
  dsimp only [argT, argH]
  repeat' first
    | refine g_seq ?_
    | refine g_skip ?_
    | refine g_ret ?_
    | refine g_exit ?_
    | refine g_block ?_
    | refine g_reg ?_
    | refine g_if_t rfl ?_
    | refine g_if_f rfl ?_
    | refine o_nil ?_
    | refine q_s ?_
    | refine q_sr ?_
    | refine q_se ?_
    | refine q_b ?_
    | refine q_br ?_
    | refine q_be rfl ?_
    | refine q_bn rfl ?_
    | refine q_lr ?_
    | refine q_le ?_
    | refine q_cr ?_
    | refine q_ce ?_
    | (apply p3; (first | exact a_move (sv := .one _) rfl | exact a_move (sv := .agg _) rfl | exact a_move (sv := .tup _) rfl | exact a_assign (sv := .one _) rfl | exact a_assign (sv := .agg _) rfl | exact a_assign (sv := .tup _) rfl | exact a_pick (sv := .one _) rfl rfl | exact a_pick (sv := .agg _) rfl rfl | exact a_nil rfl rfl | exact a_fa_gp rfl (fF rfl) rfl | exact a_fa_gv rfl rfl (fF rfl) | exact a_fa_imm rfl (fF rfl) rfl | exact a_ld_bx rfl rfl rfl (fC rfl) rfl | exact a_ld_imm rfl (fC rfl) rfl | exact a_lds_bx rfl rfl rfl (fA rfl) (Nat.le_of_ble_eq_true rfl) rfl | exact a_lds_imm rfl (fA rfl) (Nat.le_of_ble_eq_true rfl) rfl | exact a_extract (sv := .one _) rfl rfl rfl | exact a_extract (sv := .agg _) rfl rfl rfl | exact a_len_nil rfl (fS rfl) | exact a_lenE rfl rfl (fS rfl) (by exact rfl) | exact a_un rfl rfl | exact a_ne rfl rfl | exact a_cmp rfl rfl rfl trivial rfl | exact a_add rfl rfl (by omega) (by omega) | exact a_sub rfl rfl (by omega) (by omega) | exact a_neg rfl (by omega) (by omega) | exact a_conv64 rfl (fK rfl) (fK rfl) (by omega) (by omega) | exact a_min rfl rfl | exact a_max rfl rfl | exact a_iaE rfl rfl rfl (fS rfl) (by omega) (by omega) (by exact rfl) | exact a_iaO1 rfl rfl rfl (fS rfl) (by omega) (by omega) | exact a_iaO rfl rfl rfl (fS rfl) (by omega) (by omega) (by exact rfl) | exact a_ld_rowI rfl rfl rfl (fC rfl) (by omega) | exact a_build (fZ rfl) (fU rfl) rfl rfl | exact a_ifc rfl (fI rfl) | exact a_ifcs rfl (fI rfl) | exact a_fn rfl); exact rfl)
    | (apply n3; (first | exact a_alloc (fZ rfl) rfl | exact a_box rfl | exact a_lit (fP rfl) (by decide) rfl (by decide) rfl rfl rfl); exact rfl)
    | (apply w3; (first | exact a_st_bx rfl rfl rfl rfl (fN rfl rfl) (Nat.le_of_ble_eq_true rfl) rfl | exact a_st_rowI rfl rfl rfl rfl (fN rfl rfl) (by omega)); exact rfl)
    | refine o_no rfl rfl rfl rfl ?_
    | (apply py3; exact rfl; exact rfl; (first | exact a_move (sv := .one _) rfl | exact a_move (sv := .agg _) rfl | exact a_move (sv := .tup _) rfl | exact a_assign (sv := .one _) rfl | exact a_assign (sv := .agg _) rfl | exact a_assign (sv := .tup _) rfl | exact a_pick (sv := .one _) rfl rfl | exact a_pick (sv := .agg _) rfl rfl | exact a_nil rfl rfl | exact a_fa_gp rfl (fF rfl) rfl | exact a_fa_gv rfl rfl (fF rfl) | exact a_fa_imm rfl (fF rfl) rfl | exact a_ld_bx rfl rfl rfl (fC rfl) rfl | exact a_ld_imm rfl (fC rfl) rfl | exact a_lds_bx rfl rfl rfl (fA rfl) (Nat.le_of_ble_eq_true rfl) rfl | exact a_lds_imm rfl (fA rfl) (Nat.le_of_ble_eq_true rfl) rfl | exact a_extract (sv := .one _) rfl rfl rfl | exact a_extract (sv := .agg _) rfl rfl rfl | exact a_len_nil rfl (fS rfl) | exact a_lenE rfl rfl (fS rfl) (by exact rfl) | exact a_un rfl rfl | exact a_ne rfl rfl | exact a_cmp rfl rfl rfl trivial rfl | exact a_add rfl rfl (by omega) (by omega) | exact a_sub rfl rfl (by omega) (by omega) | exact a_neg rfl (by omega) (by omega) | exact a_conv64 rfl (fK rfl) (fK rfl) (by omega) (by omega) | exact a_min rfl rfl | exact a_max rfl rfl | exact a_iaE rfl rfl rfl (fS rfl) (by omega) (by omega) (by exact rfl) | exact a_iaO1 rfl rfl rfl (fS rfl) (by omega) (by omega) | exact a_iaO rfl rfl rfl (fS rfl) (by omega) (by omega) (by exact rfl) | exact a_ld_rowI rfl rfl rfl (fC rfl) (by omega) | exact a_build (fZ rfl) (fU rfl) rfl rfl | exact a_ifc rfl (fI rfl) | exact a_ifcs rfl (fI rfl) | exact a_fn rfl); exact rfl; exact rfl)
    | (apply ny3; exact rfl; exact rfl; (first | exact a_alloc (fZ rfl) rfl | exact a_box rfl | exact a_lit (fP rfl) (by decide) rfl (by decide) rfl rfl rfl); exact rfl; exact rfl)
    | (refine o_gs rfl rfl (fun hc => ?_) (fun hc => ?_) <;> (try simp only [decide_eq_true_eq, decide_eq_false_iff_not, Bool.not_eq_true', Bool.not_eq_false', Bool.not_eq_true, Bool.not_eq_false, Bool.and_eq_true, Bool.or_eq_false_iff, Bool.not_not] at hc) <;> (try (exfalso; omega)))
    | (refine g_cond rfl (fun hc => ?_) (fun hc => ?_) <;> (try simp only [decide_eq_true_eq, decide_eq_false_iff_not, Bool.not_eq_true', Bool.not_eq_false', Bool.not_eq_true, Bool.not_eq_false, Bool.and_eq_true, Bool.or_eq_false_iff, Bool.not_not] at hc) <;> (try (exfalso; omega)))
  · exact ends_r (.cons (.one rfl) .nil) (sle_b (by symm; unfold eqM; simp [*])) rfl
  · exact ends_r (.cons (.one rfl) .nil) (sle_b (by symm; unfold eqM; simp [*])) rfl
  · apply c3 (n' := _) (θ := [])
    exact a_callS (θ := []) (ld := []) (eqRuleS_ok a.ru b.ru ha hb) rfl rfl (fQ rfl) (by repeat (first | exact ASLe.nil | refine ASLe.cons ?_ ?_ | exact SVLe.refl | exact SVLe.one (.sh rfl) | exact SVLe.one (.nil (by decide)) | exact SVLe.one (.lend (by simp) rfl (noOwnI _)) | exact SVLe.one (.lend (by simp) rfl (noOwnR _)) | exact SVLe.agg (by repeat (first | exact CsLe.nil | refine CsLe.cons ?_ ?_ | exact CLe.refl | exact CLe.sh rfl | exact CLe.nil (by decide) | exact CLe.lend (by simp) rfl (noOwnI _) | exact CLe.lend (by simp) rfl (noOwnR _))))) (by repeat (first | exact trivial | refine And.intro ?_ ?_ | exact rfl)) rfl rfl rfl rfl (.inl rfl) rfl rfl rfl rfl
    exact rfl
    exact rfl
    · (repeat (first | exact Nat.le_refl _ | refine And.intro ?_ ?_ | exact Nat.le_of_ble_eq_true rfl | exact .inr ⟨Nat.le_of_ble_eq_true rfl, Nat.le_of_ble_eq_true rfl⟩ | exact .inl (by simp)))
    try dsimp only [SV.ren, C.ren, C.ren.all, tRen, GB.ren, calF, upOf, List.cons_append, List.nil_append, Nat.reduceAdd]
    repeat' first
      | refine g_seq ?_
      | refine g_skip ?_
      | refine g_ret ?_
      | refine g_exit ?_
      | refine g_block ?_
      | refine g_reg ?_
      | refine g_if_t rfl ?_
      | refine g_if_f rfl ?_
      | refine o_nil ?_
      | refine q_s ?_
      | refine q_sr ?_
      | refine q_se ?_
      | refine q_b ?_
      | refine q_br ?_
      | refine q_be rfl ?_
      | refine q_bn rfl ?_
      | refine q_lr ?_
      | refine q_le ?_
      | refine q_cr ?_
      | refine q_ce ?_
      | (apply p3; (first | exact a_move (sv := .one _) rfl | exact a_move (sv := .agg _) rfl | exact a_move (sv := .tup _) rfl | exact a_assign (sv := .one _) rfl | exact a_assign (sv := .agg _) rfl | exact a_assign (sv := .tup _) rfl | exact a_pick (sv := .one _) rfl rfl | exact a_pick (sv := .agg _) rfl rfl | exact a_nil rfl rfl | exact a_fa_gp rfl (fF rfl) rfl | exact a_fa_gv rfl rfl (fF rfl) | exact a_fa_imm rfl (fF rfl) rfl | exact a_ld_bx rfl rfl rfl (fC rfl) rfl | exact a_ld_imm rfl (fC rfl) rfl | exact a_lds_bx rfl rfl rfl (fA rfl) (Nat.le_of_ble_eq_true rfl) rfl | exact a_lds_imm rfl (fA rfl) (Nat.le_of_ble_eq_true rfl) rfl | exact a_extract (sv := .one _) rfl rfl rfl | exact a_extract (sv := .agg _) rfl rfl rfl | exact a_len_nil rfl (fS rfl) | exact a_lenE rfl rfl (fS rfl) (by exact rfl) | exact a_un rfl rfl | exact a_ne rfl rfl | exact a_cmp rfl rfl rfl trivial rfl | exact a_add rfl rfl (by omega) (by omega) | exact a_sub rfl rfl (by omega) (by omega) | exact a_neg rfl (by omega) (by omega) | exact a_conv64 rfl (fK rfl) (fK rfl) (by omega) (by omega) | exact a_min rfl rfl | exact a_max rfl rfl | exact a_iaE rfl rfl rfl (fS rfl) (by omega) (by omega) (by exact rfl) | exact a_iaO1 rfl rfl rfl (fS rfl) (by omega) (by omega) | exact a_iaO rfl rfl rfl (fS rfl) (by omega) (by omega) (by exact rfl) | exact a_ld_rowI rfl rfl rfl (fC rfl) (by omega) | exact a_build (fZ rfl) (fU rfl) rfl rfl | exact a_ifc rfl (fI rfl) | exact a_ifcs rfl (fI rfl) | exact a_fn rfl); exact rfl)
      | (apply n3; (first | exact a_alloc (fZ rfl) rfl | exact a_box rfl | exact a_lit (fP rfl) (by decide) rfl (by decide) rfl rfl rfl); exact rfl)
      | (apply w3; (first | exact a_st_bx rfl rfl rfl rfl (fN rfl rfl) (Nat.le_of_ble_eq_true rfl) rfl | exact a_st_rowI rfl rfl rfl rfl (fN rfl rfl) (by omega)); exact rfl)
      | refine o_no rfl rfl rfl rfl ?_
      | (apply py3; exact rfl; exact rfl; (first | exact a_move (sv := .one _) rfl | exact a_move (sv := .agg _) rfl | exact a_move (sv := .tup _) rfl | exact a_assign (sv := .one _) rfl | exact a_assign (sv := .agg _) rfl | exact a_assign (sv := .tup _) rfl | exact a_pick (sv := .one _) rfl rfl | exact a_pick (sv := .agg _) rfl rfl | exact a_nil rfl rfl | exact a_fa_gp rfl (fF rfl) rfl | exact a_fa_gv rfl rfl (fF rfl) | exact a_fa_imm rfl (fF rfl) rfl | exact a_ld_bx rfl rfl rfl (fC rfl) rfl | exact a_ld_imm rfl (fC rfl) rfl | exact a_lds_bx rfl rfl rfl (fA rfl) (Nat.le_of_ble_eq_true rfl) rfl | exact a_lds_imm rfl (fA rfl) (Nat.le_of_ble_eq_true rfl) rfl | exact a_extract (sv := .one _) rfl rfl rfl | exact a_extract (sv := .agg _) rfl rfl rfl | exact a_len_nil rfl (fS rfl) | exact a_lenE rfl rfl (fS rfl) (by exact rfl) | exact a_un rfl rfl | exact a_ne rfl rfl | exact a_cmp rfl rfl rfl trivial rfl | exact a_add rfl rfl (by omega) (by omega) | exact a_sub rfl rfl (by omega) (by omega) | exact a_neg rfl (by omega) (by omega) | exact a_conv64 rfl (fK rfl) (fK rfl) (by omega) (by omega) | exact a_min rfl rfl | exact a_max rfl rfl | exact a_iaE rfl rfl rfl (fS rfl) (by omega) (by omega) (by exact rfl) | exact a_iaO1 rfl rfl rfl (fS rfl) (by omega) (by omega) | exact a_iaO rfl rfl rfl (fS rfl) (by omega) (by omega) (by exact rfl) | exact a_ld_rowI rfl rfl rfl (fC rfl) (by omega) | exact a_build (fZ rfl) (fU rfl) rfl rfl | exact a_ifc rfl (fI rfl) | exact a_ifcs rfl (fI rfl) | exact a_fn rfl); exact rfl; exact rfl)
      | (apply ny3; exact rfl; exact rfl; (first | exact a_alloc (fZ rfl) rfl | exact a_box rfl | exact a_lit (fP rfl) (by decide) rfl (by decide) rfl rfl rfl); exact rfl; exact rfl)
      | (refine o_gs rfl rfl (fun hc => ?_) (fun hc => ?_) <;> (try simp only [decide_eq_true_eq, decide_eq_false_iff_not, Bool.not_eq_true', Bool.not_eq_false', Bool.not_eq_true, Bool.not_eq_false, Bool.and_eq_true, Bool.or_eq_false_iff, Bool.not_not] at hc) <;> (try (exfalso; omega)))
      | (refine g_cond rfl (fun hc => ?_) (fun hc => ?_) <;> (try simp only [decide_eq_true_eq, decide_eq_false_iff_not, Bool.not_eq_true', Bool.not_eq_false', Bool.not_eq_true, Bool.not_eq_false, Bool.and_eq_true, Bool.or_eq_false_iff, Bool.not_not] at hc) <;> (try (exfalso; omega)))
    all_goals exact ends_r (.cons (.one rfl) .nil) (sle_b (by symm; unfold eqRs at hc; unfold eqM; simp_all)) rfl
@[irreducible] def eqC (a b : Conf) : Bool := decide (a.st = b.st ∧ a.le = b.le ∧ a.ri = b.ri)
theorem eqConfig_ok (a b : Conf) (h1 : (a.le.length : Int) ≤ 1048576) (h2 : (b.le.length : Int) ≤ 1048576) (h3 : (a.ri.length : Int) ≤ 1048576) (h4 : (b.ri.length : Int) ≤ 1048576) : Does Try.prog 23 [.agg (coC a), .agg (coC b)] [] (.one (boo (eqC a b))) [] := by
  refine does_of (k := 0) Try.func23 rfl Try.ntmps23 rfl rfl fun w F0 S0 ρ0 => ?_
  dsimp only [argT, argH]
  repeat' first
    | refine g_seq ?_
    | refine g_skip ?_
    | refine g_ret ?_
    | refine g_exit ?_
    | refine g_block ?_
    | refine g_reg ?_
    | refine g_if_t rfl ?_
    | refine g_if_f rfl ?_
    | refine o_nil ?_
    | refine q_s ?_
    | refine q_sr ?_
    | refine q_se ?_
    | refine q_b ?_
    | refine q_br ?_
    | refine q_be rfl ?_
    | refine q_bn rfl ?_
    | refine q_lr ?_
    | refine q_le ?_
    | refine q_cr ?_
    | refine q_ce ?_
    | (apply p3; (first | exact a_move (sv := .one _) rfl | exact a_move (sv := .agg _) rfl | exact a_move (sv := .tup _) rfl | exact a_assign (sv := .one _) rfl | exact a_assign (sv := .agg _) rfl | exact a_assign (sv := .tup _) rfl | exact a_pick (sv := .one _) rfl rfl | exact a_pick (sv := .agg _) rfl rfl | exact a_nil rfl rfl | exact a_fa_gp rfl (fF rfl) rfl | exact a_fa_gv rfl rfl (fF rfl) | exact a_fa_imm rfl (fF rfl) rfl | exact a_ld_bx rfl rfl rfl (fC rfl) rfl | exact a_ld_imm rfl (fC rfl) rfl | exact a_lds_bx rfl rfl rfl (fA rfl) (Nat.le_of_ble_eq_true rfl) rfl | exact a_lds_imm rfl (fA rfl) (Nat.le_of_ble_eq_true rfl) rfl | exact a_extract (sv := .one _) rfl rfl rfl | exact a_extract (sv := .agg _) rfl rfl rfl | exact a_len_nil rfl (fS rfl) | exact a_lenE rfl rfl (fS rfl) (by exact rfl) | exact a_un rfl rfl | exact a_ne rfl rfl | exact a_cmp rfl rfl rfl trivial rfl | exact a_add rfl rfl (by omega) (by omega) | exact a_sub rfl rfl (by omega) (by omega) | exact a_neg rfl (by omega) (by omega) | exact a_conv64 rfl (fK rfl) (fK rfl) (by omega) (by omega) | exact a_min rfl rfl | exact a_max rfl rfl | exact a_iaE rfl rfl rfl (fS rfl) (by omega) (by omega) (by exact rfl) | exact a_iaO1 rfl rfl rfl (fS rfl) (by omega) (by omega) | exact a_iaO rfl rfl rfl (fS rfl) (by omega) (by omega) (by exact rfl) | exact a_ld_rowI rfl rfl rfl (fC rfl) (by omega) | exact a_build (fZ rfl) (fU rfl) rfl rfl | exact a_ifc rfl (fI rfl) | exact a_ifcs rfl (fI rfl) | exact a_fn rfl); exact rfl)
    | (apply n3; (first | exact a_alloc (fZ rfl) rfl | exact a_box rfl | exact a_lit (fP rfl) (by decide) rfl (by decide) rfl rfl rfl); exact rfl)
    | (apply w3; (first | exact a_st_bx rfl rfl rfl rfl (fN rfl rfl) (Nat.le_of_ble_eq_true rfl) rfl | exact a_st_rowI rfl rfl rfl rfl (fN rfl rfl) (by omega)); exact rfl)
    | refine o_no rfl rfl rfl rfl ?_
    | (apply py3; exact rfl; exact rfl; (first | exact a_move (sv := .one _) rfl | exact a_move (sv := .agg _) rfl | exact a_move (sv := .tup _) rfl | exact a_assign (sv := .one _) rfl | exact a_assign (sv := .agg _) rfl | exact a_assign (sv := .tup _) rfl | exact a_pick (sv := .one _) rfl rfl | exact a_pick (sv := .agg _) rfl rfl | exact a_nil rfl rfl | exact a_fa_gp rfl (fF rfl) rfl | exact a_fa_gv rfl rfl (fF rfl) | exact a_fa_imm rfl (fF rfl) rfl | exact a_ld_bx rfl rfl rfl (fC rfl) rfl | exact a_ld_imm rfl (fC rfl) rfl | exact a_lds_bx rfl rfl rfl (fA rfl) (Nat.le_of_ble_eq_true rfl) rfl | exact a_lds_imm rfl (fA rfl) (Nat.le_of_ble_eq_true rfl) rfl | exact a_extract (sv := .one _) rfl rfl rfl | exact a_extract (sv := .agg _) rfl rfl rfl | exact a_len_nil rfl (fS rfl) | exact a_lenE rfl rfl (fS rfl) (by exact rfl) | exact a_un rfl rfl | exact a_ne rfl rfl | exact a_cmp rfl rfl rfl trivial rfl | exact a_add rfl rfl (by omega) (by omega) | exact a_sub rfl rfl (by omega) (by omega) | exact a_neg rfl (by omega) (by omega) | exact a_conv64 rfl (fK rfl) (fK rfl) (by omega) (by omega) | exact a_min rfl rfl | exact a_max rfl rfl | exact a_iaE rfl rfl rfl (fS rfl) (by omega) (by omega) (by exact rfl) | exact a_iaO1 rfl rfl rfl (fS rfl) (by omega) (by omega) | exact a_iaO rfl rfl rfl (fS rfl) (by omega) (by omega) (by exact rfl) | exact a_ld_rowI rfl rfl rfl (fC rfl) (by omega) | exact a_build (fZ rfl) (fU rfl) rfl rfl | exact a_ifc rfl (fI rfl) | exact a_ifcs rfl (fI rfl) | exact a_fn rfl); exact rfl; exact rfl)
    | (apply ny3; exact rfl; exact rfl; (first | exact a_alloc (fZ rfl) rfl | exact a_box rfl | exact a_lit (fP rfl) (by decide) rfl (by decide) rfl rfl rfl); exact rfl; exact rfl)
    | (refine o_gs rfl rfl (fun hc => ?_) (fun hc => ?_) <;> (try simp only [decide_eq_true_eq, decide_eq_false_iff_not, Bool.not_eq_true', Bool.not_eq_false', Bool.not_eq_true, Bool.not_eq_false, Bool.and_eq_true, Bool.or_eq_false_iff, Bool.not_not] at hc) <;> (try (exfalso; omega)))
    | (refine g_cond rfl (fun hc => ?_) (fun hc => ?_) <;> (try simp only [decide_eq_true_eq, decide_eq_false_iff_not, Bool.not_eq_true', Bool.not_eq_false', Bool.not_eq_true, Bool.not_eq_false, Bool.and_eq_true, Bool.or_eq_false_iff, Bool.not_not] at hc) <;> (try (exfalso; omega)))
  · exact ends_r (.cons (.one rfl) .nil) (sle_b (by symm; unfold eqC; simp [*])) rfl
  · apply c3 (n' := _) (θ := [])
    exact a_callS (θ := []) (ld := []) (eqInt64S_ok a.le b.le h1 h2) rfl rfl (fQ rfl) (by repeat (first | exact ASLe.nil | refine ASLe.cons ?_ ?_ | exact SVLe.refl | exact SVLe.one (.sh rfl) | exact SVLe.one (.nil (by decide)) | exact SVLe.one (.lend (by simp) rfl (noOwnI _)) | exact SVLe.one (.lend (by simp) rfl (noOwnR _)) | exact SVLe.agg (by repeat (first | exact CsLe.nil | refine CsLe.cons ?_ ?_ | exact CLe.refl | exact CLe.sh rfl | exact CLe.nil (by decide) | exact CLe.lend (by simp) rfl (noOwnI _) | exact CLe.lend (by simp) rfl (noOwnR _))))) (by repeat (first | exact trivial | refine And.intro ?_ ?_ | exact rfl)) rfl rfl rfl rfl (.inl rfl) rfl rfl rfl rfl
    exact rfl
    exact rfl
    · (repeat (first | exact Nat.le_refl _ | refine And.intro ?_ ?_ | exact Nat.le_of_ble_eq_true rfl | exact .inr ⟨Nat.le_of_ble_eq_true rfl, Nat.le_of_ble_eq_true rfl⟩ | exact .inl (by simp)))
    try dsimp only [SV.ren, C.ren, C.ren.all, tRen, GB.ren, calF, upOf, List.cons_append, List.nil_append, Nat.reduceAdd]
    repeat' first
      | refine g_seq ?_
      | refine g_skip ?_
      | refine g_ret ?_
      | refine g_exit ?_
      | refine g_block ?_
      | refine g_reg ?_
      | refine g_if_t rfl ?_
      | refine g_if_f rfl ?_
      | refine o_nil ?_
      | refine q_s ?_
      | refine q_sr ?_
      | refine q_se ?_
      | refine q_b ?_
      | refine q_br ?_
      | refine q_be rfl ?_
      | refine q_bn rfl ?_
      | refine q_lr ?_
      | refine q_le ?_
      | refine q_cr ?_
      | refine q_ce ?_
      | (apply p3; (first | exact a_move (sv := .one _) rfl | exact a_move (sv := .agg _) rfl | exact a_move (sv := .tup _) rfl | exact a_assign (sv := .one _) rfl | exact a_assign (sv := .agg _) rfl | exact a_assign (sv := .tup _) rfl | exact a_pick (sv := .one _) rfl rfl | exact a_pick (sv := .agg _) rfl rfl | exact a_nil rfl rfl | exact a_fa_gp rfl (fF rfl) rfl | exact a_fa_gv rfl rfl (fF rfl) | exact a_fa_imm rfl (fF rfl) rfl | exact a_ld_bx rfl rfl rfl (fC rfl) rfl | exact a_ld_imm rfl (fC rfl) rfl | exact a_lds_bx rfl rfl rfl (fA rfl) (Nat.le_of_ble_eq_true rfl) rfl | exact a_lds_imm rfl (fA rfl) (Nat.le_of_ble_eq_true rfl) rfl | exact a_extract (sv := .one _) rfl rfl rfl | exact a_extract (sv := .agg _) rfl rfl rfl | exact a_len_nil rfl (fS rfl) | exact a_lenE rfl rfl (fS rfl) (by exact rfl) | exact a_un rfl rfl | exact a_ne rfl rfl | exact a_cmp rfl rfl rfl trivial rfl | exact a_add rfl rfl (by omega) (by omega) | exact a_sub rfl rfl (by omega) (by omega) | exact a_neg rfl (by omega) (by omega) | exact a_conv64 rfl (fK rfl) (fK rfl) (by omega) (by omega) | exact a_min rfl rfl | exact a_max rfl rfl | exact a_iaE rfl rfl rfl (fS rfl) (by omega) (by omega) (by exact rfl) | exact a_iaO1 rfl rfl rfl (fS rfl) (by omega) (by omega) | exact a_iaO rfl rfl rfl (fS rfl) (by omega) (by omega) (by exact rfl) | exact a_ld_rowI rfl rfl rfl (fC rfl) (by omega) | exact a_build (fZ rfl) (fU rfl) rfl rfl | exact a_ifc rfl (fI rfl) | exact a_ifcs rfl (fI rfl) | exact a_fn rfl); exact rfl)
      | (apply n3; (first | exact a_alloc (fZ rfl) rfl | exact a_box rfl | exact a_lit (fP rfl) (by decide) rfl (by decide) rfl rfl rfl); exact rfl)
      | (apply w3; (first | exact a_st_bx rfl rfl rfl rfl (fN rfl rfl) (Nat.le_of_ble_eq_true rfl) rfl | exact a_st_rowI rfl rfl rfl rfl (fN rfl rfl) (by omega)); exact rfl)
      | refine o_no rfl rfl rfl rfl ?_
      | (apply py3; exact rfl; exact rfl; (first | exact a_move (sv := .one _) rfl | exact a_move (sv := .agg _) rfl | exact a_move (sv := .tup _) rfl | exact a_assign (sv := .one _) rfl | exact a_assign (sv := .agg _) rfl | exact a_assign (sv := .tup _) rfl | exact a_pick (sv := .one _) rfl rfl | exact a_pick (sv := .agg _) rfl rfl | exact a_nil rfl rfl | exact a_fa_gp rfl (fF rfl) rfl | exact a_fa_gv rfl rfl (fF rfl) | exact a_fa_imm rfl (fF rfl) rfl | exact a_ld_bx rfl rfl rfl (fC rfl) rfl | exact a_ld_imm rfl (fC rfl) rfl | exact a_lds_bx rfl rfl rfl (fA rfl) (Nat.le_of_ble_eq_true rfl) rfl | exact a_lds_imm rfl (fA rfl) (Nat.le_of_ble_eq_true rfl) rfl | exact a_extract (sv := .one _) rfl rfl rfl | exact a_extract (sv := .agg _) rfl rfl rfl | exact a_len_nil rfl (fS rfl) | exact a_lenE rfl rfl (fS rfl) (by exact rfl) | exact a_un rfl rfl | exact a_ne rfl rfl | exact a_cmp rfl rfl rfl trivial rfl | exact a_add rfl rfl (by omega) (by omega) | exact a_sub rfl rfl (by omega) (by omega) | exact a_neg rfl (by omega) (by omega) | exact a_conv64 rfl (fK rfl) (fK rfl) (by omega) (by omega) | exact a_min rfl rfl | exact a_max rfl rfl | exact a_iaE rfl rfl rfl (fS rfl) (by omega) (by omega) (by exact rfl) | exact a_iaO1 rfl rfl rfl (fS rfl) (by omega) (by omega) | exact a_iaO rfl rfl rfl (fS rfl) (by omega) (by omega) (by exact rfl) | exact a_ld_rowI rfl rfl rfl (fC rfl) (by omega) | exact a_build (fZ rfl) (fU rfl) rfl rfl | exact a_ifc rfl (fI rfl) | exact a_ifcs rfl (fI rfl) | exact a_fn rfl); exact rfl; exact rfl)
      | (apply ny3; exact rfl; exact rfl; (first | exact a_alloc (fZ rfl) rfl | exact a_box rfl | exact a_lit (fP rfl) (by decide) rfl (by decide) rfl rfl rfl); exact rfl; exact rfl)
      | (refine o_gs rfl rfl (fun hc => ?_) (fun hc => ?_) <;> (try simp only [decide_eq_true_eq, decide_eq_false_iff_not, Bool.not_eq_true', Bool.not_eq_false', Bool.not_eq_true, Bool.not_eq_false, Bool.and_eq_true, Bool.or_eq_false_iff, Bool.not_not] at hc) <;> (try (exfalso; omega)))
      | (refine g_cond rfl (fun hc => ?_) (fun hc => ?_) <;> (try simp only [decide_eq_true_eq, decide_eq_false_iff_not, Bool.not_eq_true', Bool.not_eq_false', Bool.not_eq_true, Bool.not_eq_false, Bool.and_eq_true, Bool.or_eq_false_iff, Bool.not_not] at hc) <;> (try (exfalso; omega)))
    · exact ends_r (.cons (.one rfl) .nil) (sle_b (by symm; unfold eqI at hc; unfold eqC; simp_all)) rfl
    · apply c3 (n' := _) (θ := [])
      exact a_callS (θ := []) (ld := []) (eqInt64S_ok a.ri b.ri h3 h4) rfl rfl (fQ rfl) (by repeat (first | exact ASLe.nil | refine ASLe.cons ?_ ?_ | exact SVLe.refl | exact SVLe.one (.sh rfl) | exact SVLe.one (.nil (by decide)) | exact SVLe.one (.lend (by simp) rfl (noOwnI _)) | exact SVLe.one (.lend (by simp) rfl (noOwnR _)) | exact SVLe.agg (by repeat (first | exact CsLe.nil | refine CsLe.cons ?_ ?_ | exact CLe.refl | exact CLe.sh rfl | exact CLe.nil (by decide) | exact CLe.lend (by simp) rfl (noOwnI _) | exact CLe.lend (by simp) rfl (noOwnR _))))) (by repeat (first | exact trivial | refine And.intro ?_ ?_ | exact rfl)) rfl rfl rfl rfl (.inl rfl) rfl rfl rfl rfl
      exact rfl
      exact rfl
      · (repeat (first | exact Nat.le_refl _ | refine And.intro ?_ ?_ | exact Nat.le_of_ble_eq_true rfl | exact .inr ⟨Nat.le_of_ble_eq_true rfl, Nat.le_of_ble_eq_true rfl⟩ | exact .inl (by simp)))
      try dsimp only [SV.ren, C.ren, C.ren.all, tRen, GB.ren, calF, upOf, List.cons_append, List.nil_append, Nat.reduceAdd]
      repeat' first
        | refine g_seq ?_
        | refine g_skip ?_
        | refine g_ret ?_
        | refine g_exit ?_
        | refine g_block ?_
        | refine g_reg ?_
        | refine g_if_t rfl ?_
        | refine g_if_f rfl ?_
        | refine o_nil ?_
        | refine q_s ?_
        | refine q_sr ?_
        | refine q_se ?_
        | refine q_b ?_
        | refine q_br ?_
        | refine q_be rfl ?_
        | refine q_bn rfl ?_
        | refine q_lr ?_
        | refine q_le ?_
        | refine q_cr ?_
        | refine q_ce ?_
        | (apply p3; (first | exact a_move (sv := .one _) rfl | exact a_move (sv := .agg _) rfl | exact a_move (sv := .tup _) rfl | exact a_assign (sv := .one _) rfl | exact a_assign (sv := .agg _) rfl | exact a_assign (sv := .tup _) rfl | exact a_pick (sv := .one _) rfl rfl | exact a_pick (sv := .agg _) rfl rfl | exact a_nil rfl rfl | exact a_fa_gp rfl (fF rfl) rfl | exact a_fa_gv rfl rfl (fF rfl) | exact a_fa_imm rfl (fF rfl) rfl | exact a_ld_bx rfl rfl rfl (fC rfl) rfl | exact a_ld_imm rfl (fC rfl) rfl | exact a_lds_bx rfl rfl rfl (fA rfl) (Nat.le_of_ble_eq_true rfl) rfl | exact a_lds_imm rfl (fA rfl) (Nat.le_of_ble_eq_true rfl) rfl | exact a_extract (sv := .one _) rfl rfl rfl | exact a_extract (sv := .agg _) rfl rfl rfl | exact a_len_nil rfl (fS rfl) | exact a_lenE rfl rfl (fS rfl) (by exact rfl) | exact a_un rfl rfl | exact a_ne rfl rfl | exact a_cmp rfl rfl rfl trivial rfl | exact a_add rfl rfl (by omega) (by omega) | exact a_sub rfl rfl (by omega) (by omega) | exact a_neg rfl (by omega) (by omega) | exact a_conv64 rfl (fK rfl) (fK rfl) (by omega) (by omega) | exact a_min rfl rfl | exact a_max rfl rfl | exact a_iaE rfl rfl rfl (fS rfl) (by omega) (by omega) (by exact rfl) | exact a_iaO1 rfl rfl rfl (fS rfl) (by omega) (by omega) | exact a_iaO rfl rfl rfl (fS rfl) (by omega) (by omega) (by exact rfl) | exact a_ld_rowI rfl rfl rfl (fC rfl) (by omega) | exact a_build (fZ rfl) (fU rfl) rfl rfl | exact a_ifc rfl (fI rfl) | exact a_ifcs rfl (fI rfl) | exact a_fn rfl); exact rfl)
        | (apply n3; (first | exact a_alloc (fZ rfl) rfl | exact a_box rfl | exact a_lit (fP rfl) (by decide) rfl (by decide) rfl rfl rfl); exact rfl)
        | (apply w3; (first | exact a_st_bx rfl rfl rfl rfl (fN rfl rfl) (Nat.le_of_ble_eq_true rfl) rfl | exact a_st_rowI rfl rfl rfl rfl (fN rfl rfl) (by omega)); exact rfl)
        | refine o_no rfl rfl rfl rfl ?_
        | (apply py3; exact rfl; exact rfl; (first | exact a_move (sv := .one _) rfl | exact a_move (sv := .agg _) rfl | exact a_move (sv := .tup _) rfl | exact a_assign (sv := .one _) rfl | exact a_assign (sv := .agg _) rfl | exact a_assign (sv := .tup _) rfl | exact a_pick (sv := .one _) rfl rfl | exact a_pick (sv := .agg _) rfl rfl | exact a_nil rfl rfl | exact a_fa_gp rfl (fF rfl) rfl | exact a_fa_gv rfl rfl (fF rfl) | exact a_fa_imm rfl (fF rfl) rfl | exact a_ld_bx rfl rfl rfl (fC rfl) rfl | exact a_ld_imm rfl (fC rfl) rfl | exact a_lds_bx rfl rfl rfl (fA rfl) (Nat.le_of_ble_eq_true rfl) rfl | exact a_lds_imm rfl (fA rfl) (Nat.le_of_ble_eq_true rfl) rfl | exact a_extract (sv := .one _) rfl rfl rfl | exact a_extract (sv := .agg _) rfl rfl rfl | exact a_len_nil rfl (fS rfl) | exact a_lenE rfl rfl (fS rfl) (by exact rfl) | exact a_un rfl rfl | exact a_ne rfl rfl | exact a_cmp rfl rfl rfl trivial rfl | exact a_add rfl rfl (by omega) (by omega) | exact a_sub rfl rfl (by omega) (by omega) | exact a_neg rfl (by omega) (by omega) | exact a_conv64 rfl (fK rfl) (fK rfl) (by omega) (by omega) | exact a_min rfl rfl | exact a_max rfl rfl | exact a_iaE rfl rfl rfl (fS rfl) (by omega) (by omega) (by exact rfl) | exact a_iaO1 rfl rfl rfl (fS rfl) (by omega) (by omega) | exact a_iaO rfl rfl rfl (fS rfl) (by omega) (by omega) (by exact rfl) | exact a_ld_rowI rfl rfl rfl (fC rfl) (by omega) | exact a_build (fZ rfl) (fU rfl) rfl rfl | exact a_ifc rfl (fI rfl) | exact a_ifcs rfl (fI rfl) | exact a_fn rfl); exact rfl; exact rfl)
        | (apply ny3; exact rfl; exact rfl; (first | exact a_alloc (fZ rfl) rfl | exact a_box rfl | exact a_lit (fP rfl) (by decide) rfl (by decide) rfl rfl rfl); exact rfl; exact rfl)
        | (refine o_gs rfl rfl (fun hc => ?_) (fun hc => ?_) <;> (try simp only [decide_eq_true_eq, decide_eq_false_iff_not, Bool.not_eq_true', Bool.not_eq_false', Bool.not_eq_true, Bool.not_eq_false, Bool.and_eq_true, Bool.or_eq_false_iff, Bool.not_not] at hc) <;> (try (exfalso; omega)))
        | (refine g_cond rfl (fun hc => ?_) (fun hc => ?_) <;> (try simp only [decide_eq_true_eq, decide_eq_false_iff_not, Bool.not_eq_true', Bool.not_eq_false', Bool.not_eq_true, Bool.not_eq_false, Bool.and_eq_true, Bool.or_eq_false_iff, Bool.not_not] at hc) <;> (try (exfalso; omega)))
      all_goals exact ends_r (.cons (.one rfl) .nil) (sle_b (by symm; unfold eqI at *; unfold eqC; simp_all)) rfl
end Go.Proofs.Ytncccjpbaeaafaa
