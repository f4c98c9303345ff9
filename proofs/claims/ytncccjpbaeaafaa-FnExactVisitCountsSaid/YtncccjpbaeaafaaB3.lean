/- Contracts of the program's checks of machines and configurations. -/
import Derived.Test.YtncccjpbaeaafaaB2
set_option linter.unusedVariables false
set_option linter.unusedSimpArgs false
set_option maxRecDepth 100000
set_option maxHeartbeats 4000000
namespace Go.Proofs.Ytncccjpbaeaafaa
open Go Foot
theorem preB3 {p : Prop} (h : p := by first | with_reducible assumption | omega | (simp only [List.length_append, List.length_cons, List.length_nil, List.length_set, List.length_replicate, List.length_take, List.length_drop, List.length_tail, List.length_dropLast, List.length_reverse] at *; omega) | (with_reducible refine Int.le_trans (Int.ofNat_le.2 (trimR_len _)) ?_; simp only [List.length_cons, List.length_tail]; omega) | (have := vMach_bd (by assumption); omega) | trivial) : p := h
theorem sizeR_ok (xs : List Rule') (hx : (xs.length : Int) ≤ 16777216) : Does Try.prog 138 [.one (shR xs)] [] (.one (int xs.length)) [] := by
  refine does_of (k := 0) Try.func138 rfl Try.ntmps138 rfl rfl fun w F0 S0 ρ0 => ?_
  dsimp only [argT, argH]
  repeat' first
    | refine g_seq ?_
    | refine g_skip ?_
    | refine g_exit ?_
    | refine g_block ?_
    | refine g_reg ?_
    | refine g_if_t rfl ?_
    | refine g_if_f rfl ?_
    | refine o_nil ?_
    | refine q_s ?_
    | refine q_se ?_
    | refine q_b ?_
    | refine q_be rfl ?_
    | refine q_bn rfl ?_
    | refine q_le ?_
    | refine q_ce ?_
    | (apply p3; (first | exact a_pure (sv := .one _) rfl | exact a_pure (sv := .agg _) rfl | exact a_pure (sv := .tup _) rfl | exact a_lenE rfl rfl (fS rfl) (by exact rfl) | exact a_len_str rfl (fT rfl)); exact rfl)
    | (refine o_gs rfl rfl (fun hc => ?_) (fun hc => ?_) <;> (try simp only [decide_eq_true_eq, decide_eq_false_iff_not, Bool.not_eq_true', Bool.not_eq_false', Bool.not_eq_true, Bool.not_eq_false, Bool.and_eq_true, Bool.or_eq_false_iff, Bool.not_not] at hc) <;> (try (exfalso; omega)))
    | (refine g_cond rfl (fun hc => ?_) (fun hc => ?_) <;> (try simp only [decide_eq_true_eq, decide_eq_false_iff_not, Bool.not_eq_true', Bool.not_eq_false', Bool.not_eq_true, Bool.not_eq_false, Bool.and_eq_true, Bool.or_eq_false_iff, Bool.not_not] at hc) <;> (try (exfalso; omega)))
  repeat (first | refine g_ret ?_ | refine q_sr ?_ | refine q_br ?_ | refine q_lr ?_ | refine q_cr ?_)
  refine ends_id ?_
  exact endK [] (h2 := (by first | (with_reducible exact SVLe.refl) | exact SVLe.any | exact SVLe.one (.sh rfl) | exact SVLe.one (.nil (by decide)) | (refine SVLe.agg ?_; repeat (first | exact CsLe.nil | refine CsLe.cons ?_ ?_ | exact CLe.refl | exact CLe.sh rfl | exact CLe.nil (by decide) | (refine cle_i ?_; rfl) | (refine cle_b ?_; rfl))) | (refine SVLe.tup ?_; repeat (first | exact TLe.nil | refine TLe.cons ?_ ?_ | exact CsLe.nil | refine CsLe.cons ?_ ?_ | exact CLe.refl | exact CLe.sh rfl | exact CLe.nil (by decide) | (refine cle_i ?_; rfl) | (refine cle_b ?_; rfl))) | exact SVLe.refl | (refine sle_i ?_; rfl) | (refine sle_b ?_; rfl))) (h3 := (by repeat (first | exact trivial | refine And.intro ?_ ?_ | exact Or.inl rfl | exact Or.inr rfl | (refine Or.inr (row_eq ?_); rfl) | (refine Or.inr (bx_eq rfl rfl ?_); (try dsimp only [C.ren, C.ren.all]); rfl))))
theorem sizeI_ok (xs : List Int) (hx : (xs.length : Int) ≤ 16777216) : Does Try.prog 159 [.one (shI xs)] [] (.one (int xs.length)) [] := by
  refine does_of (k := 0) Try.func159 rfl Try.ntmps159 rfl rfl fun w F0 S0 ρ0 => ?_
  dsimp only [argT, argH]
  repeat' first
    | refine g_seq ?_
    | refine g_skip ?_
    | refine g_exit ?_
    | refine g_block ?_
    | refine g_reg ?_
    | refine g_if_t rfl ?_
    | refine g_if_f rfl ?_
    | refine o_nil ?_
    | refine q_s ?_
    | refine q_se ?_
    | refine q_b ?_
    | refine q_be rfl ?_
    | refine q_bn rfl ?_
    | refine q_le ?_
    | refine q_ce ?_
    | (apply p3; (first | exact a_pure (sv := .one _) rfl | exact a_pure (sv := .agg _) rfl | exact a_pure (sv := .tup _) rfl | exact a_lenE rfl rfl (fS rfl) (by exact rfl) | exact a_len_str rfl (fT rfl)); exact rfl)
    | (refine o_gs rfl rfl (fun hc => ?_) (fun hc => ?_) <;> (try simp only [decide_eq_true_eq, decide_eq_false_iff_not, Bool.not_eq_true', Bool.not_eq_false', Bool.not_eq_true, Bool.not_eq_false, Bool.and_eq_true, Bool.or_eq_false_iff, Bool.not_not] at hc) <;> (try (exfalso; omega)))
    | (refine g_cond rfl (fun hc => ?_) (fun hc => ?_) <;> (try simp only [decide_eq_true_eq, decide_eq_false_iff_not, Bool.not_eq_true', Bool.not_eq_false', Bool.not_eq_true, Bool.not_eq_false, Bool.and_eq_true, Bool.or_eq_false_iff, Bool.not_not] at hc) <;> (try (exfalso; omega)))
  repeat (first | refine g_ret ?_ | refine q_sr ?_ | refine q_br ?_ | refine q_lr ?_ | refine q_cr ?_)
  refine ends_id ?_
  exact endK [] (h2 := (by first | (with_reducible exact SVLe.refl) | exact SVLe.any | exact SVLe.one (.sh rfl) | exact SVLe.one (.nil (by decide)) | (refine SVLe.agg ?_; repeat (first | exact CsLe.nil | refine CsLe.cons ?_ ?_ | exact CLe.refl | exact CLe.sh rfl | exact CLe.nil (by decide) | (refine cle_i ?_; rfl) | (refine cle_b ?_; rfl))) | (refine SVLe.tup ?_; repeat (first | exact TLe.nil | refine TLe.cons ?_ ?_ | exact CsLe.nil | refine CsLe.cons ?_ ?_ | exact CLe.refl | exact CLe.sh rfl | exact CLe.nil (by decide) | (refine cle_i ?_; rfl) | (refine cle_b ?_; rfl))) | exact SVLe.refl | (refine sle_i ?_; rfl) | (refine sle_b ?_; rfl))) (h3 := (by repeat (first | exact trivial | refine And.intro ?_ ?_ | exact Or.inl rfl | exact Or.inr rfl | (refine Or.inr (row_eq ?_); rfl) | (refine Or.inr (bx_eq rfl rfl ?_); (try dsimp only [C.ren, C.ren.all]); rfl))))
theorem noRule_ok : Does Try.prog 94 [] [] (.agg [int 0, int 0, int (-1)]) [] := by
  refine does_of (k := 0) Try.func94 rfl Try.ntmps94 rfl rfl fun w F0 S0 ρ0 => ?_
  dsimp only [argT, argH]
  repeat' first
    | refine g_seq ?_
    | refine g_skip ?_
    | refine g_exit ?_
    | refine g_block ?_
    | refine g_reg ?_
    | refine g_if_t rfl ?_
    | refine g_if_f rfl ?_
    | refine o_nil ?_
    | refine q_s ?_
    | refine q_se ?_
    | refine q_b ?_
    | refine q_be rfl ?_
    | refine q_bn rfl ?_
    | refine q_le ?_
    | refine q_ce ?_
    | (apply n3; (first | exact a_new (gb := .bx _) rfl); exact rfl; (try dsimp only [List.map_cons, List.map_nil, scC, Nat.reduceAdd]))
    | (apply p3; (first | exact a_pure (sv := .agg _) rfl); exact rfl)
    | (apply w3; (first | exact a_st_bx rfl rfl rfl rfl (fN rfl rfl) (Nat.le_of_ble_eq_true rfl) rfl | exact a_stE (E := eR) ⟨_, _, _⟩ rfl rfl rfl rfl (fN rfl rfl) bnd (by exact rfl)); exact rfl; (try dsimp only [setRow, List.map_cons, List.map_nil, scC, List.set_cons_zero, List.set_cons_succ, List.take_succ_cons, List.take_zero, List.drop_succ_cons, List.drop_zero, Nat.reduceAdd]))
    | (refine o_gs rfl rfl (fun hc => ?_) (fun hc => ?_) <;> (try simp only [decide_eq_true_eq, decide_eq_false_iff_not, Bool.not_eq_true', Bool.not_eq_false', Bool.not_eq_true, Bool.not_eq_false, Bool.and_eq_true, Bool.or_eq_false_iff, Bool.not_not] at hc) <;> (try (exfalso; omega)))
    | (refine g_cond rfl (fun hc => ?_) (fun hc => ?_) <;> (try simp only [decide_eq_true_eq, decide_eq_false_iff_not, Bool.not_eq_true', Bool.not_eq_false', Bool.not_eq_true, Bool.not_eq_false, Bool.and_eq_true, Bool.or_eq_false_iff, Bool.not_not] at hc) <;> (try (exfalso; omega)))
  repeat (first | refine g_ret ?_ | refine q_sr ?_ | refine q_br ?_ | refine q_lr ?_ | refine q_cr ?_)
  refine ends_id ?_
  exact endK [] (h2 := (by first | (with_reducible exact SVLe.refl) | exact SVLe.any | exact SVLe.one (.sh rfl) | exact SVLe.one (.nil (by decide)) | (refine SVLe.agg ?_; repeat (first | exact CsLe.nil | refine CsLe.cons ?_ ?_ | exact CLe.refl | exact CLe.sh rfl | exact CLe.nil (by decide) | (refine cle_i ?_; rfl) | (refine cle_b ?_; rfl))) | (refine SVLe.tup ?_; repeat (first | exact TLe.nil | refine TLe.cons ?_ ?_ | exact CsLe.nil | refine CsLe.cons ?_ ?_ | exact CLe.refl | exact CLe.sh rfl | exact CLe.nil (by decide) | (refine cle_i ?_; rfl) | (refine cle_b ?_; rfl))) | exact SVLe.refl | (refine sle_i ?_; rfl) | (refine sle_b ?_; rfl))) (h3 := (by repeat (first | exact trivial | refine And.intro ?_ ?_ | exact Or.inl rfl | exact Or.inr rfl | (refine Or.inr (row_eq ?_); rfl) | (refine Or.inr (bx_eq rfl rfl ?_); (try dsimp only [C.ren, C.ren.all]); rfl))))
theorem isRule_ok (r : Rule') : Does Try.prog 128 [.agg (ruC r)] [] (.one (boo (!decide (r = ⟨0, 0, -1⟩)))) [] := by
  refine does_of (k := 0) Try.func128 rfl Try.ntmps128 rfl rfl fun w F0 S0 ρ0 => ?_
  dsimp only [argT, argH]
  repeat' first
    | refine g_seq ?_
    | refine g_skip ?_
    | refine g_exit ?_
    | refine g_block ?_
    | refine g_reg ?_
    | refine g_if_t rfl ?_
    | refine g_if_f rfl ?_
    | refine o_nil ?_
    | refine q_s ?_
    | refine q_se ?_
    | refine q_b ?_
    | refine q_be rfl ?_
    | refine q_bn rfl ?_
    | refine q_le ?_
    | refine q_ce ?_
    | (apply n3; (first | exact a_new (gb := .bx _) rfl); exact rfl; (try dsimp only [List.map_cons, List.map_nil, scC, Nat.reduceAdd]))
    | (apply p3; (first | exact a_pure (sv := .one _) rfl); exact rfl)
    | (apply g_drN okM [[], [], [0, 1], [0, 1, 2]] [([], []), ([], []), ([], []), ([], [])] 0; (focus (all_goals (apply d_pN (i := 0) (fs := []) (u := [4]) (o := []); (first | exact a_pure (sv := .one _) rfl | exact a_pure (sv := .agg _) rfl | exact a_ld_rowI rfl rfl rfl (fC rfl) bnd); exact rfl; kernel_rfl; kernel_rfl; kernel_rfl; exact rfl; exact rfl); all_goals (apply d_pN (i := 1) (fs := [false]) (u := [3]) (o := []); (first | exact callD1 (n := _) 0 (θ := []) (hD := noRule_ok)); exact rfl; kernel_rfl; kernel_rfl; kernel_rfl; exact rfl; exact rfl); all_goals (apply d_pN (i := 2) (fs := [true, true]) (u := []) (o := []); (first | exact a_neRule rfl rfl | exact a_neRule (s := ⟨_, _, _⟩) rfl rfl | exact a_neRule (r := ⟨_, _, _⟩) rfl rfl | exact a_neRule (r := ⟨_, _, _⟩) (s := ⟨_, _, _⟩) rfl rfl); exact rfl; kernel_rfl; kernel_rfl; kernel_rfl; exact rfl; exact rfl); all_goals (apply d_pN (i := 3) (fs := [true, true, true]) (u := []) (o := []); (first | exact a_pure (sv := .one _) rfl | exact a_pure (sv := .agg _) rfl | exact a_pure (sv := .tup _) rfl); exact rfl; kernel_rfl; kernel_rfl; kernel_rfl; exact rfl; exact rfl); all_goals (refine d_nil ?_; dsimp only [selT, selH, trues, SV.ren, C.ren, C.ren.all, tRen, GB.ren, calF, upOf, List.cons_append, List.nil_append, Nat.reduceAdd, setRow, List.map_cons, List.map_nil, scC, List.set_cons_zero, List.set_cons_succ, List.take_succ_cons, List.take_zero, List.drop_succ_cons, List.drop_zero]))); any_goals kernel_rfl)
    | (refine o_gs rfl rfl (fun hc => ?_) (fun hc => ?_) <;> (try simp only [decide_eq_true_eq, decide_eq_false_iff_not, Bool.not_eq_true', Bool.not_eq_false', Bool.not_eq_true, Bool.not_eq_false, Bool.and_eq_true, Bool.or_eq_false_iff, Bool.not_not] at hc) <;> (try (exfalso; omega)))
    | (refine g_cond rfl (fun hc => ?_) (fun hc => ?_) <;> (try simp only [decide_eq_true_eq, decide_eq_false_iff_not, Bool.not_eq_true', Bool.not_eq_false', Bool.not_eq_true, Bool.not_eq_false, Bool.and_eq_true, Bool.or_eq_false_iff, Bool.not_not] at hc) <;> (try (exfalso; omega)))
  repeat (first | refine g_ret ?_ | refine q_sr ?_ | refine q_br ?_ | refine q_lr ?_ | refine q_cr ?_)
  refine ends_id ?_
  exact endK [] (h2 := (by first | (with_reducible exact SVLe.refl) | exact SVLe.any | exact SVLe.one (.sh rfl) | exact SVLe.one (.nil (by decide)) | (refine SVLe.agg ?_; repeat (first | exact CsLe.nil | refine CsLe.cons ?_ ?_ | exact CLe.refl | exact CLe.sh rfl | exact CLe.nil (by decide) | (refine cle_i ?_; rfl) | (refine cle_b ?_; rfl))) | (refine SVLe.tup ?_; repeat (first | exact TLe.nil | refine TLe.cons ?_ ?_ | exact CsLe.nil | refine CsLe.cons ?_ ?_ | exact CLe.refl | exact CLe.sh rfl | exact CLe.nil (by decide) | (refine cle_i ?_; rfl) | (refine cle_b ?_; rfl))) | exact SVLe.refl | (refine sle_i ?_; rfl) | (refine sle_b ?_; rfl))) (h3 := (by repeat (first | exact trivial | refine And.intro ?_ ?_ | exact Or.inl rfl | exact Or.inr rfl | (refine Or.inr (row_eq ?_); rfl) | (refine Or.inr (bx_eq rfl rfl ?_); (try dsimp only [C.ren, C.ren.all]); rfl))))
theorem validRule_ok (m : Mach) (r : Rule') (h1 : -1000 ≤ m.sy) (h2 : m.sy ≤ 1000) (h3 : -1000 ≤ m.st) (h4 : m.st ≤ 1000) : Does Try.prog 141 [.agg (maC m), .agg (ruC r)] [] (.one (boo (okRule m.sy m.st r))) [] := by
  refine does_of (k := 0) Try.func141 rfl Try.ntmps141 rfl rfl fun w F0 S0 ρ0 => ?_
  dsimp only [argT, argH]
  repeat' first
    | refine g_seq ?_
    | refine g_skip ?_
    | refine g_exit ?_
    | refine g_block ?_
    | refine g_reg ?_
    | refine g_if_t rfl ?_
    | refine g_if_f rfl ?_
    | refine o_nil ?_
    | refine q_s ?_
    | refine q_se ?_
    | refine q_b ?_
    | refine q_be rfl ?_
    | refine q_bn rfl ?_
    | refine q_le ?_
    | refine q_ce ?_
    | (apply n3; (first | exact a_new (gb := .bx _) rfl); exact rfl; (try dsimp only [List.map_cons, List.map_nil, scC, Nat.reduceAdd]))
    | (apply p3; (first | exact a_pure (sv := .one _) rfl | exact a_pure (sv := .agg _) rfl | exact a_ld_rowI rfl rfl rfl (fC rfl) bnd | exact a_sub rfl rfl (by omega) (by omega) | exact a_pure (sv := .tup _) rfl | exact a_cmp rfl rfl rfl trivial rfl | exact a_eqS rfl rfl rfl); exact rfl)
    | (apply c4 0; exact callK1 (θ := []) (hD := (isRule_ok _)); exact rfl; exact rfl; exact rfl; (try dsimp only [SV.ren, C.ren, C.ren.all, tRen, GB.ren, calF, upOf, List.cons_append, List.nil_append, Nat.reduceAdd]))
    | (apply c4 0; exact callK1 (θ := []) (hD := (within_ok _ _ _)); exact rfl; exact rfl; exact rfl; (try dsimp only [SV.ren, C.ren, C.ren.all, tRen, GB.ren, calF, upOf, List.cons_append, List.nil_append, Nat.reduceAdd]))
    | refine o_no rfl rfl rfl rfl ?_
    | refine o_noN rfl rfl rfl ?_
    | (apply py3; exact rfl; exact rfl; (first | exact a_pure (sv := .one _) rfl | exact a_pure (sv := .agg _) rfl | exact a_ld_rowI rfl rfl rfl (fC rfl) bnd | exact a_sub rfl rfl (by omega) (by omega) | exact a_pure (sv := .tup _) rfl | exact a_cmp rfl rfl rfl trivial rfl | exact a_eqS rfl rfl rfl); exact rfl; exact rfl)
    | (apply ny3; exact rfl; exact rfl; (first | exact a_new (gb := .bx _) rfl); exact rfl; exact rfl)
    | (apply cy4 0; exact rfl; exact rfl; exact callK1 (θ := []) (hD := (isRule_ok _)); exact rfl; exact rfl; exact rfl; exact rfl; (try dsimp only [SV.ren, C.ren, C.ren.all, tRen, GB.ren, calF, upOf, List.cons_append, List.nil_append, Nat.reduceAdd]))
    | (apply cy4 0; exact rfl; exact rfl; exact callK1 (θ := []) (hD := (within_ok _ _ _)); exact rfl; exact rfl; exact rfl; exact rfl; (try dsimp only [SV.ren, C.ren, C.ren.all, tRen, GB.ren, calF, upOf, List.cons_append, List.nil_append, Nat.reduceAdd]))
    | (refine o_gs rfl rfl (fun hc => ?_) (fun hc => ?_) <;> (try simp only [decide_eq_true_eq, decide_eq_false_iff_not, Bool.not_eq_true', Bool.not_eq_false', Bool.not_eq_true, Bool.not_eq_false, Bool.and_eq_true, Bool.or_eq_false_iff, Bool.not_not] at hc) <;> (try (exfalso; omega)))
    | (refine g_cond rfl (fun hc => ?_) (fun hc => ?_) <;> (try simp only [decide_eq_true_eq, decide_eq_false_iff_not, Bool.not_eq_true', Bool.not_eq_false', Bool.not_eq_true, Bool.not_eq_false, Bool.and_eq_true, Bool.or_eq_false_iff, Bool.not_not] at hc) <;> (try (exfalso; omega)))
  all_goals
    repeat (first | refine g_ret ?_ | refine q_sr ?_ | refine q_br ?_ | refine q_lr ?_ | refine q_cr ?_)
    refine ends_id ?_
    exact endK [] (h2 := (by first | (with_reducible exact SVLe.refl) | exact SVLe.any | exact SVLe.one (.sh rfl) | exact SVLe.one (.nil (by decide)) | (refine SVLe.agg ?_; repeat (first | exact CsLe.nil | refine CsLe.cons ?_ ?_ | exact CLe.refl | exact CLe.sh rfl | exact CLe.nil (by decide) | (refine cle_i ?_; (unfold okRule; first | (simp [*]; done) | (rw [decide_eq_false] <;> first | rfl | omega | (simp; done)) | (rw [decide_eq_true] <;> first | rfl | omega | (simp [*]; done)) | (simp_all; done) | (simp_all; omega))) | (refine cle_b ?_; (unfold okRule; first | (simp [*]; done) | (rw [decide_eq_false] <;> first | rfl | omega | (simp; done)) | (rw [decide_eq_true] <;> first | rfl | omega | (simp [*]; done)) | (simp_all; done) | (simp_all; omega))))) | (refine SVLe.tup ?_; repeat (first | exact TLe.nil | refine TLe.cons ?_ ?_ | exact CsLe.nil | refine CsLe.cons ?_ ?_ | exact CLe.refl | exact CLe.sh rfl | exact CLe.nil (by decide) | (refine cle_i ?_; (unfold okRule; first | (simp [*]; done) | (rw [decide_eq_false] <;> first | rfl | omega | (simp; done)) | (rw [decide_eq_true] <;> first | rfl | omega | (simp [*]; done)) | (simp_all; done) | (simp_all; omega))) | (refine cle_b ?_; (unfold okRule; first | (simp [*]; done) | (rw [decide_eq_false] <;> first | rfl | omega | (simp; done)) | (rw [decide_eq_true] <;> first | rfl | omega | (simp [*]; done)) | (simp_all; done) | (simp_all; omega))))) | exact SVLe.refl | (refine sle_i ?_; (unfold okRule; first | (simp [*]; done) | (rw [decide_eq_false] <;> first | rfl | omega | (simp; done)) | (rw [decide_eq_true] <;> first | rfl | omega | (simp [*]; done)) | (simp_all; done) | (simp_all; omega))) | (refine sle_b ?_; (unfold okRule; first | (simp [*]; done) | (rw [decide_eq_false] <;> first | rfl | omega | (simp; done)) | (rw [decide_eq_true] <;> first | rfl | omega | (simp [*]; done)) | (simp_all; done) | (simp_all; omega))))) (h3 := (by repeat (first | exact trivial | refine And.intro ?_ ?_ | exact Or.inl rfl | exact Or.inr rfl | (refine Or.inr (row_eq ?_); (unfold okRule; first | (simp [*]; done) | (rw [decide_eq_false] <;> first | rfl | omega | (simp; done)) | (rw [decide_eq_true] <;> first | rfl | omega | (simp [*]; done)) | (simp_all; done) | (simp_all; omega))) | (refine Or.inr (bx_eq rfl rfl ?_); (try dsimp only [C.ren, C.ren.all]); (unfold okRule; first | (simp [*]; done) | (rw [decide_eq_false] <;> first | rfl | omega | (simp; done)) | (rw [decide_eq_true] <;> first | rfl | omega | (simp [*]; done)) | (simp_all; done) | (simp_all; omega))))))
theorem validM1_ok (m : Mach) (r : Rule') (h1 : -1000 ≤ m.sy) (h2 : m.sy ≤ 1000) (h3 : -1000 ≤ m.st) (h4 : m.st ≤ 1000) : Does Try.prog 140 [.agg (ruC r), .one (maB m)] [] (.one (boo (!okRule m.sy m.st r))) [] := by
  refine does_of (k := 0) Try.func140 rfl Try.ntmps140 rfl rfl fun w F0 S0 ρ0 => ?_
  dsimp only [argT, argH]
  repeat' first
    | refine g_seq ?_
    | refine g_skip ?_
    | refine g_exit ?_
    | refine g_block ?_
    | refine g_reg ?_
    | refine g_if_t rfl ?_
    | refine g_if_f rfl ?_
    | refine o_nil ?_
    | refine q_s ?_
    | refine q_se ?_
    | refine q_b ?_
    | refine q_be rfl ?_
    | refine q_bn rfl ?_
    | refine q_le ?_
    | refine q_ce ?_
    | (apply n3; (first | exact a_new (gb := .bx _) rfl); exact rfl; (try dsimp only [List.map_cons, List.map_nil, scC, Nat.reduceAdd]))
    | (apply p3; (first | exact a_pure (sv := .one _) rfl | exact a_pure (sv := .agg _) rfl | exact a_ld_rowI rfl rfl rfl (fC rfl) bnd | exact a_pure (sv := .tup _) rfl); exact rfl)
    | (apply c4 0; exact callK1 (θ := []) (hD := (validRule_ok _ _ preB3 preB3 preB3 preB3)); exact rfl; exact rfl; exact rfl; (try dsimp only [SV.ren, C.ren, C.ren.all, tRen, GB.ren, calF, upOf, List.cons_append, List.nil_append, Nat.reduceAdd]))
    | (refine o_gs rfl rfl (fun hc => ?_) (fun hc => ?_) <;> (try simp only [decide_eq_true_eq, decide_eq_false_iff_not, Bool.not_eq_true', Bool.not_eq_false', Bool.not_eq_true, Bool.not_eq_false, Bool.and_eq_true, Bool.or_eq_false_iff, Bool.not_not] at hc) <;> (try (exfalso; omega)))
    | (refine g_cond rfl (fun hc => ?_) (fun hc => ?_) <;> (try simp only [decide_eq_true_eq, decide_eq_false_iff_not, Bool.not_eq_true', Bool.not_eq_false', Bool.not_eq_true, Bool.not_eq_false, Bool.and_eq_true, Bool.or_eq_false_iff, Bool.not_not] at hc) <;> (try (exfalso; omega)))
  repeat (first | refine g_ret ?_ | refine q_sr ?_ | refine q_br ?_ | refine q_lr ?_ | refine q_cr ?_)
  refine ends_id ?_
  exact endK [] (h2 := (by first | (with_reducible exact SVLe.refl) | exact SVLe.any | exact SVLe.one (.sh rfl) | exact SVLe.one (.nil (by decide)) | (refine SVLe.agg ?_; repeat (first | exact CsLe.nil | refine CsLe.cons ?_ ?_ | exact CLe.refl | exact CLe.sh rfl | exact CLe.nil (by decide) | (refine cle_i ?_; rfl) | (refine cle_b ?_; rfl))) | (refine SVLe.tup ?_; repeat (first | exact TLe.nil | refine TLe.cons ?_ ?_ | exact CsLe.nil | refine CsLe.cons ?_ ?_ | exact CLe.refl | exact CLe.sh rfl | exact CLe.nil (by decide) | (refine cle_i ?_; rfl) | (refine cle_b ?_; rfl))) | exact SVLe.refl | (refine sle_i ?_; rfl) | (refine sle_b ?_; rfl))) (h3 := (by repeat (first | exact trivial | refine And.intro ?_ ?_ | exact Or.inl rfl | exact Or.inr rfl | (refine Or.inr (row_eq ?_); rfl) | (refine Or.inr (bx_eq rfl rfl ?_); (try dsimp only [C.ren, C.ren.all]); rfl))))
/-- The place of the first element that is as asked, or -1. -/
@[irreducible] def idxF {α : Type} (p : α → Bool) (l : List α) : Int := match l.findIdx? p with | some i => i | none => -1
theorem idxF_stop {α : Type} (p : α → Bool) (l : List α) (i : Int) (h0 : 0 ≤ i) (h : i < l.length) (h1 : (l.take i.toNat).all (fun x => !p x) = true) (h2 : p (l[i.toNat]'(by omega)) = true) : idxF p l = i := by
  have : l.findIdx? p = some i.toNat := by
    rw [List.findIdx?_eq_some_iff_getElem]
    refine ⟨by omega, h2, fun j hj => ?_⟩
    rw [List.all_eq_true] at h1
    have := h1 (l[j]'(by omega)) (by rw [List.mem_take_iff_getElem]; exact ⟨j, by omega, rfl⟩)
    simpa using this
  unfold idxF
  rw [this]
  simp only
  omega
theorem idxF_none {α : Type} (p : α → Bool) (l : List α) (h1 : l.all (fun x => !p x) = true) : idxF p l = -1 := by
  have : l.findIdx? p = none := by
    rw [List.findIdx?_eq_none_iff]
    rw [List.all_eq_true] at h1
    intro x hx
    simpa using h1 x hx
  unfold idxF
  rw [this]
theorem idxF_any {α : Type} (p : α → Bool) (l : List α) : decide (0 ≤ idxF p l) = l.any p := by
  unfold idxF
  cases h : l.findIdx? p with
  | none =>
    rw [List.findIdx?_eq_none_iff] at h
    have : l.any p = false := by rw [List.any_eq_false]; intro x hx; simp [h x hx]
    rw [this]; rfl
  | some i =>
    obtain ⟨h1, h2, _⟩ := List.findIdx?_eq_some_iff_getElem.1 h
    have : l.any p = true := by rw [List.any_eq_true]; exact ⟨l[i], List.getElem_mem h1, h2⟩
    rw [this]
    simp
theorem idxR_ok (xs : List Rule') (k : Nat) (d : D) (p : Rule' → Bool) (hx : (xs.length : Int) ≤ 16777216) (hE : entB Try.prog k = true) (hp : ∀ r, Does Try.prog k [.agg (ruC r), .one (.d d)] [] (.one (boo (p r))) []) : Does Try.prog 154 [.one (shR xs), .one (.d (.fn (.func k) [d]))] [] (.one (int (idxF p xs))) [] := by
  refine does_of (k := 0) Try.func154 rfl Try.ntmps154 rfl rfl fun w F0 S0 ρ0 => ?_
  dsimp only [argT, argH]
  repeat' first
    | refine g_seq ?_
    | refine g_skip ?_
    | refine g_exit ?_
    | refine g_block ?_
    | refine g_reg ?_
    | refine g_if_t rfl ?_
    | refine g_if_f rfl ?_
    | refine o_nil ?_
    | refine q_s ?_
    | refine q_se ?_
    | refine q_b ?_
    | refine q_be rfl ?_
    | refine q_bn rfl ?_
    | refine q_le ?_
    | refine q_ce ?_
    | (apply p3; (first | exact a_pure (sv := .one _) rfl | exact a_pure (sv := .agg _) rfl | exact a_pure (sv := .tup _) rfl | exact a_lenE rfl rfl (fS rfl) (by exact rfl) | exact a_len_str rfl (fT rfl) | exact a_cmp rfl rfl rfl trivial rfl | exact a_iaE rfl rfl rfl (fS rfl) (by omega) bnd (by exact rfl) | exact a_iaO1 rfl rfl rfl (fS rfl) (by omega) bnd | exact a_iaO rfl rfl rfl (fS rfl) (by omega) bnd (by exact rfl) | exact a_ld_rowI rfl rfl rfl (fC rfl) bnd | exact a_add rfl rfl (by omega) (by omega)); exact rfl)
    | (apply c4 0; exact callK0 (θ := []) (hE := hE) (hD := (hp _)); exact rfl; exact rfl; exact rfl; (try dsimp only [SV.ren, C.ren, C.ren.all, tRen, GB.ren, calF, upOf, List.cons_append, List.nil_append, Nat.reduceAdd]))
    | (refine o_gs rfl rfl (fun hc => ?_) (fun hc => ?_) <;> (try simp only [decide_eq_true_eq, decide_eq_false_iff_not, Bool.not_eq_true', Bool.not_eq_false', Bool.not_eq_true, Bool.not_eq_false, Bool.and_eq_true, Bool.or_eq_false_iff, Bool.not_not] at hc) <;> (try (exfalso; omega)))
    | (refine g_cond rfl (fun hc => ?_) (fun hc => ?_) <;> (try simp only [decide_eq_true_eq, decide_eq_false_iff_not, Bool.not_eq_true', Bool.not_eq_false', Bool.not_eq_true, Bool.not_eq_false, Bool.and_eq_true, Bool.or_eq_false_iff, Bool.not_not] at hc) <;> (try (exfalso; omega)))
  refine g_loop_id ?_
  refine loopK [0, 1, 4, 7] [] (fun i : Int => 0 ≤ i ∧ i ≤ xs.length ∧ (xs.take i.toNat).all (fun x => !p x) = true) (fun i => [(8, .one (int i))]) (fun _ => []) (fun i => (xs.length - i).toNat) (0 : Int) [] (hI := ?_) (hr := ?_)
  · exact ⟨by omega, by omega, rfl⟩
  · rintro i ⟨h0, h1, h2⟩
    dsimp only [List.cons_append, List.nil_append] at *
    skip
    repeat' first
      | refine g_seq ?_
      | refine g_skip ?_
      | refine g_exit ?_
      | refine g_block ?_
      | refine g_reg ?_
      | refine g_if_t rfl ?_
      | refine g_if_f rfl ?_
      | refine o_nil ?_
      | refine q_s ?_
      | refine q_se ?_
      | refine q_b ?_
      | refine q_be rfl ?_
      | refine q_bn rfl ?_
      | refine q_le ?_
      | refine q_ce ?_
      | (apply p3; (first | exact a_cmp rfl rfl rfl trivial rfl | exact a_pure (sv := .one _) rfl | exact a_pure (sv := .agg _) rfl | exact a_pure (sv := .tup _) rfl | exact a_iaE rfl rfl rfl (fS rfl) (by omega) bnd (by exact rfl) | exact a_iaO1 rfl rfl rfl (fS rfl) (by omega) bnd | exact a_iaO rfl rfl rfl (fS rfl) (by omega) bnd (by exact rfl) | exact a_ld_rowI rfl rfl rfl (fC rfl) bnd | exact a_add rfl rfl (by omega) (by omega)); exact rfl)
      | (apply c4 0; exact callK0 (θ := []) (hE := hE) (hD := (hp _)); exact rfl; exact rfl; exact rfl; (try dsimp only [SV.ren, C.ren, C.ren.all, tRen, GB.ren, calF, upOf, List.cons_append, List.nil_append, Nat.reduceAdd]))
      | (refine o_gs rfl rfl (fun hc => ?_) (fun hc => ?_) <;> (try simp only [decide_eq_true_eq, decide_eq_false_iff_not, Bool.not_eq_true', Bool.not_eq_false', Bool.not_eq_true, Bool.not_eq_false, Bool.and_eq_true, Bool.or_eq_false_iff, Bool.not_not] at hc) <;> (try (exfalso; omega)))
      | (refine g_cond rfl (fun hc => ?_) (fun hc => ?_) <;> (try simp only [decide_eq_true_eq, decide_eq_false_iff_not, Bool.not_eq_true', Bool.not_eq_false', Bool.not_eq_true, Bool.not_eq_false, Bool.and_eq_true, Bool.or_eq_false_iff, Bool.not_not] at hc) <;> (try (exfalso; omega)))
    · repeat (first | refine g_ret ?_ | refine q_sr ?_ | refine q_br ?_ | refine q_lr ?_ | refine q_cr ?_)
      refine ends_id ?_
      exact endK [] (h2 := (by first | (with_reducible exact SVLe.refl) | exact SVLe.any | exact SVLe.one (.sh rfl) | exact SVLe.one (.nil (by decide)) | (refine SVLe.agg ?_; repeat (first | exact CsLe.nil | refine CsLe.cons ?_ ?_ | exact CLe.refl | exact CLe.sh rfl | exact CLe.nil (by decide) | (refine cle_i ?_; exact (idxF_stop p xs i h0 (by omega) h2 hc).symm) | (refine cle_b ?_; exact (idxF_stop p xs i h0 (by omega) h2 hc).symm))) | (refine SVLe.tup ?_; repeat (first | exact TLe.nil | refine TLe.cons ?_ ?_ | exact CsLe.nil | refine CsLe.cons ?_ ?_ | exact CLe.refl | exact CLe.sh rfl | exact CLe.nil (by decide) | (refine cle_i ?_; exact (idxF_stop p xs i h0 (by omega) h2 hc).symm) | (refine cle_b ?_; exact (idxF_stop p xs i h0 (by omega) h2 hc).symm))) | exact SVLe.refl | (refine sle_i ?_; exact (idxF_stop p xs i h0 (by omega) h2 hc).symm) | (refine sle_b ?_; exact (idxF_stop p xs i h0 (by omega) h2 hc).symm))) (h3 := (by repeat (first | exact trivial | refine And.intro ?_ ?_ | exact Or.inl rfl | exact Or.inr rfl | (refine Or.inr (row_eq ?_); exact (idxF_stop p xs i h0 (by omega) h2 hc).symm) | (refine Or.inr (bx_eq rfl rfl ?_); (try dsimp only [C.ren, C.ren.all]); exact (idxF_stop p xs i h0 (by omega) h2 hc).symm))))
    · refine q_again (i + 1) [] (by exact stk) ?_ ?_
      · exact ⟨by omega, by omega, all_snocI _ _ _ h0 (by omega) h2 (by simp [hc])⟩
      · omega
    · repeat (first | refine g_ret ?_ | refine q_sr ?_ | refine q_br ?_ | refine q_lr ?_ | refine q_cr ?_)
      refine ends_id ?_
      exact endK [] (h2 := (by first | (with_reducible exact SVLe.refl) | exact SVLe.any | exact SVLe.one (.sh rfl) | exact SVLe.one (.nil (by decide)) | (refine SVLe.agg ?_; repeat (first | exact CsLe.nil | refine CsLe.cons ?_ ?_ | exact CLe.refl | exact CLe.sh rfl | exact CLe.nil (by decide) | (refine cle_i ?_; (rw [List.take_of_length_le (by omega)] at h2; exact (idxF_none p xs h2).symm)) | (refine cle_b ?_; (rw [List.take_of_length_le (by omega)] at h2; exact (idxF_none p xs h2).symm)))) | (refine SVLe.tup ?_; repeat (first | exact TLe.nil | refine TLe.cons ?_ ?_ | exact CsLe.nil | refine CsLe.cons ?_ ?_ | exact CLe.refl | exact CLe.sh rfl | exact CLe.nil (by decide) | (refine cle_i ?_; (rw [List.take_of_length_le (by omega)] at h2; exact (idxF_none p xs h2).symm)) | (refine cle_b ?_; (rw [List.take_of_length_le (by omega)] at h2; exact (idxF_none p xs h2).symm)))) | exact SVLe.refl | (refine sle_i ?_; (rw [List.take_of_length_le (by omega)] at h2; exact (idxF_none p xs h2).symm)) | (refine sle_b ?_; (rw [List.take_of_length_le (by omega)] at h2; exact (idxF_none p xs h2).symm)))) (h3 := (by repeat (first | exact trivial | refine And.intro ?_ ?_ | exact Or.inl rfl | exact Or.inr rfl | (refine Or.inr (row_eq ?_); (rw [List.take_of_length_le (by omega)] at h2; exact (idxF_none p xs h2).symm)) | (refine Or.inr (bx_eq rfl rfl ?_); (try dsimp only [C.ren, C.ren.all]); (rw [List.take_of_length_le (by omega)] at h2; exact (idxF_none p xs h2).symm)))))
theorem hasR_ok (xs : List Rule') (k : Nat) (d : D) (p : Rule' → Bool) (hx : (xs.length : Int) ≤ 16777216) (hE : entB Try.prog k = true) (hp : ∀ r, Does Try.prog k [.agg (ruC r), .one (.d d)] [] (.one (boo (p r))) []) : Does Try.prog 139 [.one (shR xs), .one (.d (.fn (.func k) [d]))] [] (.one (boo (xs.any p))) [] := by
  refine does_of (k := 0) Try.func139 rfl Try.ntmps139 rfl rfl fun w F0 S0 ρ0 => ?_
  dsimp only [argT, argH]
  repeat' first
    | refine g_seq ?_
    | refine g_skip ?_
    | refine g_exit ?_
    | refine g_block ?_
    | refine g_reg ?_
    | refine g_if_t rfl ?_
    | refine g_if_f rfl ?_
    | refine o_nil ?_
    | refine q_s ?_
    | refine q_se ?_
    | refine q_b ?_
    | refine q_be rfl ?_
    | refine q_bn rfl ?_
    | refine q_le ?_
    | refine q_ce ?_
    | (apply p3; (first | exact a_pure (sv := .one _) rfl | exact a_pure (sv := .agg _) rfl | exact a_pure (sv := .tup _) rfl | exact a_cmp rfl rfl rfl trivial rfl); exact rfl)
    | (apply c4 0; exact callK1 (θ := []) (hD := (idxR_ok _ _ _ _ preB3 preB3 preB3)); exact rfl; exact rfl; exact rfl; (try dsimp only [SV.ren, C.ren, C.ren.all, tRen, GB.ren, calF, upOf, List.cons_append, List.nil_append, Nat.reduceAdd]))
    | (refine o_gs rfl rfl (fun hc => ?_) (fun hc => ?_) <;> (try simp only [decide_eq_true_eq, decide_eq_false_iff_not, Bool.not_eq_true', Bool.not_eq_false', Bool.not_eq_true, Bool.not_eq_false, Bool.and_eq_true, Bool.or_eq_false_iff, Bool.not_not] at hc) <;> (try (exfalso; omega)))
    | (refine g_cond rfl (fun hc => ?_) (fun hc => ?_) <;> (try simp only [decide_eq_true_eq, decide_eq_false_iff_not, Bool.not_eq_true', Bool.not_eq_false', Bool.not_eq_true, Bool.not_eq_false, Bool.and_eq_true, Bool.or_eq_false_iff, Bool.not_not] at hc) <;> (try (exfalso; omega)))
  repeat (first | refine g_ret ?_ | refine q_sr ?_ | refine q_br ?_ | refine q_lr ?_ | refine q_cr ?_)
  refine ends_id ?_
  exact endK [] (h2 := (by first | (with_reducible exact SVLe.refl) | exact SVLe.any | exact SVLe.one (.sh rfl) | exact SVLe.one (.nil (by decide)) | (refine SVLe.agg ?_; repeat (first | exact CsLe.nil | refine CsLe.cons ?_ ?_ | exact CLe.refl | exact CLe.sh rfl | exact CLe.nil (by decide) | (refine cle_i ?_; exact idxF_any p xs) | (refine cle_b ?_; exact idxF_any p xs))) | (refine SVLe.tup ?_; repeat (first | exact TLe.nil | refine TLe.cons ?_ ?_ | exact CsLe.nil | refine CsLe.cons ?_ ?_ | exact CLe.refl | exact CLe.sh rfl | exact CLe.nil (by decide) | (refine cle_i ?_; exact idxF_any p xs) | (refine cle_b ?_; exact idxF_any p xs))) | exact SVLe.refl | (refine sle_i ?_; exact idxF_any p xs) | (refine sle_b ?_; exact idxF_any p xs))) (h3 := (by repeat (first | exact trivial | refine And.intro ?_ ?_ | exact Or.inl rfl | exact Or.inr rfl | (refine Or.inr (row_eq ?_); exact idxF_any p xs) | (refine Or.inr (bx_eq rfl rfl ?_); (try dsimp only [C.ren, C.ren.all]); exact idxF_any p xs))))
abbrev maD (m : Mach) : D := .bx false [.sc (.int .i64 m.sy), .sc (.int .i64 m.st), .sl false 3 (rows eR m.ru)]
theorem hasM_ok (m : Mach) (xs : List Rule') (hx : (xs.length : Int) ≤ 16777216) (h1 : -1000 ≤ m.sy) (h2 : m.sy ≤ 1000) (h3 : -1000 ≤ m.st) (h4 : m.st ≤ 1000) : Does Try.prog 139 [.one (shR xs), .one (.d (.fn (.func 140) [maD m]))] [] (.one (boo (xs.any fun r => !okRule m.sy m.st r))) [] := hasR_ok xs _ (maD m) _ hx (fQ rfl) fun r => validM1_ok m r h1 h2 h3 h4
theorem not_any_not {α : Type} (p : α → Bool) (l : List α) : (!l.any fun x => !p x) = l.all p := by
  induction l with
  | nil => rfl
  | cons a l ih => simp only [List.any_cons, List.all_cons, Bool.not_or, Bool.not_not, ih]
theorem ValidMachine_ok (m : Mach) (hm : (m.ru.length : Int) ≤ 16777216) : Does Try.prog 110 [.agg (maC m)] [] (.one (boo (vMach m))) [] := by
  refine does_of (k := 0) Try.func110 rfl Try.ntmps110 rfl rfl fun w F0 S0 ρ0 => ?_
  dsimp only [argT, argH]
  repeat' first
    | refine g_seq ?_
    | refine g_skip ?_
    | refine g_exit ?_
    | refine g_block ?_
    | refine g_reg ?_
    | refine g_if_t rfl ?_
    | refine g_if_f rfl ?_
    | refine o_nil ?_
    | refine q_s ?_
    | refine q_se ?_
    | refine q_b ?_
    | refine q_be rfl ?_
    | refine q_bn rfl ?_
    | refine q_le ?_
    | refine q_ce ?_
    | (apply n3; (first | exact a_new (gb := .bx _) rfl); exact rfl; (try dsimp only [List.map_cons, List.map_nil, scC, Nat.reduceAdd]))
    | (apply p3; (first | exact a_pure (sv := .one _) rfl | exact a_pure (sv := .agg _) rfl | exact a_ld_rowI rfl rfl rfl (fC rfl) bnd | exact a_pure (sv := .tup _) rfl); exact rfl)
    | (apply c4 0; exact callK1 (θ := []) (hD := (hasR_ok _ _ _ _ preB3 preB3 preB3)); exact rfl; exact rfl; exact rfl; (try dsimp only [SV.ren, C.ren, C.ren.all, tRen, GB.ren, calF, upOf, List.cons_append, List.nil_append, Nat.reduceAdd]))
    | (apply c4 0; exact callK1 (θ := []) (hD := (hasM_ok _ _ preB3 preB3 preB3 preB3 preB3)); exact rfl; exact rfl; exact rfl; (try dsimp only [SV.ren, C.ren, C.ren.all, tRen, GB.ren, calF, upOf, List.cons_append, List.nil_append, Nat.reduceAdd]))
    | (apply g_drN okM [[], [0], [0, 1], [0, 1, 2], [0, 1, 2, 3], [0, 1, 2, 3, 4], [0, 1, 2, 3, 4, 5], [0, 1, 2, 3, 4, 5, 6], [0, 1, 2, 3, 4, 5, 6, 7], [0, 1, 2, 3, 4, 5, 6, 7, 8], [0, 1, 2, 3, 4, 5, 6, 7, 8, 9], [0, 1, 2, 3, 4, 5, 6, 7, 8, 9, 10], [0, 1, 2, 3, 4, 5, 6, 7, 8, 9, 10, 11], [0, 1, 2, 3, 4, 5, 6, 7, 8, 9, 10, 11, 12], [0, 1, 2, 3, 4, 5, 6, 7, 8, 9, 10], [0, 1, 2, 3, 4, 5, 6, 7, 8, 9, 10, 14], [0, 1, 2, 3, 4, 5, 6, 7, 8, 9, 10], [0, 1, 2, 3, 4, 5, 6, 7, 8, 9, 10, 16], [0, 1, 2, 3, 4, 5, 6, 7, 8, 9, 10, 14, 15, 16, 17], [0, 1, 2, 3, 4, 5, 6, 7, 8, 9, 10, 11, 12, 13, 14, 15, 16, 17, 18], [0, 1, 2, 3, 4, 5, 6, 7, 8, 9, 10, 11, 12, 13, 14, 15, 16, 17, 18, 19]] [([], []), ([], []), ([], []), ([], []), ([], []), ([], []), ([], []), ([], []), ([], []), ([], []), ([], []), ([], []), ([], []), ([], []), ([], []), ([], []), ([], []), ([], []), ([], []), ([], []), ([], [])] 0; (focus (all_goals (apply d_pN (i := 0) (fs := []) (u := []) (o := []); (first | exact a_pure (sv := .one _) rfl); exact rfl; kernel_rfl; kernel_rfl; kernel_rfl; exact rfl; exact rfl); all_goals (apply d_pN (i := 1) (fs := [true]) (u := []) (o := []); (first | exact a_pure (sv := .one _) rfl | exact a_pure (sv := .agg _) rfl | exact a_ld_rowI rfl rfl rfl (fC rfl) bnd); exact rfl; kernel_rfl; kernel_rfl; kernel_rfl; exact rfl; exact rfl); all_goals (apply d_pN (i := 2) (fs := [true, true]) (u := []) (o := []); (first | exact callD1 (n := _) 0 (θ := []) (hD := (within_ok _ _ _))); exact rfl; kernel_rfl; kernel_rfl; kernel_rfl; exact rfl; exact rfl); all_goals (apply d_pN (i := 3) (fs := [true, true, true]) (u := []) (o := []); (first | exact a_pure (sv := .one _) rfl); exact rfl; kernel_rfl; kernel_rfl; kernel_rfl; exact rfl; exact rfl); all_goals (apply d_bN (i := 4) (fs := [true, true, true, true]) (u := []) (o := []); (first | exact a_pure (sv := .one _) rfl | exact a_pure (sv := .agg _) rfl | exact a_pure (sv := .tup _) rfl); exact rfl; kernel_rfl; kernel_rfl; kernel_rfl; exact rfl; exact rfl; all_goals (intro hc; first | cases hc | (try simp only [decide_eq_true_eq, decide_eq_false_iff_not, Bool.not_eq_true', Bool.not_eq_false', Bool.not_eq_true, Bool.not_eq_false, Bool.and_eq_true, Bool.or_eq_false_iff, Bool.not_not] at hc); first | (exfalso; omega) | skip)); all_goals (first | (refine d_noN (i := 5) (fs := [true, true, true, true, true]) (u := []) (o := []) rfl rfl rfl (by kernel_rfl) (by kernel_rfl) (by kernel_rfl) rfl (dst_some rfl) rfl ?_) | (apply d_pyN (i := 5) (fs := [true, true, true, true, true]) (u := []) (o := []); exact rfl; exact rfl; (first | exact a_pure (sv := .one _) rfl); exact rfl; kernel_rfl; kernel_rfl; kernel_rfl; exact rfl; exact rfl; exact rfl)); all_goals (first | (refine d_noN (i := 6) (fs := [true, true, true, true, true, true]) (u := []) (o := []) rfl rfl rfl (by kernel_rfl) (by kernel_rfl) (by kernel_rfl) rfl (dst_some rfl) rfl ?_) | (apply d_pyN (i := 6) (fs := [true, true, true, true, true, true]) (u := []) (o := []); exact rfl; exact rfl; (first | exact a_pure (sv := .one _) rfl | exact a_pure (sv := .agg _) rfl | exact a_ld_rowI rfl rfl rfl (fC rfl) bnd); exact rfl; kernel_rfl; kernel_rfl; kernel_rfl; exact rfl; exact rfl; exact rfl)); all_goals (first | (refine d_noN (i := 7) (fs := [true, true, true, true, true, true, true]) (u := []) (o := []) rfl rfl rfl (by kernel_rfl) (by kernel_rfl) (by kernel_rfl) rfl (dst_some rfl) rfl ?_) | (apply d_pyN (i := 7) (fs := [true, true, true, true, true, true, true]) (u := []) (o := []); exact rfl; exact rfl; (first | exact callD1 (n := _) 0 (θ := []) (hD := (within_ok _ _ _))); exact rfl; kernel_rfl; kernel_rfl; kernel_rfl; exact rfl; exact rfl; exact rfl)); all_goals (first | (refine d_noN (i := 8) (fs := [true, true, true, true, true, true, true, true]) (u := []) (o := []) rfl rfl rfl (by kernel_rfl) (by kernel_rfl) (by kernel_rfl) rfl (dst_some rfl) rfl ?_) | (apply d_pyN (i := 8) (fs := [true, true, true, true, true, true, true, true]) (u := []) (o := []); exact rfl; exact rfl; (first | exact a_pure (sv := .one _) rfl); exact rfl; kernel_rfl; kernel_rfl; kernel_rfl; exact rfl; exact rfl; exact rfl)); all_goals (apply d_pN (i := 9) (fs := [true, true, true, true, true, true, true, true, true]) (u := []) (o := []); (first | exact a_pure (sv := .one _) rfl); exact rfl; kernel_rfl; kernel_rfl; kernel_rfl; exact rfl; exact rfl); all_goals (apply d_bN (i := 10) (fs := [true, true, true, true, true, true, true, true, true, true]) (u := []) (o := []); (first | exact a_pure (sv := .one _) rfl | exact a_pure (sv := .agg _) rfl | exact a_pure (sv := .tup _) rfl); exact rfl; kernel_rfl; kernel_rfl; kernel_rfl; exact rfl; exact rfl; all_goals (intro hc; first | cases hc | (try simp only [decide_eq_true_eq, decide_eq_false_iff_not, Bool.not_eq_true', Bool.not_eq_false', Bool.not_eq_true, Bool.not_eq_false, Bool.and_eq_true, Bool.or_eq_false_iff, Bool.not_not] at hc); first | (exfalso; omega) | skip)); all_goals (first | (refine d_noN (i := 11) (fs := [true, true, true, true, true, true, true, true, true, true, true]) (u := [17, 18, 19, 20, 21]) (o := []) rfl rfl rfl (by kernel_rfl) (by kernel_rfl) (by kernel_rfl) rfl (dst_some rfl) rfl ?_) | (apply d_pyN (i := 11) (fs := [true, true, true, true, true, true, true, true, true, true, true]) (u := [17, 18, 19, 20, 21]) (o := []); exact rfl; exact rfl; (first | exact a_pure (sv := .one _) rfl); exact rfl; kernel_rfl; kernel_rfl; kernel_rfl; exact rfl; exact rfl; exact rfl)); all_goals (first | (refine d_noN (i := 12) (fs := [true, true, true, true, true, true, true, true, true, true, true, true]) (u := [17, 18, 19, 20, 21]) (o := []) rfl rfl rfl (by kernel_rfl) (by kernel_rfl) (by kernel_rfl) rfl (dst_some rfl) rfl ?_) | (apply d_pyN (i := 12) (fs := [true, true, true, true, true, true, true, true, true, true, true, true]) (u := [17, 18, 19, 20, 21]) (o := []); exact rfl; exact rfl; (first | exact a_pure (sv := .one _) rfl | exact a_pure (sv := .agg _) rfl | exact a_ld_rowI rfl rfl rfl (fC rfl) bnd); exact rfl; kernel_rfl; kernel_rfl; kernel_rfl; exact rfl; exact rfl; exact rfl)); all_goals (first | (refine d_noN (i := 13) (fs := [true, true, true, true, true, true, true, true, true, true, true, true, true]) (u := [17, 18, 19, 20, 21]) (o := []) rfl rfl rfl (by kernel_rfl) (by kernel_rfl) (by kernel_rfl) rfl (dst_some rfl) rfl ?_) | (apply d_pyN (i := 13) (fs := [true, true, true, true, true, true, true, true, true, true, true, true, true]) (u := [17, 18, 19, 20, 21]) (o := []); exact rfl; exact rfl; (first | exact callD1 (n := _) 0 (θ := []) (hD := (sizeR_ok _ preB3))); exact rfl; kernel_rfl; kernel_rfl; kernel_rfl; exact rfl; exact rfl; exact rfl)); all_goals (first | (refine d_noN (i := 14) (fs := [false, false, false, true, true, true, true, true, true, true, true, true, true, true]) (u := [14, 15, 16, 19, 20]) (o := []) rfl rfl rfl (by kernel_rfl) (by kernel_rfl) (by kernel_rfl) rfl (dst_some rfl) rfl ?_) | (apply d_pyN (i := 14) (fs := [false, false, false, true, true, true, true, true, true, true, true, true, true, true]) (u := [14, 15, 16, 19, 20]) (o := []); exact rfl; exact rfl; (first | exact a_pure (sv := .one _) rfl); exact rfl; kernel_rfl; kernel_rfl; kernel_rfl; exact rfl; exact rfl; exact rfl)); all_goals (first | (refine d_noN (i := 15) (fs := [true, false, false, false, true, true, true, true, true, true, true, true, true, true, true]) (u := [14, 15, 16, 19, 20]) (o := []) rfl rfl rfl (by kernel_rfl) (by kernel_rfl) (by kernel_rfl) rfl (dst_some rfl) rfl ?_) | (apply d_pyN (i := 15) (fs := [true, false, false, false, true, true, true, true, true, true, true, true, true, true, true]) (u := [14, 15, 16, 19, 20]) (o := []); exact rfl; exact rfl; (first | exact a_pure (sv := .one _) rfl | exact a_pure (sv := .agg _) rfl | exact a_ld_rowI rfl rfl rfl (fC rfl) bnd); exact rfl; kernel_rfl; kernel_rfl; kernel_rfl; exact rfl; exact rfl; exact rfl)); all_goals (first | (refine d_noN (i := 16) (fs := [false, false, false, false, false, true, true, true, true, true, true, true, true, true, true, true]) (u := [14, 15, 16, 17, 18]) (o := []) rfl rfl rfl (by kernel_rfl) (by kernel_rfl) (by kernel_rfl) rfl (dst_some rfl) rfl ?_) | (apply d_pyN (i := 16) (fs := [false, false, false, false, false, true, true, true, true, true, true, true, true, true, true, true]) (u := [14, 15, 16, 17, 18]) (o := []); exact rfl; exact rfl; (first | exact a_pure (sv := .one _) rfl); exact rfl; kernel_rfl; kernel_rfl; kernel_rfl; exact rfl; exact rfl; exact rfl)); all_goals (first | (refine d_noN (i := 17) (fs := [true, false, false, false, false, false, true, true, true, true, true, true, true, true, true, true, true]) (u := [14, 15, 16, 17, 18]) (o := []) rfl rfl rfl (by kernel_rfl) (by kernel_rfl) (by kernel_rfl) rfl (dst_some rfl) rfl ?_) | (apply d_pyN (i := 17) (fs := [true, false, false, false, false, false, true, true, true, true, true, true, true, true, true, true, true]) (u := [14, 15, 16, 17, 18]) (o := []); exact rfl; exact rfl; (first | exact a_pure (sv := .one _) rfl | exact a_pure (sv := .agg _) rfl | exact a_ld_rowI rfl rfl rfl (fC rfl) bnd); exact rfl; kernel_rfl; kernel_rfl; kernel_rfl; exact rfl; exact rfl; exact rfl)); all_goals (first | (refine d_noN (i := 18) (fs := [true, true, true, true, false, false, false, true, true, true, true, true, true, true, true, true, true, true]) (u := [14, 15, 16]) (o := []) rfl rfl rfl (by kernel_rfl) (by kernel_rfl) (by kernel_rfl) rfl (dst_some rfl) rfl ?_) | (apply d_pyN (i := 18) (fs := [true, true, true, true, false, false, false, true, true, true, true, true, true, true, true, true, true, true]) (u := [14, 15, 16]) (o := []); exact rfl; exact rfl; (first | exact a_mulB rfl rfl (by omega) (by omega) (by omega) (by omega) | exact a_mul rfl rfl (by first | omega | assumption) (by first | omega | assumption)); exact rfl; kernel_rfl; kernel_rfl; kernel_rfl; exact rfl; exact rfl; exact rfl)); all_goals (first | (refine d_noN (i := 19) (fs := [true, true, true, true, true, true, true, true, true, true, true, true, true, true, true, true, true, true, true]) (u := []) (o := []) rfl rfl rfl (by kernel_rfl) (by kernel_rfl) (by kernel_rfl) rfl (dst_some rfl) rfl ?_) | (apply d_pyN (i := 19) (fs := [true, true, true, true, true, true, true, true, true, true, true, true, true, true, true, true, true, true, true]) (u := []) (o := []); exact rfl; exact rfl; (first | exact a_ne rfl rfl | exact a_neS rfl rfl rfl); exact rfl; kernel_rfl; kernel_rfl; kernel_rfl; exact rfl; exact rfl; exact rfl)); all_goals (apply d_pN (i := 20) (fs := [true, true, true, true, true, true, true, true, true, true, true, true, true, true, true, true, true, true, true, true]) (u := []) (o := []); (first | exact a_pure (sv := .one _) rfl); exact rfl; kernel_rfl; kernel_rfl; kernel_rfl; exact rfl; exact rfl); all_goals (refine d_nil ?_; dsimp only [selT, selH, trues, SV.ren, C.ren, C.ren.all, tRen, GB.ren, calF, upOf, List.cons_append, List.nil_append, Nat.reduceAdd, setRow, List.map_cons, List.map_nil, scC, List.set_cons_zero, List.set_cons_succ, List.take_succ_cons, List.take_zero, List.drop_succ_cons, List.drop_zero]))); any_goals kernel_rfl)
    | (refine o_gs rfl rfl (fun hc => ?_) (fun hc => ?_) <;> (try simp only [decide_eq_true_eq, decide_eq_false_iff_not, Bool.not_eq_true', Bool.not_eq_false', Bool.not_eq_true, Bool.not_eq_false, Bool.and_eq_true, Bool.or_eq_false_iff, Bool.not_not] at hc) <;> (try (exfalso; omega)))
    | (refine g_cond rfl (fun hc => ?_) (fun hc => ?_) <;> (try simp only [decide_eq_true_eq, decide_eq_false_iff_not, Bool.not_eq_true', Bool.not_eq_false', Bool.not_eq_true, Bool.not_eq_false, Bool.and_eq_true, Bool.or_eq_false_iff, Bool.not_not] at hc) <;> (try (exfalso; omega)))
  · repeat (first | refine g_ret ?_ | refine q_sr ?_ | refine q_br ?_ | refine q_lr ?_ | refine q_cr ?_)
    refine ends_id ?_
    exact endK [] (h2 := (by first | (with_reducible exact SVLe.refl) | exact SVLe.any | exact SVLe.one (.sh rfl) | exact SVLe.one (.nil (by decide)) | (refine SVLe.agg ?_; repeat (first | exact CsLe.nil | refine CsLe.cons ?_ ?_ | exact CLe.refl | exact CLe.sh rfl | exact CLe.nil (by decide) | (refine cle_i ?_; (unfold vMach; first | (simp [*]; done) | (rw [decide_eq_false] <;> first | rfl | omega | (simp; done)) | (rw [decide_eq_true] <;> first | rfl | omega | (simp [*]; done)) | (simp_all; done) | (simp_all; omega))) | (refine cle_b ?_; (unfold vMach; first | (simp [*]; done) | (rw [decide_eq_false] <;> first | rfl | omega | (simp; done)) | (rw [decide_eq_true] <;> first | rfl | omega | (simp [*]; done)) | (simp_all; done) | (simp_all; omega))))) | (refine SVLe.tup ?_; repeat (first | exact TLe.nil | refine TLe.cons ?_ ?_ | exact CsLe.nil | refine CsLe.cons ?_ ?_ | exact CLe.refl | exact CLe.sh rfl | exact CLe.nil (by decide) | (refine cle_i ?_; (unfold vMach; first | (simp [*]; done) | (rw [decide_eq_false] <;> first | rfl | omega | (simp; done)) | (rw [decide_eq_true] <;> first | rfl | omega | (simp [*]; done)) | (simp_all; done) | (simp_all; omega))) | (refine cle_b ?_; (unfold vMach; first | (simp [*]; done) | (rw [decide_eq_false] <;> first | rfl | omega | (simp; done)) | (rw [decide_eq_true] <;> first | rfl | omega | (simp [*]; done)) | (simp_all; done) | (simp_all; omega))))) | exact SVLe.refl | (refine sle_i ?_; (unfold vMach; first | (simp [*]; done) | (rw [decide_eq_false] <;> first | rfl | omega | (simp; done)) | (rw [decide_eq_true] <;> first | rfl | omega | (simp [*]; done)) | (simp_all; done) | (simp_all; omega))) | (refine sle_b ?_; (unfold vMach; first | (simp [*]; done) | (rw [decide_eq_false] <;> first | rfl | omega | (simp; done)) | (rw [decide_eq_true] <;> first | rfl | omega | (simp [*]; done)) | (simp_all; done) | (simp_all; omega))))) (h3 := (by repeat (first | exact trivial | refine And.intro ?_ ?_ | exact Or.inl rfl | exact Or.inr rfl | (refine Or.inr (row_eq ?_); (unfold vMach; first | (simp [*]; done) | (rw [decide_eq_false] <;> first | rfl | omega | (simp; done)) | (rw [decide_eq_true] <;> first | rfl | omega | (simp [*]; done)) | (simp_all; done) | (simp_all; omega))) | (refine Or.inr (bx_eq rfl rfl ?_); (try dsimp only [C.ren, C.ren.all]); (unfold vMach; first | (simp [*]; done) | (rw [decide_eq_false] <;> first | rfl | omega | (simp; done)) | (rw [decide_eq_true] <;> first | rfl | omega | (simp [*]; done)) | (simp_all; done) | (simp_all; omega))))))
  · repeat (first | refine g_ret ?_ | refine q_sr ?_ | refine q_br ?_ | refine q_lr ?_ | refine q_cr ?_)
    refine ends_id ?_
    exact endK [] (h2 := (by first | (with_reducible exact SVLe.refl) | exact SVLe.any | exact SVLe.one (.sh rfl) | exact SVLe.one (.nil (by decide)) | (refine SVLe.agg ?_; repeat (first | exact CsLe.nil | refine CsLe.cons ?_ ?_ | exact CLe.refl | exact CLe.sh rfl | exact CLe.nil (by decide) | (refine cle_i ?_; (unfold vMach; first | (simp [*]; done) | (rw [decide_eq_false] <;> first | rfl | omega | (simp; done)) | (rw [decide_eq_true] <;> first | rfl | omega | (simp [*]; done)) | (simp_all; done) | (simp_all; omega))) | (refine cle_b ?_; (unfold vMach; first | (simp [*]; done) | (rw [decide_eq_false] <;> first | rfl | omega | (simp; done)) | (rw [decide_eq_true] <;> first | rfl | omega | (simp [*]; done)) | (simp_all; done) | (simp_all; omega))))) | (refine SVLe.tup ?_; repeat (first | exact TLe.nil | refine TLe.cons ?_ ?_ | exact CsLe.nil | refine CsLe.cons ?_ ?_ | exact CLe.refl | exact CLe.sh rfl | exact CLe.nil (by decide) | (refine cle_i ?_; (unfold vMach; first | (simp [*]; done) | (rw [decide_eq_false] <;> first | rfl | omega | (simp; done)) | (rw [decide_eq_true] <;> first | rfl | omega | (simp [*]; done)) | (simp_all; done) | (simp_all; omega))) | (refine cle_b ?_; (unfold vMach; first | (simp [*]; done) | (rw [decide_eq_false] <;> first | rfl | omega | (simp; done)) | (rw [decide_eq_true] <;> first | rfl | omega | (simp [*]; done)) | (simp_all; done) | (simp_all; omega))))) | exact SVLe.refl | (refine sle_i ?_; (unfold vMach; first | (simp [*]; done) | (rw [decide_eq_false] <;> first | rfl | omega | (simp; done)) | (rw [decide_eq_true] <;> first | rfl | omega | (simp [*]; done)) | (simp_all; done) | (simp_all; omega))) | (refine sle_b ?_; (unfold vMach; first | (simp [*]; done) | (rw [decide_eq_false] <;> first | rfl | omega | (simp; done)) | (rw [decide_eq_true] <;> first | rfl | omega | (simp [*]; done)) | (simp_all; done) | (simp_all; omega))))) (h3 := (by repeat (first | exact trivial | refine And.intro ?_ ?_ | exact Or.inl rfl | exact Or.inr rfl | (refine Or.inr (row_eq ?_); (unfold vMach; first | (simp [*]; done) | (rw [decide_eq_false] <;> first | rfl | omega | (simp; done)) | (rw [decide_eq_true] <;> first | rfl | omega | (simp [*]; done)) | (simp_all; done) | (simp_all; omega))) | (refine Or.inr (bx_eq rfl rfl ?_); (try dsimp only [C.ren, C.ren.all]); (unfold vMach; first | (simp [*]; done) | (rw [decide_eq_false] <;> first | rfl | omega | (simp; done)) | (rw [decide_eq_true] <;> first | rfl | omega | (simp [*]; done)) | (simp_all; done) | (simp_all; omega))))))
  · repeat (first | refine g_ret ?_ | refine q_sr ?_ | refine q_br ?_ | refine q_lr ?_ | refine q_cr ?_)
    refine ends_id ?_
    exact endK [] (h2 := (by first | (with_reducible exact SVLe.refl) | exact SVLe.any | exact SVLe.one (.sh rfl) | exact SVLe.one (.nil (by decide)) | (refine SVLe.agg ?_; repeat (first | exact CsLe.nil | refine CsLe.cons ?_ ?_ | exact CLe.refl | exact CLe.sh rfl | exact CLe.nil (by decide) | (refine cle_i ?_; (rw [Int.mul_comm] at hc; unfold vMach; rw [decide_eq_false] <;> first | rfl | omega)) | (refine cle_b ?_; (rw [Int.mul_comm] at hc; unfold vMach; rw [decide_eq_false] <;> first | rfl | omega)))) | (refine SVLe.tup ?_; repeat (first | exact TLe.nil | refine TLe.cons ?_ ?_ | exact CsLe.nil | refine CsLe.cons ?_ ?_ | exact CLe.refl | exact CLe.sh rfl | exact CLe.nil (by decide) | (refine cle_i ?_; (rw [Int.mul_comm] at hc; unfold vMach; rw [decide_eq_false] <;> first | rfl | omega)) | (refine cle_b ?_; (rw [Int.mul_comm] at hc; unfold vMach; rw [decide_eq_false] <;> first | rfl | omega)))) | exact SVLe.refl | (refine sle_i ?_; (rw [Int.mul_comm] at hc; unfold vMach; rw [decide_eq_false] <;> first | rfl | omega)) | (refine sle_b ?_; (rw [Int.mul_comm] at hc; unfold vMach; rw [decide_eq_false] <;> first | rfl | omega)))) (h3 := (by repeat (first | exact trivial | refine And.intro ?_ ?_ | exact Or.inl rfl | exact Or.inr rfl | (refine Or.inr (row_eq ?_); (rw [Int.mul_comm] at hc; unfold vMach; rw [decide_eq_false] <;> first | rfl | omega)) | (refine Or.inr (bx_eq rfl rfl ?_); (try dsimp only [C.ren, C.ren.all]); (rw [Int.mul_comm] at hc; unfold vMach; rw [decide_eq_false] <;> first | rfl | omega)))))
  · repeat (first | refine g_ret ?_ | refine q_sr ?_ | refine q_br ?_ | refine q_lr ?_ | refine q_cr ?_)
    refine ends_id ?_
    exact endK [] (h2 := (by first | (with_reducible exact SVLe.refl) | exact SVLe.any | exact SVLe.one (.sh rfl) | exact SVLe.one (.nil (by decide)) | (refine SVLe.agg ?_; repeat (first | exact CsLe.nil | refine CsLe.cons ?_ ?_ | exact CLe.refl | exact CLe.sh rfl | exact CLe.nil (by decide) | (refine cle_i ?_; (rw [Int.mul_comm] at hc; rw [not_any_not]; unfold vMach; rw [decide_eq_true] <;> first | rfl | omega)) | (refine cle_b ?_; (rw [Int.mul_comm] at hc; rw [not_any_not]; unfold vMach; rw [decide_eq_true] <;> first | rfl | omega)))) | (refine SVLe.tup ?_; repeat (first | exact TLe.nil | refine TLe.cons ?_ ?_ | exact CsLe.nil | refine CsLe.cons ?_ ?_ | exact CLe.refl | exact CLe.sh rfl | exact CLe.nil (by decide) | (refine cle_i ?_; (rw [Int.mul_comm] at hc; rw [not_any_not]; unfold vMach; rw [decide_eq_true] <;> first | rfl | omega)) | (refine cle_b ?_; (rw [Int.mul_comm] at hc; rw [not_any_not]; unfold vMach; rw [decide_eq_true] <;> first | rfl | omega)))) | exact SVLe.refl | (refine sle_i ?_; (rw [Int.mul_comm] at hc; rw [not_any_not]; unfold vMach; rw [decide_eq_true] <;> first | rfl | omega)) | (refine sle_b ?_; (rw [Int.mul_comm] at hc; rw [not_any_not]; unfold vMach; rw [decide_eq_true] <;> first | rfl | omega)))) (h3 := (by repeat (first | exact trivial | refine And.intro ?_ ?_ | exact Or.inl rfl | exact Or.inr rfl | (refine Or.inr (row_eq ?_); (rw [Int.mul_comm] at hc; rw [not_any_not]; unfold vMach; rw [decide_eq_true] <;> first | rfl | omega)) | (refine Or.inr (bx_eq rfl rfl ?_); (try dsimp only [C.ren, C.ren.all]); (rw [Int.mul_comm] at hc; rw [not_any_not]; unfold vMach; rw [decide_eq_true] <;> first | rfl | omega)))))
@[irreducible] def inAll (lo hi : Int) (l : List Int) : Bool := l.all (fun x => decide (lo ≤ x ∧ x ≤ hi))
theorem allWithin_ok (xs : List Int) (lo hi : Int) (hx : (xs.length : Int) ≤ 16777216) : Does Try.prog 142 [.one (shI xs), .one (int lo), .one (int hi)] [] (.one (boo (inAll lo hi xs))) [] := by
  refine does_of (k := 0) Try.func142 rfl Try.ntmps142 rfl rfl fun w F0 S0 ρ0 => ?_
  dsimp only [argT, argH]
  repeat' first
    | refine g_seq ?_
    | refine g_skip ?_
    | refine g_exit ?_
    | refine g_block ?_
    | refine g_reg ?_
    | refine g_if_t rfl ?_
    | refine g_if_f rfl ?_
    | refine o_nil ?_
    | refine q_s ?_
    | refine q_se ?_
    | refine q_b ?_
    | refine q_be rfl ?_
    | refine q_bn rfl ?_
    | refine q_le ?_
    | refine q_ce ?_
    | (apply p3; (first | exact a_pure (sv := .one _) rfl | exact a_pure (sv := .agg _) rfl | exact a_pure (sv := .tup _) rfl | exact a_lenE rfl rfl (fS rfl) (by exact rfl) | exact a_len_str rfl (fT rfl) | exact a_cmp rfl rfl rfl trivial rfl | exact a_iaE rfl rfl rfl (fS rfl) (by omega) bnd (by exact rfl) | exact a_iaO1 rfl rfl rfl (fS rfl) (by omega) bnd | exact a_iaO rfl rfl rfl (fS rfl) (by omega) bnd (by exact rfl) | exact a_ld_rowI rfl rfl rfl (fC rfl) bnd | exact a_add rfl rfl (by omega) (by omega)); exact rfl)
    | (apply c4 0; exact callK1 (θ := []) (hD := (within_ok _ _ _)); exact rfl; exact rfl; exact rfl; (try dsimp only [SV.ren, C.ren, C.ren.all, tRen, GB.ren, calF, upOf, List.cons_append, List.nil_append, Nat.reduceAdd]))
    | (refine o_gs rfl rfl (fun hc => ?_) (fun hc => ?_) <;> (try simp only [decide_eq_true_eq, decide_eq_false_iff_not, Bool.not_eq_true', Bool.not_eq_false', Bool.not_eq_true, Bool.not_eq_false, Bool.and_eq_true, Bool.or_eq_false_iff, Bool.not_not] at hc) <;> (try (exfalso; omega)))
    | (refine g_cond rfl (fun hc => ?_) (fun hc => ?_) <;> (try simp only [decide_eq_true_eq, decide_eq_false_iff_not, Bool.not_eq_true', Bool.not_eq_false', Bool.not_eq_true, Bool.not_eq_false, Bool.and_eq_true, Bool.or_eq_false_iff, Bool.not_not] at hc) <;> (try (exfalso; omega)))
  refine g_loop_id ?_
  refine loopK [1, 2, 6, 9, 10] [] (fun i : Int => 0 ≤ i ∧ i ≤ xs.length ∧ (xs.take i.toNat).all (fun x => decide (lo ≤ x ∧ x ≤ hi)) = true) (fun i => [(11, .one (int i))]) (fun _ => []) (fun i => (xs.length - i).toNat) (0 : Int) [] (hI := ?_) (hr := ?_)
  · exact ⟨by omega, by omega, rfl⟩
  · rintro i ⟨h0, h1, h2⟩
    dsimp only [List.cons_append, List.nil_append] at *
    skip
    repeat' first
      | refine g_seq ?_
      | refine g_skip ?_
      | refine g_exit ?_
      | refine g_block ?_
      | refine g_reg ?_
      | refine g_if_t rfl ?_
      | refine g_if_f rfl ?_
      | refine o_nil ?_
      | refine q_s ?_
      | refine q_se ?_
      | refine q_b ?_
      | refine q_be rfl ?_
      | refine q_bn rfl ?_
      | refine q_le ?_
      | refine q_ce ?_
      | (apply p3; (first | exact a_cmp rfl rfl rfl trivial rfl | exact a_iaE rfl rfl rfl (fS rfl) (by omega) bnd (by exact rfl) | exact a_iaO1 rfl rfl rfl (fS rfl) (by omega) bnd | exact a_iaO rfl rfl rfl (fS rfl) (by omega) bnd (by exact rfl) | exact a_pure (sv := .one _) rfl | exact a_pure (sv := .agg _) rfl | exact a_ld_rowI rfl rfl rfl (fC rfl) bnd | exact a_pure (sv := .tup _) rfl | exact a_add rfl rfl (by omega) (by omega)); exact rfl)
      | (apply c4 0; exact callK1 (θ := []) (hD := (within_ok _ _ _)); exact rfl; exact rfl; exact rfl; (try dsimp only [SV.ren, C.ren, C.ren.all, tRen, GB.ren, calF, upOf, List.cons_append, List.nil_append, Nat.reduceAdd]))
      | (refine o_gs rfl rfl (fun hc => ?_) (fun hc => ?_) <;> (try simp only [decide_eq_true_eq, decide_eq_false_iff_not, Bool.not_eq_true', Bool.not_eq_false', Bool.not_eq_true, Bool.not_eq_false, Bool.and_eq_true, Bool.or_eq_false_iff, Bool.not_not] at hc) <;> (try (exfalso; omega)))
      | (refine g_cond rfl (fun hc => ?_) (fun hc => ?_) <;> (try simp only [decide_eq_true_eq, decide_eq_false_iff_not, Bool.not_eq_true', Bool.not_eq_false', Bool.not_eq_true, Bool.not_eq_false, Bool.and_eq_true, Bool.or_eq_false_iff, Bool.not_not] at hc) <;> (try (exfalso; omega)))
    · repeat (first | refine g_ret ?_ | refine q_sr ?_ | refine q_br ?_ | refine q_lr ?_ | refine q_cr ?_)
      refine ends_id ?_
      exact endK [] (h2 := (by first | (with_reducible exact SVLe.refl) | exact SVLe.any | exact SVLe.one (.sh rfl) | exact SVLe.one (.nil (by decide)) | (refine SVLe.agg ?_; repeat (first | exact CsLe.nil | refine CsLe.cons ?_ ?_ | exact CLe.refl | exact CLe.sh rfl | exact CLe.nil (by decide) | (refine cle_i ?_; (unfold inAll; rw [all_no _ _ i.toNat (by omega) (by rw [decide_eq_true_eq]; exact hc)])) | (refine cle_b ?_; (unfold inAll; rw [all_no _ _ i.toNat (by omega) (by rw [decide_eq_true_eq]; exact hc)])))) | (refine SVLe.tup ?_; repeat (first | exact TLe.nil | refine TLe.cons ?_ ?_ | exact CsLe.nil | refine CsLe.cons ?_ ?_ | exact CLe.refl | exact CLe.sh rfl | exact CLe.nil (by decide) | (refine cle_i ?_; (unfold inAll; rw [all_no _ _ i.toNat (by omega) (by rw [decide_eq_true_eq]; exact hc)])) | (refine cle_b ?_; (unfold inAll; rw [all_no _ _ i.toNat (by omega) (by rw [decide_eq_true_eq]; exact hc)])))) | exact SVLe.refl | (refine sle_i ?_; (unfold inAll; rw [all_no _ _ i.toNat (by omega) (by rw [decide_eq_true_eq]; exact hc)])) | (refine sle_b ?_; (unfold inAll; rw [all_no _ _ i.toNat (by omega) (by rw [decide_eq_true_eq]; exact hc)])))) (h3 := (by repeat (first | exact trivial | refine And.intro ?_ ?_ | exact Or.inl rfl | exact Or.inr rfl | (refine Or.inr (row_eq ?_); (unfold inAll; rw [all_no _ _ i.toNat (by omega) (by rw [decide_eq_true_eq]; exact hc)])) | (refine Or.inr (bx_eq rfl rfl ?_); (try dsimp only [C.ren, C.ren.all]); (unfold inAll; rw [all_no _ _ i.toNat (by omega) (by rw [decide_eq_true_eq]; exact hc)])))))
    · refine q_again (i + 1) [] (by exact stk) ?_ ?_
      · exact ⟨by omega, by omega, all_snocI _ _ _ h0 (by omega) h2 (by rw [decide_eq_true_eq]; exact hc)⟩
      · omega
    · repeat (first | refine g_ret ?_ | refine q_sr ?_ | refine q_br ?_ | refine q_lr ?_ | refine q_cr ?_)
      refine ends_id ?_
      exact endK [] (h2 := (by first | (with_reducible exact SVLe.refl) | exact SVLe.any | exact SVLe.one (.sh rfl) | exact SVLe.one (.nil (by decide)) | (refine SVLe.agg ?_; repeat (first | exact CsLe.nil | refine CsLe.cons ?_ ?_ | exact CLe.refl | exact CLe.sh rfl | exact CLe.nil (by decide) | (refine cle_i ?_; (unfold inAll; rw [List.take_of_length_le (by omega)] at h2; exact h2.symm)) | (refine cle_b ?_; (unfold inAll; rw [List.take_of_length_le (by omega)] at h2; exact h2.symm)))) | (refine SVLe.tup ?_; repeat (first | exact TLe.nil | refine TLe.cons ?_ ?_ | exact CsLe.nil | refine CsLe.cons ?_ ?_ | exact CLe.refl | exact CLe.sh rfl | exact CLe.nil (by decide) | (refine cle_i ?_; (unfold inAll; rw [List.take_of_length_le (by omega)] at h2; exact h2.symm)) | (refine cle_b ?_; (unfold inAll; rw [List.take_of_length_le (by omega)] at h2; exact h2.symm)))) | exact SVLe.refl | (refine sle_i ?_; (unfold inAll; rw [List.take_of_length_le (by omega)] at h2; exact h2.symm)) | (refine sle_b ?_; (unfold inAll; rw [List.take_of_length_le (by omega)] at h2; exact h2.symm)))) (h3 := (by repeat (first | exact trivial | refine And.intro ?_ ?_ | exact Or.inl rfl | exact Or.inr rfl | (refine Or.inr (row_eq ?_); (unfold inAll; rw [List.take_of_length_le (by omega)] at h2; exact h2.symm)) | (refine Or.inr (bx_eq rfl rfl ?_); (try dsimp only [C.ren, C.ren.all]); (unfold inAll; rw [List.take_of_length_le (by omega)] at h2; exact h2.symm)))))
theorem clone_ok (xs : List Int) (hx : (xs.length : Int) ≤ 16777216) : Does Try.prog 145 [.one (shI xs)] [] (.one (.gv 0)) [.row 1 (rows eI xs)] := by
  refine does_of (k := 0) Try.func145 rfl Try.ntmps145 rfl rfl fun w F0 S0 ρ0 => ?_
  dsimp only [argT, argH]
  repeat' first
    | refine g_seq ?_
    | refine g_skip ?_
    | refine g_exit ?_
    | refine g_block ?_
    | refine g_reg ?_
    | refine g_if_t rfl ?_
    | refine g_if_f rfl ?_
    | refine o_nil ?_
    | refine q_s ?_
    | refine q_se ?_
    | refine q_b ?_
    | refine q_be rfl ?_
    | refine q_bn rfl ?_
    | refine q_le ?_
    | refine q_ce ?_
    | (apply n3; exact a_nilO eI rfl; exact rfl)
    | (apply n3; (first | exact a_litE eI [] rfl rfl rfl rfl rfl rfl rfl rfl | exact a_appN (fP rfl) rfl rfl rfl nowR (by first | omega | (simp; omega)) (by decide) (by exact rfl)); exact rfl; (try dsimp only [List.map_cons, List.map_nil, scC, Nat.reduceAdd]))
    | (apply p3; (first | exact a_pure (sv := .one _) rfl | exact a_pure (sv := .agg _) rfl | exact a_pure (sv := .tup _) rfl | exact a_cmp rfl rfl rfl trivial rfl | exact a_eqS rfl rfl rfl); exact rfl)
    | (apply s3; (first | exact a_appE (fP rfl) rfl rfl rfl rfl nowR (by first | omega | (simp; omega)) (by decide) (by decide) (by exact rfl)); exact rfl; exact rfl)
    | (apply o_isnil; exact rfl; exact rfl; exact (fE rfl); exact rfl; exact rfl; intro b hnil)
    | (refine o_gs rfl rfl (fun hc => ?_) (fun hc => ?_) <;> (try simp only [decide_eq_true_eq, decide_eq_false_iff_not, Bool.not_eq_true', Bool.not_eq_false', Bool.not_eq_true, Bool.not_eq_false, Bool.and_eq_true, Bool.or_eq_false_iff, Bool.not_not] at hc) <;> (try (exfalso; omega)))
    | (refine g_cond rfl (fun hc => ?_) (fun hc => ?_) <;> (try simp only [decide_eq_true_eq, decide_eq_false_iff_not, Bool.not_eq_true', Bool.not_eq_false', Bool.not_eq_true, Bool.not_eq_false, Bool.and_eq_true, Bool.or_eq_false_iff, Bool.not_not] at hc) <;> (try (exfalso; omega)))
  · repeat (first | refine g_ret ?_ | refine q_sr ?_ | refine q_br ?_ | refine q_lr ?_ | refine q_cr ?_)
    refine ends_id ?_
    exact endK [_] (h2 := (by first | (with_reducible exact SVLe.refl) | exact SVLe.any | exact SVLe.one (.sh rfl) | exact SVLe.one (.nil (by decide)) | (refine SVLe.agg ?_; repeat (first | exact CsLe.nil | refine CsLe.cons ?_ ?_ | exact CLe.refl | exact CLe.sh rfl | exact CLe.nil (by decide) | (refine cle_i ?_; exact (hnil hc).symm) | (refine cle_b ?_; exact (hnil hc).symm))) | (refine SVLe.tup ?_; repeat (first | exact TLe.nil | refine TLe.cons ?_ ?_ | exact CsLe.nil | refine CsLe.cons ?_ ?_ | exact CLe.refl | exact CLe.sh rfl | exact CLe.nil (by decide) | (refine cle_i ?_; exact (hnil hc).symm) | (refine cle_b ?_; exact (hnil hc).symm))) | exact SVLe.refl | (refine sle_i ?_; exact (hnil hc).symm) | (refine sle_b ?_; exact (hnil hc).symm))) (h3 := (by repeat (first | exact trivial | refine And.intro ?_ ?_ | exact Or.inl rfl | exact Or.inr rfl | (refine Or.inr (row_eq ?_); exact (hnil hc).symm) | (refine Or.inr (bx_eq rfl rfl ?_); (try dsimp only [C.ren, C.ren.all]); exact (hnil hc).symm))))
  · repeat (first | refine g_ret ?_ | refine q_sr ?_ | refine q_br ?_ | refine q_lr ?_ | refine q_cr ?_)
    refine ends_id ?_
    exact endK [_] (h2 := (by first | (with_reducible exact SVLe.refl) | exact SVLe.any | exact SVLe.one (.sh rfl) | exact SVLe.one (.nil (by decide)) | (refine SVLe.agg ?_; repeat (first | exact CsLe.nil | refine CsLe.cons ?_ ?_ | exact CLe.refl | exact CLe.sh rfl | exact CLe.nil (by decide) | (refine cle_i ?_; rfl) | (refine cle_b ?_; rfl))) | (refine SVLe.tup ?_; repeat (first | exact TLe.nil | refine TLe.cons ?_ ?_ | exact CsLe.nil | refine CsLe.cons ?_ ?_ | exact CLe.refl | exact CLe.sh rfl | exact CLe.nil (by decide) | (refine cle_i ?_; rfl) | (refine cle_b ?_; rfl))) | exact SVLe.refl | (refine sle_i ?_; rfl) | (refine sle_b ?_; rfl))) (h3 := (by repeat (first | exact trivial | refine And.intro ?_ ?_ | exact Or.inl rfl | exact Or.inr rfl | (refine Or.inr (row_eq ?_); rfl) | (refine Or.inr (bx_eq rfl rfl ?_); (try dsimp only [C.ren, C.ren.all]); rfl))))
/-- A row whose ends are exchanged up to a place. -/
def turned (xs l : List Int) (i : Int) : Prop := l.length = xs.length ∧ ∀ k : Nat, k < xs.length → l[k]? = if (k : Int) < i ∨ (xs.length : Int) - 1 - i < k then xs[xs.length - 1 - k]? else xs[k]?
theorem turned_step {xs l : List Int} {i : Int} (h0 : 0 ≤ i) (h1 : i < (xs.length : Int) - 1 - i) (h : turned xs l i) (a b : Int) (ha : l[((xs.length : Int) - 1 - i).toNat]? = some a) (hb : l[i.toNat]? = some b) : turned xs ((l.set i.toNat a).set ((xs.length : Int) - 1 - i).toNat b) (i + 1) := by
  obtain ⟨hl, hk⟩ := h
  refine ⟨by simp [hl], fun k hk' => ?_⟩
  have hi := hk i.toNat (by omega)
  have hj := hk ((xs.length : Int) - 1 - i).toNat (by omega)
  rw [if_neg (by omega), hb] at hi
  rw [if_neg (by omega), ha] at hj
  rw [List.getElem?_set, List.getElem?_set]
  by_cases e1 : ((xs.length : Int) - 1 - i).toNat = k
  · rw [if_pos e1, if_pos (by simp [hl]; omega), if_pos (by omega), hi]
    congr 1; omega
  · rw [if_neg e1]
    by_cases e2 : i.toNat = k
    · rw [if_pos e2, if_pos (by omega), if_pos (by omega), hj]
      congr 1; omega
    · rw [if_neg e2, hk k hk']
      by_cases e3 : (k : Int) < i ∨ (xs.length : Int) - 1 - i < k
      · rw [if_pos e3, if_pos (by omega)]
      · rw [if_neg e3, if_neg (by omega)]
theorem turned_end {xs l : List Int} {i : Int} (h1 : ¬ i < (xs.length : Int) - 1 - i) (h2 : i ≤ (xs.length : Int) - 1 - i + 1) (h : turned xs l i) : l = xs.reverse := by
  obtain ⟨hl, hk⟩ := h
  apply List.ext_getElem?
  intro k
  by_cases hk' : k < xs.length
  · rw [hk k hk', List.getElem?_reverse hk']
    split
    · rfl
    · congr 1; omega
  · rw [List.getElem?_eq_none (by omega), List.getElem?_eq_none (by simp; omega)]
theorem reverse_ok (xs : List Int) (hx : (xs.length : Int) ≤ 16777216) : Does Try.prog 146 [.one (.gv 0)] [.row 1 (rows eI xs)] .any [.row 1 (rows eI xs.reverse)] := by
  refine does_of (k := 1) Try.func146 rfl Try.ntmps146 rfl rfl fun w F0 S0 ρ0 => ?_
  dsimp only [argT, argH]
  repeat' first
    | refine g_seq ?_
    | refine g_skip ?_
    | refine g_exit ?_
    | refine g_block ?_
    | refine g_reg ?_
    | refine g_if_t rfl ?_
    | refine g_if_f rfl ?_
    | refine o_nil ?_
    | refine q_s ?_
    | refine q_se ?_
    | refine q_b ?_
    | refine q_be rfl ?_
    | refine q_bn rfl ?_
    | refine q_le ?_
    | refine q_ce ?_
    | (apply p3; (first | exact a_pure (sv := .one _) rfl | exact a_pure (sv := .agg _) rfl | exact a_pure (sv := .tup _) rfl | exact a_lenE rfl rfl (fS rfl) (by exact rfl) | exact a_len_str rfl (fT rfl) | exact a_sub rfl rfl (by omega) (by omega) | exact a_cmp rfl rfl rfl trivial rfl | exact a_add rfl rfl (by omega) (by omega)); exact rfl)
    | (apply g_drN okM [[], [], [], [], [], [], [4, 5], [4, 5, 6], [], [], [8, 9], [8, 9, 10], [0, 1, 4, 5, 6, 7, 8, 9, 10, 11], [0, 1, 4, 5, 6, 7, 8, 9, 10, 11, 12], [0, 1, 2, 3, 4, 5, 6, 7, 8, 9, 10, 11, 12, 13], [0, 1, 2, 3, 4, 5, 6, 7, 8, 9, 10, 11, 12, 13, 14]] [([], []), ([], []), ([], []), ([], []), ([], []), ([], []), ([], []), ([], []), ([], []), ([], []), ([], []), ([], []), ([], []), ([], [0]), ([], []), ([], [0])] 0; (focus (all_goals (apply d_pN (i := 0) (fs := []) (u := [15, 16, 17, 18, 19, 20, 21, 22, 23, 24, 25]) (o := []); (first | exact a_pure (sv := .one _) rfl | exact a_pure (sv := .agg _) rfl | exact a_pure (sv := .tup _) rfl); exact rfl; kernel_rfl; kernel_rfl; kernel_rfl; exact rfl; exact rfl); all_goals (apply d_pN (i := 1) (fs := [false]) (u := [14, 16, 17, 18, 19, 20, 21, 22, 23, 24, 25]) (o := []); (first | exact a_pure (sv := .one _) rfl | exact a_pure (sv := .agg _) rfl | exact a_pure (sv := .tup _) rfl); exact rfl; kernel_rfl; kernel_rfl; kernel_rfl; exact rfl; exact rfl); all_goals (apply d_pN (i := 2) (fs := [false, false]) (u := [14, 15, 17, 18, 19, 20, 21, 22, 23, 24, 25, 26]) (o := [(false, 0)]); (first | exact a_pure (sv := .one _) rfl | exact a_pure (sv := .agg _) rfl | exact a_pure (sv := .tup _) rfl); exact rfl; kernel_rfl; kernel_rfl; kernel_rfl; exact rfl; exact rfl); all_goals (apply d_pN (i := 3) (fs := [false, false, false]) (u := [14, 15, 16, 18, 19, 20, 21, 22, 23, 24, 25, 26]) (o := [(false, 0)]); (first | exact a_pure (sv := .one _) rfl | exact a_pure (sv := .agg _) rfl | exact a_pure (sv := .tup _) rfl); exact rfl; kernel_rfl; kernel_rfl; kernel_rfl; exact rfl; exact rfl); all_goals (apply d_pN (i := 4) (fs := [false, false, false, false]) (u := [14, 15, 16, 17, 19, 22, 23, 24, 25]) (o := []); (first | exact a_pure (sv := .one _) rfl | exact a_pure (sv := .agg _) rfl | exact a_pure (sv := .tup _) rfl); exact rfl; kernel_rfl; kernel_rfl; kernel_rfl; exact rfl; exact rfl); all_goals (apply d_pN (i := 5) (fs := [false, false, false, false, false]) (u := [14, 15, 16, 17, 18, 22, 23, 24, 25]) (o := []); (first | exact a_pure (sv := .one _) rfl | exact a_pure (sv := .agg _) rfl | exact a_pure (sv := .tup _) rfl); exact rfl; kernel_rfl; kernel_rfl; kernel_rfl; exact rfl; exact rfl); all_goals (apply d_pN (i := 6) (fs := [true, true, false, false, false, false]) (u := [14, 15, 16, 17, 22, 23, 24, 25]) (o := []); (first | exact a_iaE rfl rfl rfl (fS rfl) (by omega) bnd (by exact rfl) | exact a_iaO1 rfl rfl rfl (fS rfl) (by omega) bnd | exact a_iaO rfl rfl rfl (fS rfl) (by omega) bnd (by exact rfl)); exact rfl; kernel_rfl; kernel_rfl; kernel_rfl; exact rfl; exact rfl); all_goals (apply d_pN (i := 7) (fs := [true, true, true, false, false, false, false]) (u := [14, 15, 16, 17, 22, 23, 24, 25]) (o := []); (first | exact a_pure (sv := .one _) rfl | exact a_pure (sv := .agg _) rfl | exact a_ld_rowI rfl rfl rfl (fC rfl) bnd); exact rfl; kernel_rfl; kernel_rfl; kernel_rfl; exact rfl; exact rfl); all_goals (apply d_pN (i := 8) (fs := [false, false, false, false, false, false, false, false]) (u := [14, 15, 16, 17, 18, 19, 20, 21, 23]) (o := []); (first | exact a_pure (sv := .one _) rfl | exact a_pure (sv := .agg _) rfl | exact a_pure (sv := .tup _) rfl); exact rfl; kernel_rfl; kernel_rfl; kernel_rfl; exact rfl; exact rfl); all_goals (apply d_pN (i := 9) (fs := [false, false, false, false, false, false, false, false, false]) (u := [14, 15, 16, 17, 18, 19, 20, 21, 22]) (o := []); (first | exact a_pure (sv := .one _) rfl | exact a_pure (sv := .agg _) rfl | exact a_pure (sv := .tup _) rfl); exact rfl; kernel_rfl; kernel_rfl; kernel_rfl; exact rfl; exact rfl); all_goals (apply d_pN (i := 10) (fs := [true, true, false, false, false, false, false, false, false, false]) (u := [14, 15, 16, 17, 18, 19, 20, 21]) (o := []); (first | exact a_iaE rfl rfl rfl (fS rfl) (by omega) bnd (by exact rfl) | exact a_iaO1 rfl rfl rfl (fS rfl) (by omega) bnd | exact a_iaO rfl rfl rfl (fS rfl) (by omega) bnd (by exact rfl)); exact rfl; kernel_rfl; kernel_rfl; kernel_rfl; exact rfl; exact rfl); all_goals (apply d_pN (i := 11) (fs := [true, true, true, false, false, false, false, false, false, false, false]) (u := [14, 15, 16, 17, 18, 19, 20, 21]) (o := []); (first | exact a_pure (sv := .one _) rfl | exact a_pure (sv := .agg _) rfl | exact a_ld_rowI rfl rfl rfl (fC rfl) bnd); exact rfl; kernel_rfl; kernel_rfl; kernel_rfl; exact rfl; exact rfl); all_goals (apply d_pN (i := 12) (fs := [true, true, true, true, true, true, true, true, false, false, true, true]) (u := [16, 17]) (o := []); (first | exact a_iaE rfl rfl rfl (fS rfl) (by omega) bnd (by exact rfl) | exact a_iaO1 rfl rfl rfl (fS rfl) (by omega) bnd | exact a_iaO rfl rfl rfl (fS rfl) (by omega) bnd (by exact rfl)); exact rfl; kernel_rfl; kernel_rfl; kernel_rfl; exact rfl; exact rfl); all_goals (apply d_uE (i := 13) (fs := [true, true, true, true, true, true, true, true, true, false, false, true, true]) (u := [16, 17]) (o := []); (first | exact a_st_bx rfl rfl rfl rfl (fN rfl rfl) (Nat.le_of_ble_eq_true rfl) rfl | exact a_st_rowI rfl rfl rfl rfl (fN rfl rfl) bnd | exact a_stE (E := eI) _ rfl rfl rfl rfl (fN rfl rfl) bnd (by exact rfl)); exact rfl; kernel_rfl; kernel_rfl; kernel_rfl; exact dst_none; exact rfl; exact rfl); all_goals (apply d_pN (i := 14) (fs := [true, true, true, true, true, true, true, true, true, true, true, true, true, true]) (u := []) (o := []); (first | exact a_iaE rfl rfl rfl (fS rfl) (by omega) bnd (by exact rfl) | exact a_iaO1 rfl rfl rfl (fS rfl) (by omega) bnd | exact a_iaO rfl rfl rfl (fS rfl) (by omega) bnd (by exact rfl)); exact rfl; kernel_rfl; kernel_rfl; kernel_rfl; exact rfl; exact rfl); all_goals (apply d_uE (i := 15) (fs := [true, true, true, true, true, true, true, true, true, true, true, true, true, true, true]) (u := []) (o := []); (first | exact a_st_bx rfl rfl rfl rfl (fN rfl rfl) (Nat.le_of_ble_eq_true rfl) rfl | exact a_st_rowI rfl rfl rfl rfl (fN rfl rfl) bnd | exact a_stE (E := eI) _ rfl rfl rfl rfl (fN rfl rfl) bnd (by exact rfl)); exact rfl; kernel_rfl; kernel_rfl; kernel_rfl; exact dst_none; exact rfl; exact rfl); all_goals (refine d_nil ?_; dsimp only [selT, selH, trues, SV.ren, C.ren, C.ren.all, tRen, GB.ren, calF, upOf, List.cons_append, List.nil_append, Nat.reduceAdd, setRow, List.map_cons, List.map_nil, scC, List.set_cons_zero, List.set_cons_succ, List.take_succ_cons, List.take_zero, List.drop_succ_cons, List.drop_zero]))); any_goals kernel_rfl)
    | (refine o_gs rfl rfl (fun hc => ?_) (fun hc => ?_) <;> (try simp only [decide_eq_true_eq, decide_eq_false_iff_not, Bool.not_eq_true', Bool.not_eq_false', Bool.not_eq_true, Bool.not_eq_false, Bool.and_eq_true, Bool.or_eq_false_iff, Bool.not_not] at hc) <;> (try (exfalso; omega)))
    | (refine g_cond rfl (fun hc => ?_) (fun hc => ?_) <;> (try simp only [decide_eq_true_eq, decide_eq_false_iff_not, Bool.not_eq_true', Bool.not_eq_false', Bool.not_eq_true, Bool.not_eq_false, Bool.and_eq_true, Bool.or_eq_false_iff, Bool.not_not] at hc) <;> (try (exfalso; omega)))
  refine g_loop_id ?_
  refine loopK [0] [0] (fun x : Int × Int × List Int => 0 ≤ x.1 ∧ x.2.1 = (xs.length : Int) - 1 - x.1 ∧ x.1 ≤ x.2.1 + 1 ∧ turned xs x.2.2 x.1) (fun x => [(2, .one (int x.1)), (3, .one (int x.2.1))]) (fun x => [(0, .row 1 (rows eI x.2.2))]) (fun x => (xs.length - x.1).toNat) ((0 : Int), (xs.length : Int) - 1, xs) [0] (hI := ?_) (hr := ?_)
  · exact ⟨by simp, by simp, by dsimp only; omega, rfl, fun k hk => by rw [if_neg (by dsimp only; omega)]⟩
  · rintro ⟨i, j, l⟩ ⟨h0, hj, h1, h2⟩
    dsimp only [List.cons_append, List.nil_append] at *
    skip
    repeat' first
      | refine g_seq ?_
      | refine g_skip ?_
      | refine g_exit ?_
      | refine g_block ?_
      | refine g_reg ?_
      | refine g_if_t rfl ?_
      | refine g_if_f rfl ?_
      | refine o_nil ?_
      | refine q_s ?_
      | refine q_se ?_
      | refine q_b ?_
      | refine q_be rfl ?_
      | refine q_bn rfl ?_
      | refine q_le ?_
      | refine q_ce ?_
      | (apply p3; (first | exact a_pure (sv := .one _) rfl | exact a_pure (sv := .agg _) rfl | exact a_pure (sv := .tup _) rfl | exact a_cmp rfl rfl rfl trivial rfl | exact a_add rfl rfl (by omega) (by omega) | exact a_sub rfl rfl (by omega) (by omega)); exact rfl)
      | (apply g_drN okM [[], [], [], [], [], [], [4, 5], [4, 5, 6], [], [], [8, 9], [8, 9, 10], [0, 1, 4, 5, 6, 7, 8, 9, 10, 11], [0, 1, 4, 5, 6, 7, 8, 9, 10, 11, 12], [0, 1, 2, 3, 4, 5, 6, 7, 8, 9, 10, 11, 12, 13], [0, 1, 2, 3, 4, 5, 6, 7, 8, 9, 10, 11, 12, 13, 14]] [([], []), ([], []), ([], []), ([], []), ([], []), ([], []), ([], []), ([], []), ([], []), ([], []), ([], []), ([], []), ([], []), ([], [0]), ([], []), ([], [0])] 0; (focus (all_goals (apply d_pN (i := 0) (fs := []) (u := [15, 16, 17, 18, 19, 20, 21, 22, 23, 24, 25]) (o := []); (first | exact a_pure (sv := .one _) rfl | exact a_pure (sv := .agg _) rfl | exact a_pure (sv := .tup _) rfl); exact rfl; kernel_rfl; kernel_rfl; kernel_rfl; exact rfl; exact rfl); all_goals (apply d_pN (i := 1) (fs := [false]) (u := [14, 16, 17, 18, 19, 20, 21, 22, 23, 24, 25]) (o := []); (first | exact a_pure (sv := .one _) rfl | exact a_pure (sv := .agg _) rfl | exact a_pure (sv := .tup _) rfl); exact rfl; kernel_rfl; kernel_rfl; kernel_rfl; exact rfl; exact rfl); all_goals (apply d_pN (i := 2) (fs := [false, false]) (u := [14, 15, 17, 18, 19, 20, 21, 22, 23, 24, 25, 26]) (o := [(false, 0)]); (first | exact a_pure (sv := .one _) rfl | exact a_pure (sv := .agg _) rfl | exact a_pure (sv := .tup _) rfl); exact rfl; kernel_rfl; kernel_rfl; kernel_rfl; exact rfl; exact rfl); all_goals (apply d_pN (i := 3) (fs := [false, false, false]) (u := [14, 15, 16, 18, 19, 20, 21, 22, 23, 24, 25, 26]) (o := [(false, 0)]); (first | exact a_pure (sv := .one _) rfl | exact a_pure (sv := .agg _) rfl | exact a_pure (sv := .tup _) rfl); exact rfl; kernel_rfl; kernel_rfl; kernel_rfl; exact rfl; exact rfl); all_goals (apply d_pN (i := 4) (fs := [false, false, false, false]) (u := [14, 15, 16, 17, 19, 22, 23, 24, 25]) (o := []); (first | exact a_pure (sv := .one _) rfl | exact a_pure (sv := .agg _) rfl | exact a_pure (sv := .tup _) rfl); exact rfl; kernel_rfl; kernel_rfl; kernel_rfl; exact rfl; exact rfl); all_goals (apply d_pN (i := 5) (fs := [false, false, false, false, false]) (u := [14, 15, 16, 17, 18, 22, 23, 24, 25]) (o := []); (first | exact a_pure (sv := .one _) rfl | exact a_pure (sv := .agg _) rfl | exact a_pure (sv := .tup _) rfl); exact rfl; kernel_rfl; kernel_rfl; kernel_rfl; exact rfl; exact rfl); all_goals (apply d_pN (i := 6) (fs := [true, true, false, false, false, false]) (u := [14, 15, 16, 17, 22, 23, 24, 25]) (o := []); (first | exact a_iaE rfl rfl rfl (fS rfl) (by omega) bnd (by exact rfl) | exact a_iaO1 rfl rfl rfl (fS rfl) (by omega) bnd | exact a_iaO rfl rfl rfl (fS rfl) (by omega) bnd (by exact rfl)); exact rfl; kernel_rfl; kernel_rfl; kernel_rfl; exact rfl; exact rfl); all_goals (apply d_pN (i := 7) (fs := [true, true, true, false, false, false, false]) (u := [14, 15, 16, 17, 22, 23, 24, 25]) (o := []); (first | exact a_pure (sv := .one _) rfl | exact a_pure (sv := .agg _) rfl | exact a_ld_rowI rfl rfl rfl (fC rfl) bnd); exact rfl; kernel_rfl; kernel_rfl; kernel_rfl; exact rfl; exact rfl); all_goals (apply d_pN (i := 8) (fs := [false, false, false, false, false, false, false, false]) (u := [14, 15, 16, 17, 18, 19, 20, 21, 23]) (o := []); (first | exact a_pure (sv := .one _) rfl | exact a_pure (sv := .agg _) rfl | exact a_pure (sv := .tup _) rfl); exact rfl; kernel_rfl; kernel_rfl; kernel_rfl; exact rfl; exact rfl); all_goals (apply d_pN (i := 9) (fs := [false, false, false, false, false, false, false, false, false]) (u := [14, 15, 16, 17, 18, 19, 20, 21, 22]) (o := []); (first | exact a_pure (sv := .one _) rfl | exact a_pure (sv := .agg _) rfl | exact a_pure (sv := .tup _) rfl); exact rfl; kernel_rfl; kernel_rfl; kernel_rfl; exact rfl; exact rfl); all_goals (apply d_pN (i := 10) (fs := [true, true, false, false, false, false, false, false, false, false]) (u := [14, 15, 16, 17, 18, 19, 20, 21]) (o := []); (first | exact a_iaE rfl rfl rfl (fS rfl) (by omega) bnd (by exact rfl) | exact a_iaO1 rfl rfl rfl (fS rfl) (by omega) bnd | exact a_iaO rfl rfl rfl (fS rfl) (by omega) bnd (by exact rfl)); exact rfl; kernel_rfl; kernel_rfl; kernel_rfl; exact rfl; exact rfl); all_goals (apply d_pN (i := 11) (fs := [true, true, true, false, false, false, false, false, false, false, false]) (u := [14, 15, 16, 17, 18, 19, 20, 21]) (o := []); (first | exact a_pure (sv := .one _) rfl | exact a_pure (sv := .agg _) rfl | exact a_ld_rowI rfl rfl rfl (fC rfl) bnd); exact rfl; kernel_rfl; kernel_rfl; kernel_rfl; exact rfl; exact rfl); all_goals (apply d_pN (i := 12) (fs := [true, true, true, true, true, true, true, true, false, false, true, true]) (u := [16, 17]) (o := []); (first | exact a_iaE rfl rfl rfl (fS rfl) (by omega) bnd (by exact rfl) | exact a_iaO1 rfl rfl rfl (fS rfl) (by omega) bnd | exact a_iaO rfl rfl rfl (fS rfl) (by omega) bnd (by exact rfl)); exact rfl; kernel_rfl; kernel_rfl; kernel_rfl; exact rfl; exact rfl); all_goals (apply d_uE (i := 13) (fs := [true, true, true, true, true, true, true, true, true, false, false, true, true]) (u := [16, 17]) (o := []); (first | exact a_st_bx rfl rfl rfl rfl (fN rfl rfl) (Nat.le_of_ble_eq_true rfl) rfl | exact a_st_rowI rfl rfl rfl rfl (fN rfl rfl) bnd | exact a_stE (E := eI) _ rfl rfl rfl rfl (fN rfl rfl) bnd (by exact rfl)); exact rfl; kernel_rfl; kernel_rfl; kernel_rfl; exact dst_none; exact rfl; exact rfl); all_goals (apply d_pN (i := 14) (fs := [true, true, true, true, true, true, true, true, true, true, true, true, true, true]) (u := []) (o := []); (first | exact a_iaE rfl rfl rfl (fS rfl) (by omega) bnd (by exact rfl) | exact a_iaO1 rfl rfl rfl (fS rfl) (by omega) bnd | exact a_iaO rfl rfl rfl (fS rfl) (by omega) bnd (by exact rfl)); exact rfl; kernel_rfl; kernel_rfl; kernel_rfl; exact rfl; exact rfl); all_goals (apply d_uE (i := 15) (fs := [true, true, true, true, true, true, true, true, true, true, true, true, true, true, true]) (u := []) (o := []); (first | exact a_st_bx rfl rfl rfl rfl (fN rfl rfl) (Nat.le_of_ble_eq_true rfl) rfl | exact a_st_rowI rfl rfl rfl rfl (fN rfl rfl) bnd | exact a_stE (E := eI) _ rfl rfl rfl rfl (fN rfl rfl) bnd (by exact rfl)); exact rfl; kernel_rfl; kernel_rfl; kernel_rfl; exact dst_none; exact rfl; exact rfl); all_goals (refine d_nil ?_; dsimp only [selT, selH, trues, SV.ren, C.ren, C.ren.all, tRen, GB.ren, calF, upOf, List.cons_append, List.nil_append, Nat.reduceAdd, setRow, List.map_cons, List.map_nil, scC, List.set_cons_zero, List.set_cons_succ, List.take_succ_cons, List.take_zero, List.drop_succ_cons, List.drop_zero]))); any_goals kernel_rfl)
      | (refine o_gs rfl rfl (fun hc => ?_) (fun hc => ?_) <;> (try simp only [decide_eq_true_eq, decide_eq_false_iff_not, Bool.not_eq_true', Bool.not_eq_false', Bool.not_eq_true, Bool.not_eq_false, Bool.and_eq_true, Bool.or_eq_false_iff, Bool.not_not] at hc) <;> (try (exfalso; omega)))
      | (refine g_cond rfl (fun hc => ?_) (fun hc => ?_) <;> (try simp only [decide_eq_true_eq, decide_eq_false_iff_not, Bool.not_eq_true', Bool.not_eq_false', Bool.not_eq_true, Bool.not_eq_false, Bool.and_eq_true, Bool.or_eq_false_iff, Bool.not_not] at hc) <;> (try (exfalso; omega)))
    · have hl : l.length = xs.length := h2.1
      apply g_drN okM [[], [], [], [], [], [], [4, 5], [4, 5, 6], [], [], [8, 9], [8, 9, 10], [0, 1, 4, 5, 6, 7, 8, 9, 10, 11], [0, 1, 4, 5, 6, 7, 8, 9, 10, 11, 12], [0, 1, 2, 3, 4, 5, 6, 7, 8, 9, 10, 11, 12, 13], [0, 1, 2, 3, 4, 5, 6, 7, 8, 9, 10, 11, 12, 13, 14]] [([], []), ([], []), ([], []), ([], []), ([], []), ([], []), ([], []), ([], []), ([], []), ([], []), ([], []), ([], []), ([], []), ([], [0]), ([], []), ([], [0])] 0
      (focus (all_goals (apply d_pN (i := 0) (fs := []) (u := [15, 16, 17, 18, 19, 20, 21, 22, 23, 24, 25]) (o := []); (first | exact a_pure (sv := .one _) rfl | exact a_pure (sv := .agg _) rfl | exact a_pure (sv := .tup _) rfl); exact rfl; kernel_rfl; kernel_rfl; kernel_rfl; exact rfl; exact rfl); all_goals (apply d_pN (i := 1) (fs := [false]) (u := [14, 16, 17, 18, 19, 20, 21, 22, 23, 24, 25]) (o := []); (first | exact a_pure (sv := .one _) rfl | exact a_pure (sv := .agg _) rfl | exact a_pure (sv := .tup _) rfl); exact rfl; kernel_rfl; kernel_rfl; kernel_rfl; exact rfl; exact rfl); all_goals (apply d_pN (i := 2) (fs := [false, false]) (u := [14, 15, 17, 18, 19, 20, 21, 22, 23, 24, 25, 26]) (o := [(false, 0)]); (first | exact a_pure (sv := .one _) rfl | exact a_pure (sv := .agg _) rfl | exact a_pure (sv := .tup _) rfl); exact rfl; kernel_rfl; kernel_rfl; kernel_rfl; exact rfl; exact rfl); all_goals (apply d_pN (i := 3) (fs := [false, false, false]) (u := [14, 15, 16, 18, 19, 20, 21, 22, 23, 24, 25, 26]) (o := [(false, 0)]); (first | exact a_pure (sv := .one _) rfl | exact a_pure (sv := .agg _) rfl | exact a_pure (sv := .tup _) rfl); exact rfl; kernel_rfl; kernel_rfl; kernel_rfl; exact rfl; exact rfl); all_goals (apply d_pN (i := 4) (fs := [false, false, false, false]) (u := [14, 15, 16, 17, 19, 22, 23, 24, 25]) (o := []); (first | exact a_pure (sv := .one _) rfl | exact a_pure (sv := .agg _) rfl | exact a_pure (sv := .tup _) rfl); exact rfl; kernel_rfl; kernel_rfl; kernel_rfl; exact rfl; exact rfl); all_goals (apply d_pN (i := 5) (fs := [false, false, false, false, false]) (u := [14, 15, 16, 17, 18, 22, 23, 24, 25]) (o := []); (first | exact a_pure (sv := .one _) rfl | exact a_pure (sv := .agg _) rfl | exact a_pure (sv := .tup _) rfl); exact rfl; kernel_rfl; kernel_rfl; kernel_rfl; exact rfl; exact rfl); all_goals (apply d_pN (i := 6) (fs := [true, true, false, false, false, false]) (u := [14, 15, 16, 17, 22, 23, 24, 25]) (o := []); (first | exact a_iaE rfl rfl rfl (fS rfl) (by omega) bnd (by exact rfl) | exact a_iaO1 rfl rfl rfl (fS rfl) (by omega) bnd | exact a_iaO rfl rfl rfl (fS rfl) (by omega) bnd (by exact rfl)); exact rfl; kernel_rfl; kernel_rfl; kernel_rfl; exact rfl; exact rfl); all_goals (apply d_pN (i := 7) (fs := [true, true, true, false, false, false, false]) (u := [14, 15, 16, 17, 22, 23, 24, 25]) (o := []); (first | exact a_pure (sv := .one _) rfl | exact a_pure (sv := .agg _) rfl | exact a_ld_rowI rfl rfl rfl (fC rfl) bnd); exact rfl; kernel_rfl; kernel_rfl; kernel_rfl; exact rfl; exact rfl); all_goals (apply d_pN (i := 8) (fs := [false, false, false, false, false, false, false, false]) (u := [14, 15, 16, 17, 18, 19, 20, 21, 23]) (o := []); (first | exact a_pure (sv := .one _) rfl | exact a_pure (sv := .agg _) rfl | exact a_pure (sv := .tup _) rfl); exact rfl; kernel_rfl; kernel_rfl; kernel_rfl; exact rfl; exact rfl); all_goals (apply d_pN (i := 9) (fs := [false, false, false, false, false, false, false, false, false]) (u := [14, 15, 16, 17, 18, 19, 20, 21, 22]) (o := []); (first | exact a_pure (sv := .one _) rfl | exact a_pure (sv := .agg _) rfl | exact a_pure (sv := .tup _) rfl); exact rfl; kernel_rfl; kernel_rfl; kernel_rfl; exact rfl; exact rfl); all_goals (apply d_pN (i := 10) (fs := [true, true, false, false, false, false, false, false, false, false]) (u := [14, 15, 16, 17, 18, 19, 20, 21]) (o := []); (first | exact a_iaE rfl rfl rfl (fS rfl) (by omega) bnd (by exact rfl) | exact a_iaO1 rfl rfl rfl (fS rfl) (by omega) bnd | exact a_iaO rfl rfl rfl (fS rfl) (by omega) bnd (by exact rfl)); exact rfl; kernel_rfl; kernel_rfl; kernel_rfl; exact rfl; exact rfl); all_goals (apply d_pN (i := 11) (fs := [true, true, true, false, false, false, false, false, false, false, false]) (u := [14, 15, 16, 17, 18, 19, 20, 21]) (o := []); (first | exact a_pure (sv := .one _) rfl | exact a_pure (sv := .agg _) rfl | exact a_ld_rowI rfl rfl rfl (fC rfl) bnd); exact rfl; kernel_rfl; kernel_rfl; kernel_rfl; exact rfl; exact rfl); all_goals (apply d_pN (i := 12) (fs := [true, true, true, true, true, true, true, true, false, false, true, true]) (u := [16, 17]) (o := []); (first | exact a_iaE rfl rfl rfl (fS rfl) (by omega) bnd (by exact rfl) | exact a_iaO1 rfl rfl rfl (fS rfl) (by omega) bnd | exact a_iaO rfl rfl rfl (fS rfl) (by omega) bnd (by exact rfl)); exact rfl; kernel_rfl; kernel_rfl; kernel_rfl; exact rfl; exact rfl); all_goals (apply d_uE (i := 13) (fs := [true, true, true, true, true, true, true, true, true, false, false, true, true]) (u := [16, 17]) (o := []); (first | exact a_st_bx rfl rfl rfl rfl (fN rfl rfl) (Nat.le_of_ble_eq_true rfl) rfl | exact a_st_rowI rfl rfl rfl rfl (fN rfl rfl) bnd | exact a_stE (E := eI) _ rfl rfl rfl rfl (fN rfl rfl) bnd (by exact rfl)); exact rfl; kernel_rfl; kernel_rfl; kernel_rfl; exact dst_none; exact rfl; exact rfl); all_goals (apply d_pN (i := 14) (fs := [true, true, true, true, true, true, true, true, true, true, true, true, true, true]) (u := []) (o := []); (first | exact a_iaE rfl rfl rfl (fS rfl) (by omega) bnd (by exact rfl) | exact a_iaO1 rfl rfl rfl (fS rfl) (by omega) bnd | exact a_iaO rfl rfl rfl (fS rfl) (by omega) bnd (by exact rfl)); exact rfl; kernel_rfl; kernel_rfl; kernel_rfl; exact rfl; exact rfl); all_goals (apply d_uE (i := 15) (fs := [true, true, true, true, true, true, true, true, true, true, true, true, true, true, true]) (u := []) (o := []); (first | exact a_st_bx rfl rfl rfl rfl (fN rfl rfl) (Nat.le_of_ble_eq_true rfl) rfl | exact a_st_rowI rfl rfl rfl rfl (fN rfl rfl) bnd | exact a_stE (E := eI) _ rfl rfl rfl rfl (fN rfl rfl) bnd (by exact rfl)); exact rfl; kernel_rfl; kernel_rfl; kernel_rfl; exact dst_none; exact rfl; exact rfl); all_goals (refine d_nil ?_; dsimp only [selT, selH, trues, SV.ren, C.ren, C.ren.all, tRen, GB.ren, calF, upOf, List.cons_append, List.nil_append, Nat.reduceAdd, setRow, List.map_cons, List.map_nil, scC, List.set_cons_zero, List.set_cons_succ, List.take_succ_cons, List.take_zero, List.drop_succ_cons, List.drop_zero])))
      any_goals kernel_rfl
      repeat' first
        | refine g_seq ?_
        | refine g_skip ?_
        | refine g_exit ?_
        | refine g_block ?_
        | refine g_reg ?_
        | refine g_if_t rfl ?_
        | refine g_if_f rfl ?_
        | refine o_nil ?_
        | refine q_s ?_
        | refine q_se ?_
        | refine q_b ?_
        | refine q_be rfl ?_
        | refine q_bn rfl ?_
        | refine q_le ?_
        | refine q_ce ?_
        | (apply p3; (first | exact a_pure (sv := .one _) rfl | exact a_pure (sv := .agg _) rfl | exact a_pure (sv := .tup _) rfl | exact a_cmp rfl rfl rfl trivial rfl | exact a_add rfl rfl (by omega) (by omega) | exact a_sub rfl rfl (by omega) (by omega)); exact rfl)
        | (apply g_drN okM [[], [], [], [], [], [], [4, 5], [4, 5, 6], [], [], [8, 9], [8, 9, 10], [0, 1, 4, 5, 6, 7, 8, 9, 10, 11], [0, 1, 4, 5, 6, 7, 8, 9, 10, 11, 12], [0, 1, 2, 3, 4, 5, 6, 7, 8, 9, 10, 11, 12, 13], [0, 1, 2, 3, 4, 5, 6, 7, 8, 9, 10, 11, 12, 13, 14]] [([], []), ([], []), ([], []), ([], []), ([], []), ([], []), ([], []), ([], []), ([], []), ([], []), ([], []), ([], []), ([], []), ([], [0]), ([], []), ([], [0])] 0; (focus (all_goals (apply d_pN (i := 0) (fs := []) (u := [15, 16, 17, 18, 19, 20, 21, 22, 23, 24, 25]) (o := []); (first | exact a_pure (sv := .one _) rfl | exact a_pure (sv := .agg _) rfl | exact a_pure (sv := .tup _) rfl); exact rfl; kernel_rfl; kernel_rfl; kernel_rfl; exact rfl; exact rfl); all_goals (apply d_pN (i := 1) (fs := [false]) (u := [14, 16, 17, 18, 19, 20, 21, 22, 23, 24, 25]) (o := []); (first | exact a_pure (sv := .one _) rfl | exact a_pure (sv := .agg _) rfl | exact a_pure (sv := .tup _) rfl); exact rfl; kernel_rfl; kernel_rfl; kernel_rfl; exact rfl; exact rfl); all_goals (apply d_pN (i := 2) (fs := [false, false]) (u := [14, 15, 17, 18, 19, 20, 21, 22, 23, 24, 25, 26]) (o := [(false, 0)]); (first | exact a_pure (sv := .one _) rfl | exact a_pure (sv := .agg _) rfl | exact a_pure (sv := .tup _) rfl); exact rfl; kernel_rfl; kernel_rfl; kernel_rfl; exact rfl; exact rfl); all_goals (apply d_pN (i := 3) (fs := [false, false, false]) (u := [14, 15, 16, 18, 19, 20, 21, 22, 23, 24, 25, 26]) (o := [(false, 0)]); (first | exact a_pure (sv := .one _) rfl | exact a_pure (sv := .agg _) rfl | exact a_pure (sv := .tup _) rfl); exact rfl; kernel_rfl; kernel_rfl; kernel_rfl; exact rfl; exact rfl); all_goals (apply d_pN (i := 4) (fs := [false, false, false, false]) (u := [14, 15, 16, 17, 19, 22, 23, 24, 25]) (o := []); (first | exact a_pure (sv := .one _) rfl | exact a_pure (sv := .agg _) rfl | exact a_pure (sv := .tup _) rfl); exact rfl; kernel_rfl; kernel_rfl; kernel_rfl; exact rfl; exact rfl); all_goals (apply d_pN (i := 5) (fs := [false, false, false, false, false]) (u := [14, 15, 16, 17, 18, 22, 23, 24, 25]) (o := []); (first | exact a_pure (sv := .one _) rfl | exact a_pure (sv := .agg _) rfl | exact a_pure (sv := .tup _) rfl); exact rfl; kernel_rfl; kernel_rfl; kernel_rfl; exact rfl; exact rfl); all_goals (apply d_pN (i := 6) (fs := [true, true, false, false, false, false]) (u := [14, 15, 16, 17, 22, 23, 24, 25]) (o := []); (first | exact a_iaE rfl rfl rfl (fS rfl) (by omega) bnd (by exact rfl) | exact a_iaO1 rfl rfl rfl (fS rfl) (by omega) bnd | exact a_iaO rfl rfl rfl (fS rfl) (by omega) bnd (by exact rfl)); exact rfl; kernel_rfl; kernel_rfl; kernel_rfl; exact rfl; exact rfl); all_goals (apply d_pN (i := 7) (fs := [true, true, true, false, false, false, false]) (u := [14, 15, 16, 17, 22, 23, 24, 25]) (o := []); (first | exact a_pure (sv := .one _) rfl | exact a_pure (sv := .agg _) rfl | exact a_ld_rowI rfl rfl rfl (fC rfl) bnd); exact rfl; kernel_rfl; kernel_rfl; kernel_rfl; exact rfl; exact rfl); all_goals (apply d_pN (i := 8) (fs := [false, false, false, false, false, false, false, false]) (u := [14, 15, 16, 17, 18, 19, 20, 21, 23]) (o := []); (first | exact a_pure (sv := .one _) rfl | exact a_pure (sv := .agg _) rfl | exact a_pure (sv := .tup _) rfl); exact rfl; kernel_rfl; kernel_rfl; kernel_rfl; exact rfl; exact rfl); all_goals (apply d_pN (i := 9) (fs := [false, false, false, false, false, false, false, false, false]) (u := [14, 15, 16, 17, 18, 19, 20, 21, 22]) (o := []); (first | exact a_pure (sv := .one _) rfl | exact a_pure (sv := .agg _) rfl | exact a_pure (sv := .tup _) rfl); exact rfl; kernel_rfl; kernel_rfl; kernel_rfl; exact rfl; exact rfl); all_goals (apply d_pN (i := 10) (fs := [true, true, false, false, false, false, false, false, false, false]) (u := [14, 15, 16, 17, 18, 19, 20, 21]) (o := []); (first | exact a_iaE rfl rfl rfl (fS rfl) (by omega) bnd (by exact rfl) | exact a_iaO1 rfl rfl rfl (fS rfl) (by omega) bnd | exact a_iaO rfl rfl rfl (fS rfl) (by omega) bnd (by exact rfl)); exact rfl; kernel_rfl; kernel_rfl; kernel_rfl; exact rfl; exact rfl); all_goals (apply d_pN (i := 11) (fs := [true, true, true, false, false, false, false, false, false, false, false]) (u := [14, 15, 16, 17, 18, 19, 20, 21]) (o := []); (first | exact a_pure (sv := .one _) rfl | exact a_pure (sv := .agg _) rfl | exact a_ld_rowI rfl rfl rfl (fC rfl) bnd); exact rfl; kernel_rfl; kernel_rfl; kernel_rfl; exact rfl; exact rfl); all_goals (apply d_pN (i := 12) (fs := [true, true, true, true, true, true, true, true, false, false, true, true]) (u := [16, 17]) (o := []); (first | exact a_iaE rfl rfl rfl (fS rfl) (by omega) bnd (by exact rfl) | exact a_iaO1 rfl rfl rfl (fS rfl) (by omega) bnd | exact a_iaO rfl rfl rfl (fS rfl) (by omega) bnd (by exact rfl)); exact rfl; kernel_rfl; kernel_rfl; kernel_rfl; exact rfl; exact rfl); all_goals (apply d_uE (i := 13) (fs := [true, true, true, true, true, true, true, true, true, false, false, true, true]) (u := [16, 17]) (o := []); (first | exact a_st_bx rfl rfl rfl rfl (fN rfl rfl) (Nat.le_of_ble_eq_true rfl) rfl | exact a_st_rowI rfl rfl rfl rfl (fN rfl rfl) bnd | exact a_stE (E := eI) _ rfl rfl rfl rfl (fN rfl rfl) bnd (by exact rfl)); exact rfl; kernel_rfl; kernel_rfl; kernel_rfl; exact dst_none; exact rfl; exact rfl); all_goals (apply d_pN (i := 14) (fs := [true, true, true, true, true, true, true, true, true, true, true, true, true, true]) (u := []) (o := []); (first | exact a_iaE rfl rfl rfl (fS rfl) (by omega) bnd (by exact rfl) | exact a_iaO1 rfl rfl rfl (fS rfl) (by omega) bnd | exact a_iaO rfl rfl rfl (fS rfl) (by omega) bnd (by exact rfl)); exact rfl; kernel_rfl; kernel_rfl; kernel_rfl; exact rfl; exact rfl); all_goals (apply d_uE (i := 15) (fs := [true, true, true, true, true, true, true, true, true, true, true, true, true, true, true]) (u := []) (o := []); (first | exact a_st_bx rfl rfl rfl rfl (fN rfl rfl) (Nat.le_of_ble_eq_true rfl) rfl | exact a_st_rowI rfl rfl rfl rfl (fN rfl rfl) bnd | exact a_stE (E := eI) _ rfl rfl rfl rfl (fN rfl rfl) bnd (by exact rfl)); exact rfl; kernel_rfl; kernel_rfl; kernel_rfl; exact dst_none; exact rfl; exact rfl); all_goals (refine d_nil ?_; dsimp only [selT, selH, trues, SV.ren, C.ren, C.ren.all, tRen, GB.ren, calF, upOf, List.cons_append, List.nil_append, Nat.reduceAdd, setRow, List.map_cons, List.map_nil, scC, List.set_cons_zero, List.set_cons_succ, List.take_succ_cons, List.take_zero, List.drop_succ_cons, List.drop_zero]))); any_goals kernel_rfl)
        | (refine o_gs rfl rfl (fun hc => ?_) (fun hc => ?_) <;> (try simp only [decide_eq_true_eq, decide_eq_false_iff_not, Bool.not_eq_true', Bool.not_eq_false', Bool.not_eq_true, Bool.not_eq_false, Bool.and_eq_true, Bool.or_eq_false_iff, Bool.not_not] at hc) <;> (try (exfalso; omega)))
        | (refine g_cond rfl (fun hc => ?_) (fun hc => ?_) <;> (try simp only [decide_eq_true_eq, decide_eq_false_iff_not, Bool.not_eq_true', Bool.not_eq_false', Bool.not_eq_true, Bool.not_eq_false, Bool.and_eq_true, Bool.or_eq_false_iff, Bool.not_not] at hc) <;> (try (exfalso; omega)))
      refine q_again (i + 1, j - 1, _) [0] (by exact stk) ?_ ?_
      · refine ⟨by dsimp only; omega, by dsimp only; omega, by dsimp only; omega, ?_⟩
        dsimp only
        subst hj
        exact turned_step h0 (by omega) h2 _ _ (List.getElem?_eq_getElem (by omega)) (List.getElem?_eq_getElem (by omega))
      · dsimp only; omega
    · repeat (first | refine g_ret ?_ | refine q_sr ?_ | refine q_br ?_ | refine q_lr ?_ | refine q_cr ?_)
      refine ends_id ?_
      exact endK [] (h2 := (by first | (with_reducible exact SVLe.refl) | exact SVLe.any | exact SVLe.one (.sh rfl) | exact SVLe.one (.nil (by decide)) | (refine SVLe.agg ?_; repeat (first | exact CsLe.nil | refine CsLe.cons ?_ ?_ | exact CLe.refl | exact CLe.sh rfl | exact CLe.nil (by decide) | (refine cle_i ?_; (subst hj; exact turned_end hc (by omega) h2)) | (refine cle_b ?_; (subst hj; exact turned_end hc (by omega) h2)))) | (refine SVLe.tup ?_; repeat (first | exact TLe.nil | refine TLe.cons ?_ ?_ | exact CsLe.nil | refine CsLe.cons ?_ ?_ | exact CLe.refl | exact CLe.sh rfl | exact CLe.nil (by decide) | (refine cle_i ?_; (subst hj; exact turned_end hc (by omega) h2)) | (refine cle_b ?_; (subst hj; exact turned_end hc (by omega) h2)))) | exact SVLe.refl | (refine sle_i ?_; (subst hj; exact turned_end hc (by omega) h2)) | (refine sle_b ?_; (subst hj; exact turned_end hc (by omega) h2)))) (h3 := (by repeat (first | exact trivial | refine And.intro ?_ ?_ | exact Or.inl rfl | exact Or.inr rfl | (refine Or.inr (row_eq ?_); (subst hj; exact turned_end hc (by omega) h2)) | (refine Or.inr (bx_eq rfl rfl ?_); (try dsimp only [C.ren, C.ren.all]); (subst hj; exact turned_end hc (by omega) h2)))))
theorem reversed_ok (xs : List Int) (hx : (xs.length : Int) ≤ 16777216) : Does Try.prog 118 [.one (shI xs)] [] (.one (.gv 0)) [.row 1 (rows eI xs.reverse)] := by
  refine does_of (k := 0) Try.func118 rfl Try.ntmps118 rfl rfl fun w F0 S0 ρ0 => ?_
  dsimp only [argT, argH]
  repeat' first
    | refine g_seq ?_
    | refine g_skip ?_
    | refine g_exit ?_
    | refine g_block ?_
    | refine g_reg ?_
    | refine g_if_t rfl ?_
    | refine g_if_f rfl ?_
    | refine o_nil ?_
    | refine q_s ?_
    | refine q_se ?_
    | refine q_b ?_
    | refine q_be rfl ?_
    | refine q_bn rfl ?_
    | refine q_le ?_
    | refine q_ce ?_
    | (apply n3; exact a_nilO eI rfl; exact rfl)
    | (apply p3; (first | exact a_pure (sv := .one _) rfl | exact a_pure (sv := .agg _) rfl | exact a_pure (sv := .tup _) rfl); exact rfl)
    | (apply c4 1; exact callK1 (θ := []) (hD := (clone_ok _ preB3)); exact rfl; exact rfl; exact rfl; (try dsimp only [SV.ren, C.ren, C.ren.all, tRen, GB.ren, calF, upOf, List.cons_append, List.nil_append, Nat.reduceAdd]))
    | (apply c4 0; exact callK1 (θ := [_]) (hD := (reverse_ok _ preB3)); exact rfl; exact rfl; exact rfl; (try dsimp only [SV.ren, C.ren, C.ren.all, tRen, GB.ren, calF, upOf, List.cons_append, List.nil_append, Nat.reduceAdd]))
    | (refine o_gs rfl rfl (fun hc => ?_) (fun hc => ?_) <;> (try simp only [decide_eq_true_eq, decide_eq_false_iff_not, Bool.not_eq_true', Bool.not_eq_false', Bool.not_eq_true, Bool.not_eq_false, Bool.and_eq_true, Bool.or_eq_false_iff, Bool.not_not] at hc) <;> (try (exfalso; omega)))
    | (refine g_cond rfl (fun hc => ?_) (fun hc => ?_) <;> (try simp only [decide_eq_true_eq, decide_eq_false_iff_not, Bool.not_eq_true', Bool.not_eq_false', Bool.not_eq_true, Bool.not_eq_false, Bool.and_eq_true, Bool.or_eq_false_iff, Bool.not_not] at hc) <;> (try (exfalso; omega)))
  repeat (first | refine g_ret ?_ | refine q_sr ?_ | refine q_br ?_ | refine q_lr ?_ | refine q_cr ?_)
  refine ends_id ?_
  exact endK [_] (h2 := (by first | (with_reducible exact SVLe.refl) | exact SVLe.any | exact SVLe.one (.sh rfl) | exact SVLe.one (.nil (by decide)) | (refine SVLe.agg ?_; repeat (first | exact CsLe.nil | refine CsLe.cons ?_ ?_ | exact CLe.refl | exact CLe.sh rfl | exact CLe.nil (by decide) | (refine cle_i ?_; rfl) | (refine cle_b ?_; rfl))) | (refine SVLe.tup ?_; repeat (first | exact TLe.nil | refine TLe.cons ?_ ?_ | exact CsLe.nil | refine CsLe.cons ?_ ?_ | exact CLe.refl | exact CLe.sh rfl | exact CLe.nil (by decide) | (refine cle_i ?_; rfl) | (refine cle_b ?_; rfl))) | exact SVLe.refl | (refine sle_i ?_; rfl) | (refine sle_b ?_; rfl))) (h3 := (by repeat (first | exact trivial | refine And.intro ?_ ?_ | exact Or.inl rfl | exact Or.inr rfl | (refine Or.inr (row_eq ?_); rfl) | (refine Or.inr (bx_eq rfl rfl ?_); (try dsimp only [C.ren, C.ren.all]); rfl))))
theorem validSide_ok (xs : List Int) (sy : Int) (hx : (xs.length : Int) ≤ 16777216) (h1 : -1000 ≤ sy) (h2 : sy ≤ 1000) : Does Try.prog 151 [.one (shI xs), .one (int sy), .one (int 200)] [] (.one (boo (vSide sy xs))) [] := by
  refine does_of (k := 0) Try.func151 rfl Try.ntmps151 rfl rfl fun w F0 S0 ρ0 => ?_
  dsimp only [argT, argH]
  repeat' first
    | refine g_seq ?_
    | refine g_skip ?_
    | refine g_exit ?_
    | refine g_block ?_
    | refine g_reg ?_
    | refine g_if_t rfl ?_
    | refine g_if_f rfl ?_
    | refine o_nil ?_
    | refine q_s ?_
    | refine q_se ?_
    | refine q_b ?_
    | refine q_be rfl ?_
    | refine q_bn rfl ?_
    | refine q_le ?_
    | refine q_ce ?_
    | (apply p3; (first | exact a_pure (sv := .one _) rfl | exact a_pure (sv := .agg _) rfl | exact a_pure (sv := .tup _) rfl | exact a_cmp rfl rfl rfl trivial rfl | exact a_sub rfl rfl (by omega) (by omega) | exact a_lenE rfl rfl (fS rfl) (by exact rfl) | exact a_len_str rfl (fT rfl) | exact a_eqS rfl rfl rfl | exact a_iaE rfl rfl rfl (fS rfl) (by omega) bnd (by exact rfl) | exact a_iaO1 rfl rfl rfl (fS rfl) (by omega) bnd | exact a_iaO rfl rfl rfl (fS rfl) (by omega) bnd (by exact rfl) | exact a_ld_rowI rfl rfl rfl (fC rfl) bnd | exact a_ne rfl rfl | exact a_neS rfl rfl rfl); exact rfl)
    | (apply c4 0; exact callK1 (θ := []) (hD := (sizeI_ok _ preB3)); exact rfl; exact rfl; exact rfl; (try dsimp only [SV.ren, C.ren, C.ren.all, tRen, GB.ren, calF, upOf, List.cons_append, List.nil_append, Nat.reduceAdd]))
    | (apply c4 0; exact callK1 (θ := []) (hD := (allWithin_ok _ _ _ preB3)); exact rfl; exact rfl; exact rfl; (try dsimp only [SV.ren, C.ren, C.ren.all, tRen, GB.ren, calF, upOf, List.cons_append, List.nil_append, Nat.reduceAdd]))
    | refine o_no rfl rfl rfl rfl ?_
    | refine o_noN rfl rfl rfl ?_
    | (apply py3; exact rfl; exact rfl; (first | exact a_pure (sv := .one _) rfl | exact a_pure (sv := .agg _) rfl | exact a_pure (sv := .tup _) rfl | exact a_cmp rfl rfl rfl trivial rfl | exact a_sub rfl rfl (by omega) (by omega) | exact a_lenE rfl rfl (fS rfl) (by exact rfl) | exact a_len_str rfl (fT rfl) | exact a_eqS rfl rfl rfl | exact a_iaE rfl rfl rfl (fS rfl) (by omega) bnd (by exact rfl) | exact a_iaO1 rfl rfl rfl (fS rfl) (by omega) bnd | exact a_iaO rfl rfl rfl (fS rfl) (by omega) bnd (by exact rfl) | exact a_ld_rowI rfl rfl rfl (fC rfl) bnd | exact a_ne rfl rfl | exact a_neS rfl rfl rfl); exact rfl; exact rfl)
    | (apply cy4 0; exact rfl; exact rfl; exact callK1 (θ := []) (hD := (sizeI_ok _ preB3)); exact rfl; exact rfl; exact rfl; exact rfl; (try dsimp only [SV.ren, C.ren, C.ren.all, tRen, GB.ren, calF, upOf, List.cons_append, List.nil_append, Nat.reduceAdd]))
    | (apply cy4 0; exact rfl; exact rfl; exact callK1 (θ := []) (hD := (allWithin_ok _ _ _ preB3)); exact rfl; exact rfl; exact rfl; exact rfl; (try dsimp only [SV.ren, C.ren, C.ren.all, tRen, GB.ren, calF, upOf, List.cons_append, List.nil_append, Nat.reduceAdd]))
    | (refine o_gs rfl rfl (fun hc => ?_) (fun hc => ?_) <;> (try simp only [decide_eq_true_eq, decide_eq_false_iff_not, Bool.not_eq_true', Bool.not_eq_false', Bool.not_eq_true, Bool.not_eq_false, Bool.and_eq_true, Bool.or_eq_false_iff, Bool.not_not] at hc) <;> (try (exfalso; omega)))
    | (refine g_cond rfl (fun hc => ?_) (fun hc => ?_) <;> (try simp only [decide_eq_true_eq, decide_eq_false_iff_not, Bool.not_eq_true', Bool.not_eq_false', Bool.not_eq_true, Bool.not_eq_false, Bool.and_eq_true, Bool.or_eq_false_iff, Bool.not_not] at hc) <;> (try (exfalso; omega)))
  · repeat (first | refine g_ret ?_ | refine q_sr ?_ | refine q_br ?_ | refine q_lr ?_ | refine q_cr ?_)
    refine ends_id ?_
    exact endK [] (h2 := (by first | (with_reducible exact SVLe.refl) | exact SVLe.any | exact SVLe.one (.sh rfl) | exact SVLe.one (.nil (by decide)) | (refine SVLe.agg ?_; repeat (first | exact CsLe.nil | refine CsLe.cons ?_ ?_ | exact CLe.refl | exact CLe.sh rfl | exact CLe.nil (by decide) | (refine cle_i ?_; (have : xs = [] := List.eq_nil_of_length_eq_zero (by omega); subst this; unfold vSide; rfl)) | (refine cle_b ?_; (have : xs = [] := List.eq_nil_of_length_eq_zero (by omega); subst this; unfold vSide; rfl)))) | (refine SVLe.tup ?_; repeat (first | exact TLe.nil | refine TLe.cons ?_ ?_ | exact CsLe.nil | refine CsLe.cons ?_ ?_ | exact CLe.refl | exact CLe.sh rfl | exact CLe.nil (by decide) | (refine cle_i ?_; (have : xs = [] := List.eq_nil_of_length_eq_zero (by omega); subst this; unfold vSide; rfl)) | (refine cle_b ?_; (have : xs = [] := List.eq_nil_of_length_eq_zero (by omega); subst this; unfold vSide; rfl)))) | exact SVLe.refl | (refine sle_i ?_; (have : xs = [] := List.eq_nil_of_length_eq_zero (by omega); subst this; unfold vSide; rfl)) | (refine sle_b ?_; (have : xs = [] := List.eq_nil_of_length_eq_zero (by omega); subst this; unfold vSide; rfl)))) (h3 := (by repeat (first | exact trivial | refine And.intro ?_ ?_ | exact Or.inl rfl | exact Or.inr rfl | (refine Or.inr (row_eq ?_); (have : xs = [] := List.eq_nil_of_length_eq_zero (by omega); subst this; unfold vSide; rfl)) | (refine Or.inr (bx_eq rfl rfl ?_); (try dsimp only [C.ren, C.ren.all]); (have : xs = [] := List.eq_nil_of_length_eq_zero (by omega); subst this; unfold vSide; rfl)))))
  · repeat (first | refine g_ret ?_ | refine q_sr ?_ | refine q_br ?_ | refine q_lr ?_ | refine q_cr ?_)
    refine ends_id ?_
    exact endK [] (h2 := (by first | (with_reducible exact SVLe.refl) | exact SVLe.any | exact SVLe.one (.sh rfl) | exact SVLe.one (.nil (by decide)) | (refine SVLe.agg ?_; repeat (first | exact CsLe.nil | refine CsLe.cons ?_ ?_ | exact CLe.refl | exact CLe.sh rfl | exact CLe.nil (by decide) | (refine cle_i ?_; (unfold vSide; unfold inAll at *; rw [getLastD_at xs 1 (by omega)]; simp_all)) | (refine cle_b ?_; (unfold vSide; unfold inAll at *; rw [getLastD_at xs 1 (by omega)]; simp_all)))) | (refine SVLe.tup ?_; repeat (first | exact TLe.nil | refine TLe.cons ?_ ?_ | exact CsLe.nil | refine CsLe.cons ?_ ?_ | exact CLe.refl | exact CLe.sh rfl | exact CLe.nil (by decide) | (refine cle_i ?_; (unfold vSide; unfold inAll at *; rw [getLastD_at xs 1 (by omega)]; simp_all)) | (refine cle_b ?_; (unfold vSide; unfold inAll at *; rw [getLastD_at xs 1 (by omega)]; simp_all)))) | exact SVLe.refl | (refine sle_i ?_; (unfold vSide; unfold inAll at *; rw [getLastD_at xs 1 (by omega)]; simp_all)) | (refine sle_b ?_; (unfold vSide; unfold inAll at *; rw [getLastD_at xs 1 (by omega)]; simp_all)))) (h3 := (by repeat (first | exact trivial | refine And.intro ?_ ?_ | exact Or.inl rfl | exact Or.inr rfl | (refine Or.inr (row_eq ?_); (unfold vSide; unfold inAll at *; rw [getLastD_at xs 1 (by omega)]; simp_all)) | (refine Or.inr (bx_eq rfl rfl ?_); (try dsimp only [C.ren, C.ren.all]); (unfold vSide; unfold inAll at *; rw [getLastD_at xs 1 (by omega)]; simp_all)))))
  · repeat (first | refine g_ret ?_ | refine q_sr ?_ | refine q_br ?_ | refine q_lr ?_ | refine q_cr ?_)
    refine ends_id ?_
    exact endK [] (h2 := (by first | (with_reducible exact SVLe.refl) | exact SVLe.any | exact SVLe.one (.sh rfl) | exact SVLe.one (.nil (by decide)) | (refine SVLe.agg ?_; repeat (first | exact CsLe.nil | refine CsLe.cons ?_ ?_ | exact CLe.refl | exact CLe.sh rfl | exact CLe.nil (by decide) | (refine cle_i ?_; (unfold vSide; unfold inAll at hc; rw [hc]; rfl)) | (refine cle_b ?_; (unfold vSide; unfold inAll at hc; rw [hc]; rfl)))) | (refine SVLe.tup ?_; repeat (first | exact TLe.nil | refine TLe.cons ?_ ?_ | exact CsLe.nil | refine CsLe.cons ?_ ?_ | exact CLe.refl | exact CLe.sh rfl | exact CLe.nil (by decide) | (refine cle_i ?_; (unfold vSide; unfold inAll at hc; rw [hc]; rfl)) | (refine cle_b ?_; (unfold vSide; unfold inAll at hc; rw [hc]; rfl)))) | exact SVLe.refl | (refine sle_i ?_; (unfold vSide; unfold inAll at hc; rw [hc]; rfl)) | (refine sle_b ?_; (unfold vSide; unfold inAll at hc; rw [hc]; rfl)))) (h3 := (by repeat (first | exact trivial | refine And.intro ?_ ?_ | exact Or.inl rfl | exact Or.inr rfl | (refine Or.inr (row_eq ?_); (unfold vSide; unfold inAll at hc; rw [hc]; rfl)) | (refine Or.inr (bx_eq rfl rfl ?_); (try dsimp only [C.ren, C.ren.all]); (unfold vSide; unfold inAll at hc; rw [hc]; rfl)))))
  · repeat (first | refine g_ret ?_ | refine q_sr ?_ | refine q_br ?_ | refine q_lr ?_ | refine q_cr ?_)
    refine ends_id ?_
    exact endK [] (h2 := (by first | (with_reducible exact SVLe.refl) | exact SVLe.any | exact SVLe.one (.sh rfl) | exact SVLe.one (.nil (by decide)) | (refine SVLe.agg ?_; repeat (first | exact CsLe.nil | refine CsLe.cons ?_ ?_ | exact CLe.refl | exact CLe.sh rfl | exact CLe.nil (by decide) | (refine cle_i ?_; (unfold vSide; rw [decide_eq_false] <;> first | omega | simp)) | (refine cle_b ?_; (unfold vSide; rw [decide_eq_false] <;> first | omega | simp)))) | (refine SVLe.tup ?_; repeat (first | exact TLe.nil | refine TLe.cons ?_ ?_ | exact CsLe.nil | refine CsLe.cons ?_ ?_ | exact CLe.refl | exact CLe.sh rfl | exact CLe.nil (by decide) | (refine cle_i ?_; (unfold vSide; rw [decide_eq_false] <;> first | omega | simp)) | (refine cle_b ?_; (unfold vSide; rw [decide_eq_false] <;> first | omega | simp)))) | exact SVLe.refl | (refine sle_i ?_; (unfold vSide; rw [decide_eq_false] <;> first | omega | simp)) | (refine sle_b ?_; (unfold vSide; rw [decide_eq_false] <;> first | omega | simp)))) (h3 := (by repeat (first | exact trivial | refine And.intro ?_ ?_ | exact Or.inl rfl | exact Or.inr rfl | (refine Or.inr (row_eq ?_); (unfold vSide; rw [decide_eq_false] <;> first | omega | simp)) | (refine Or.inr (bx_eq rfl rfl ?_); (try dsimp only [C.ren, C.ren.all]); (unfold vSide; rw [decide_eq_false] <;> first | omega | simp)))))
theorem configOf_ok (m : Mach) (c : Conf) (hx : (c.le.length : Int) ≤ 16777216) (hy : (c.ri.length : Int) ≤ 16777216) (h1 : -1000 ≤ m.sy) (h2 : m.sy ≤ 1000) (h3 : -1000 ≤ m.st) (h4 : m.st ≤ 1000) : Does Try.prog 134 [.agg (maC m), .agg (coC c)] [] (.one (boo (vConf m c))) [] := by
  refine does_of (k := 0) Try.func134 rfl Try.ntmps134 rfl rfl fun w F0 S0 ρ0 => ?_
  dsimp only [argT, argH]
  repeat' first
    | refine g_seq ?_
    | refine g_skip ?_
    | refine g_exit ?_
    | refine g_block ?_
    | refine g_reg ?_
    | refine g_if_t rfl ?_
    | refine g_if_f rfl ?_
    | refine o_nil ?_
    | refine q_s ?_
    | refine q_se ?_
    | refine q_b ?_
    | refine q_be rfl ?_
    | refine q_bn rfl ?_
    | refine q_le ?_
    | refine q_ce ?_
    | (apply n3; (first | exact a_new (gb := .bx _) rfl); exact rfl; (try dsimp only [List.map_cons, List.map_nil, scC, Nat.reduceAdd]))
    | (apply p3; (first | exact a_pure (sv := .one _) rfl | exact a_pure (sv := .agg _) rfl | exact a_ld_rowI rfl rfl rfl (fC rfl) bnd | exact a_sub rfl rfl (by omega) (by omega) | exact a_pure (sv := .tup _) rfl); exact rfl)
    | (apply c4 0; exact callK1 (θ := []) (hD := (within_ok _ _ _)); exact rfl; exact rfl; exact rfl; (try dsimp only [SV.ren, C.ren, C.ren.all, tRen, GB.ren, calF, upOf, List.cons_append, List.nil_append, Nat.reduceAdd]))
    | (apply c4 0; exact callK1 (θ := []) (hD := (validSide_ok _ _ preB3 preB3 preB3)); exact rfl; exact rfl; exact rfl; (try dsimp only [SV.ren, C.ren, C.ren.all, tRen, GB.ren, calF, upOf, List.cons_append, List.nil_append, Nat.reduceAdd]))
    | refine o_no rfl rfl rfl rfl ?_
    | refine o_noN rfl rfl rfl ?_
    | (apply py3; exact rfl; exact rfl; (first | exact a_pure (sv := .one _) rfl | exact a_pure (sv := .agg _) rfl | exact a_ld_rowI rfl rfl rfl (fC rfl) bnd | exact a_sub rfl rfl (by omega) (by omega) | exact a_pure (sv := .tup _) rfl); exact rfl; exact rfl)
    | (apply ny3; exact rfl; exact rfl; (first | exact a_new (gb := .bx _) rfl); exact rfl; exact rfl)
    | (apply cy4 0; exact rfl; exact rfl; exact callK1 (θ := []) (hD := (within_ok _ _ _)); exact rfl; exact rfl; exact rfl; exact rfl; (try dsimp only [SV.ren, C.ren, C.ren.all, tRen, GB.ren, calF, upOf, List.cons_append, List.nil_append, Nat.reduceAdd]))
    | (apply cy4 0; exact rfl; exact rfl; exact callK1 (θ := []) (hD := (validSide_ok _ _ preB3 preB3 preB3)); exact rfl; exact rfl; exact rfl; exact rfl; (try dsimp only [SV.ren, C.ren, C.ren.all, tRen, GB.ren, calF, upOf, List.cons_append, List.nil_append, Nat.reduceAdd]))
    | (refine o_gs rfl rfl (fun hc => ?_) (fun hc => ?_) <;> (try simp only [decide_eq_true_eq, decide_eq_false_iff_not, Bool.not_eq_true', Bool.not_eq_false', Bool.not_eq_true, Bool.not_eq_false, Bool.and_eq_true, Bool.or_eq_false_iff, Bool.not_not] at hc) <;> (try (exfalso; omega)))
    | (refine g_cond rfl (fun hc => ?_) (fun hc => ?_) <;> (try simp only [decide_eq_true_eq, decide_eq_false_iff_not, Bool.not_eq_true', Bool.not_eq_false', Bool.not_eq_true, Bool.not_eq_false, Bool.and_eq_true, Bool.or_eq_false_iff, Bool.not_not] at hc) <;> (try (exfalso; omega)))
  all_goals
    repeat (first | refine g_ret ?_ | refine q_sr ?_ | refine q_br ?_ | refine q_lr ?_ | refine q_cr ?_)
    refine ends_id ?_
    exact endK [] (h2 := (by first | (with_reducible exact SVLe.refl) | exact SVLe.any | exact SVLe.one (.sh rfl) | exact SVLe.one (.nil (by decide)) | (refine SVLe.agg ?_; repeat (first | exact CsLe.nil | refine CsLe.cons ?_ ?_ | exact CLe.refl | exact CLe.sh rfl | exact CLe.nil (by decide) | (refine cle_i ?_; (unfold vConf; first | (simp [*]; done) | (rw [decide_eq_false] <;> first | rfl | omega | (simp; done)) | (rw [decide_eq_true] <;> first | rfl | omega | (simp [*]; done)) | (simp_all; done) | (simp_all; omega))) | (refine cle_b ?_; (unfold vConf; first | (simp [*]; done) | (rw [decide_eq_false] <;> first | rfl | omega | (simp; done)) | (rw [decide_eq_true] <;> first | rfl | omega | (simp [*]; done)) | (simp_all; done) | (simp_all; omega))))) | (refine SVLe.tup ?_; repeat (first | exact TLe.nil | refine TLe.cons ?_ ?_ | exact CsLe.nil | refine CsLe.cons ?_ ?_ | exact CLe.refl | exact CLe.sh rfl | exact CLe.nil (by decide) | (refine cle_i ?_; (unfold vConf; first | (simp [*]; done) | (rw [decide_eq_false] <;> first | rfl | omega | (simp; done)) | (rw [decide_eq_true] <;> first | rfl | omega | (simp [*]; done)) | (simp_all; done) | (simp_all; omega))) | (refine cle_b ?_; (unfold vConf; first | (simp [*]; done) | (rw [decide_eq_false] <;> first | rfl | omega | (simp; done)) | (rw [decide_eq_true] <;> first | rfl | omega | (simp [*]; done)) | (simp_all; done) | (simp_all; omega))))) | exact SVLe.refl | (refine sle_i ?_; (unfold vConf; first | (simp [*]; done) | (rw [decide_eq_false] <;> first | rfl | omega | (simp; done)) | (rw [decide_eq_true] <;> first | rfl | omega | (simp [*]; done)) | (simp_all; done) | (simp_all; omega))) | (refine sle_b ?_; (unfold vConf; first | (simp [*]; done) | (rw [decide_eq_false] <;> first | rfl | omega | (simp; done)) | (rw [decide_eq_true] <;> first | rfl | omega | (simp [*]; done)) | (simp_all; done) | (simp_all; omega))))) (h3 := (by repeat (first | exact trivial | refine And.intro ?_ ?_ | exact Or.inl rfl | exact Or.inr rfl | (refine Or.inr (row_eq ?_); (unfold vConf; first | (simp [*]; done) | (rw [decide_eq_false] <;> first | rfl | omega | (simp; done)) | (rw [decide_eq_true] <;> first | rfl | omega | (simp [*]; done)) | (simp_all; done) | (simp_all; omega))) | (refine Or.inr (bx_eq rfl rfl ?_); (try dsimp only [C.ren, C.ren.all]); (unfold vConf; first | (simp [*]; done) | (rw [decide_eq_false] <;> first | rfl | omega | (simp; done)) | (rw [decide_eq_true] <;> first | rfl | omega | (simp [*]; done)) | (simp_all; done) | (simp_all; omega))))))
theorem ValidConfig_ok (m : Mach) (c : Conf) (hm : (m.ru.length : Int) ≤ 16777216) (hx : (c.le.length : Int) ≤ 16777216) (hy : (c.ri.length : Int) ≤ 16777216) : Does Try.prog 105 [.agg (maC m), .agg (coC c)] [] (.one (boo (vMach m && vConf m c))) [] := by
  refine does_of (k := 0) Try.func105 rfl Try.ntmps105 rfl rfl fun w F0 S0 ρ0 => ?_
  dsimp only [argT, argH]
  repeat' first
    | refine g_seq ?_
    | refine g_skip ?_
    | refine g_exit ?_
    | refine g_block ?_
    | refine g_reg ?_
    | refine g_if_t rfl ?_
    | refine g_if_f rfl ?_
    | refine o_nil ?_
    | refine q_s ?_
    | refine q_se ?_
    | refine q_b ?_
    | refine q_be rfl ?_
    | refine q_bn rfl ?_
    | refine q_le ?_
    | refine q_ce ?_
    | (apply n3; (first | exact a_new (gb := .bx _) rfl); exact rfl; (try dsimp only [List.map_cons, List.map_nil, scC, Nat.reduceAdd]))
    | (apply p3; (first | exact a_pure (sv := .one _) rfl | exact a_pure (sv := .agg _) rfl | exact a_ld_rowI rfl rfl rfl (fC rfl) bnd | exact a_pure (sv := .tup _) rfl); exact rfl)
    | (apply c4 0; exact callK1 (θ := []) (hD := (ValidMachine_ok _ preB3)); exact rfl; exact rfl; exact rfl; (try dsimp only [SV.ren, C.ren, C.ren.all, tRen, GB.ren, calF, upOf, List.cons_append, List.nil_append, Nat.reduceAdd]))
    | (apply c4 0; exact callK1 (θ := []) (hD := (configOf_ok _ _ preB3 preB3 preB3 preB3 preB3 preB3)); exact rfl; exact rfl; exact rfl; (try dsimp only [SV.ren, C.ren, C.ren.all, tRen, GB.ren, calF, upOf, List.cons_append, List.nil_append, Nat.reduceAdd]))
    | refine o_no rfl rfl rfl rfl ?_
    | refine o_noN rfl rfl rfl ?_
    | (apply py3; exact rfl; exact rfl; (first | exact a_pure (sv := .one _) rfl | exact a_pure (sv := .agg _) rfl | exact a_ld_rowI rfl rfl rfl (fC rfl) bnd | exact a_pure (sv := .tup _) rfl); exact rfl; exact rfl)
    | (apply ny3; exact rfl; exact rfl; (first | exact a_new (gb := .bx _) rfl); exact rfl; exact rfl)
    | (apply cy4 0; exact rfl; exact rfl; exact callK1 (θ := []) (hD := (ValidMachine_ok _ preB3)); exact rfl; exact rfl; exact rfl; exact rfl; (try dsimp only [SV.ren, C.ren, C.ren.all, tRen, GB.ren, calF, upOf, List.cons_append, List.nil_append, Nat.reduceAdd]))
    | (apply cy4 0; exact rfl; exact rfl; exact callK1 (θ := []) (hD := (configOf_ok _ _ preB3 preB3 preB3 preB3 preB3 preB3)); exact rfl; exact rfl; exact rfl; exact rfl; (try dsimp only [SV.ren, C.ren, C.ren.all, tRen, GB.ren, calF, upOf, List.cons_append, List.nil_append, Nat.reduceAdd]))
    | (refine o_gs rfl rfl (fun hc => ?_) (fun hc => ?_) <;> (try simp only [decide_eq_true_eq, decide_eq_false_iff_not, Bool.not_eq_true', Bool.not_eq_false', Bool.not_eq_true, Bool.not_eq_false, Bool.and_eq_true, Bool.or_eq_false_iff, Bool.not_not] at hc) <;> (try (exfalso; omega)))
    | (refine g_cond rfl (fun hc => ?_) (fun hc => ?_) <;> (try simp only [decide_eq_true_eq, decide_eq_false_iff_not, Bool.not_eq_true', Bool.not_eq_false', Bool.not_eq_true, Bool.not_eq_false, Bool.and_eq_true, Bool.or_eq_false_iff, Bool.not_not] at hc) <;> (try (exfalso; omega)))
  all_goals
    repeat (first | refine g_ret ?_ | refine q_sr ?_ | refine q_br ?_ | refine q_lr ?_ | refine q_cr ?_)
    refine ends_id ?_
    exact endK [] (h2 := (by first | (with_reducible exact SVLe.refl) | exact SVLe.any | exact SVLe.one (.sh rfl) | exact SVLe.one (.nil (by decide)) | (refine SVLe.agg ?_; repeat (first | exact CsLe.nil | refine CsLe.cons ?_ ?_ | exact CLe.refl | exact CLe.sh rfl | exact CLe.nil (by decide) | (refine cle_i ?_; (simp [*])) | (refine cle_b ?_; (simp [*])))) | (refine SVLe.tup ?_; repeat (first | exact TLe.nil | refine TLe.cons ?_ ?_ | exact CsLe.nil | refine CsLe.cons ?_ ?_ | exact CLe.refl | exact CLe.sh rfl | exact CLe.nil (by decide) | (refine cle_i ?_; (simp [*])) | (refine cle_b ?_; (simp [*])))) | exact SVLe.refl | (refine sle_i ?_; (simp [*])) | (refine sle_b ?_; (simp [*])))) (h3 := (by repeat (first | exact trivial | refine And.intro ?_ ?_ | exact Or.inl rfl | exact Or.inr rfl | (refine Or.inr (row_eq ?_); (simp [*])) | (refine Or.inr (bx_eq rfl rfl ?_); (try dsimp only [C.ren, C.ren.all]); (simp [*])))))
/-- The code for a machine, a configuration and a budget. -/
@[irreducible] def askC (m : Mach) (c : Conf) (b : Int) : Int := if vMach m = true ∧ vConf m c = true then if 1 ≤ b ∧ b ≤ 20000 then 0 else 2 else 1
theorem runCode_ok (m : Mach) (c : Conf) (b : Int) (hm : (m.ru.length : Int) ≤ 16777216) (hx : (c.le.length : Int) ≤ 16777216) (hy : (c.ri.length : Int) ≤ 16777216) : Does Try.prog 61 [.agg (maC m), .agg (coC c), .one (int b)] [] (.one (int (askC m c b))) [] := by
  refine does_of (k := 0) Try.func61 rfl Try.ntmps61 rfl rfl fun w F0 S0 ρ0 => ?_
  dsimp only [argT, argH]
  repeat' first
    | refine g_seq ?_
    | refine g_skip ?_
    | refine g_exit ?_
    | refine g_block ?_
    | refine g_reg ?_
    | refine g_if_t rfl ?_
    | refine g_if_f rfl ?_
    | refine o_nil ?_
    | refine q_s ?_
    | refine q_se ?_
    | refine q_b ?_
    | refine q_be rfl ?_
    | refine q_bn rfl ?_
    | refine q_le ?_
    | refine q_ce ?_
    | (apply n3; (first | exact a_new (gb := .bx _) rfl); exact rfl; (try dsimp only [List.map_cons, List.map_nil, scC, Nat.reduceAdd]))
    | (apply p3; (first | exact a_pure (sv := .one _) rfl | exact a_pure (sv := .agg _) rfl | exact a_ld_rowI rfl rfl rfl (fC rfl) bnd | exact a_pure (sv := .tup _) rfl); exact rfl)
    | (apply c4 0; exact callK1 (θ := []) (hD := (ValidConfig_ok _ _ preB3 preB3 preB3)); exact rfl; exact rfl; exact rfl; (try dsimp only [SV.ren, C.ren, C.ren.all, tRen, GB.ren, calF, upOf, List.cons_append, List.nil_append, Nat.reduceAdd]))
    | (apply c4 0; exact callK1 (θ := []) (hD := (budgetOk_ok _)); exact rfl; exact rfl; exact rfl; (try dsimp only [SV.ren, C.ren, C.ren.all, tRen, GB.ren, calF, upOf, List.cons_append, List.nil_append, Nat.reduceAdd]))
    | (refine o_gs rfl rfl (fun hc => ?_) (fun hc => ?_) <;> (try simp only [decide_eq_true_eq, decide_eq_false_iff_not, Bool.not_eq_true', Bool.not_eq_false', Bool.not_eq_true, Bool.not_eq_false, Bool.and_eq_true, Bool.or_eq_false_iff, Bool.not_not] at hc) <;> (try (exfalso; omega)))
    | (refine g_cond rfl (fun hc => ?_) (fun hc => ?_) <;> (try simp only [decide_eq_true_eq, decide_eq_false_iff_not, Bool.not_eq_true', Bool.not_eq_false', Bool.not_eq_true, Bool.not_eq_false, Bool.and_eq_true, Bool.or_eq_false_iff, Bool.not_not] at hc) <;> (try (exfalso; omega)))
  all_goals
    repeat (first | refine g_ret ?_ | refine q_sr ?_ | refine q_br ?_ | refine q_lr ?_ | refine q_cr ?_)
    refine ends_id ?_
    exact endK [] (h2 := (by first | (with_reducible exact SVLe.refl) | exact SVLe.any | exact SVLe.one (.sh rfl) | exact SVLe.one (.nil (by decide)) | (refine SVLe.agg ?_; repeat (first | exact CsLe.nil | refine CsLe.cons ?_ ?_ | exact CLe.refl | exact CLe.sh rfl | exact CLe.nil (by decide) | (refine cle_i ?_; (unfold askC; simp_all)) | (refine cle_b ?_; (unfold askC; simp_all)))) | (refine SVLe.tup ?_; repeat (first | exact TLe.nil | refine TLe.cons ?_ ?_ | exact CsLe.nil | refine CsLe.cons ?_ ?_ | exact CLe.refl | exact CLe.sh rfl | exact CLe.nil (by decide) | (refine cle_i ?_; (unfold askC; simp_all)) | (refine cle_b ?_; (unfold askC; simp_all)))) | exact SVLe.refl | (refine sle_i ?_; (unfold askC; simp_all)) | (refine sle_b ?_; (unfold askC; simp_all)))) (h3 := (by repeat (first | exact trivial | refine And.intro ?_ ?_ | exact Or.inl rfl | exact Or.inr rfl | (refine Or.inr (row_eq ?_); (unfold askC; simp_all)) | (refine Or.inr (bx_eq rfl rfl ?_); (try dsimp only [C.ren, C.ren.all]); (unfold askC; simp_all)))))
theorem l20Ask_ok (m : Mach) (c : Conf) (b : Int) (hm : (m.ru.length : Int) ≤ 16777216) (hx : (c.le.length : Int) ≤ 16777216) (hy : (c.ri.length : Int) ≤ 16777216) : Does Try.prog 58 [.one (maB m), .one (coB c), .one (int b)] [] (.one (int (askC m c b))) [] := by
  refine does_of (k := 0) Try.func58 rfl Try.ntmps58 rfl rfl fun w F0 S0 ρ0 => ?_
  dsimp only [argT, argH]
  repeat' first
    | refine g_seq ?_
    | refine g_skip ?_
    | refine g_exit ?_
    | refine g_block ?_
    | refine g_reg ?_
    | refine g_if_t rfl ?_
    | refine g_if_f rfl ?_
    | refine o_nil ?_
    | refine q_s ?_
    | refine q_se ?_
    | refine q_b ?_
    | refine q_be rfl ?_
    | refine q_bn rfl ?_
    | refine q_le ?_
    | refine q_ce ?_
    | (apply p3; (first | exact a_pure (sv := .one _) rfl | exact a_pure (sv := .agg _) rfl | exact a_pure (sv := .tup _) rfl); exact rfl)
    | (apply c4 0; exact callK1 (θ := []) (hD := (l05Is_ok _ preB3)); exact rfl; exact rfl; exact rfl; (try dsimp only [SV.ren, C.ren, C.ren.all, tRen, GB.ren, calF, upOf, List.cons_append, List.nil_append, Nat.reduceAdd]))
    | (apply c4 0; exact callK1 (θ := []) (hD := (l05Good_ok _ _ preB3 preB3 preB3 preB3 preB3 preB3)); exact rfl; exact rfl; exact rfl; (try dsimp only [SV.ren, C.ren, C.ren.all, tRen, GB.ren, calF, upOf, List.cons_append, List.nil_append, Nat.reduceAdd]))
    | (apply c4 0; exact callK1 (θ := []) (hD := (l05Budget_ok _)); exact rfl; exact rfl; exact rfl; (try dsimp only [SV.ren, C.ren, C.ren.all, tRen, GB.ren, calF, upOf, List.cons_append, List.nil_append, Nat.reduceAdd]))
    | refine o_no rfl rfl rfl rfl ?_
    | refine o_noN rfl rfl rfl ?_
    | (apply py3; exact rfl; exact rfl; (first | exact a_pure (sv := .one _) rfl | exact a_pure (sv := .agg _) rfl | exact a_pure (sv := .tup _) rfl); exact rfl; exact rfl)
    | (apply cy4 0; exact rfl; exact rfl; exact callK1 (θ := []) (hD := (l05Is_ok _ preB3)); exact rfl; exact rfl; exact rfl; exact rfl; (try dsimp only [SV.ren, C.ren, C.ren.all, tRen, GB.ren, calF, upOf, List.cons_append, List.nil_append, Nat.reduceAdd]))
    | (apply cy4 0; exact rfl; exact rfl; exact callK1 (θ := []) (hD := (l05Good_ok _ _ preB3 preB3 preB3 preB3 preB3 preB3)); exact rfl; exact rfl; exact rfl; exact rfl; (try dsimp only [SV.ren, C.ren, C.ren.all, tRen, GB.ren, calF, upOf, List.cons_append, List.nil_append, Nat.reduceAdd]))
    | (apply cy4 0; exact rfl; exact rfl; exact callK1 (θ := []) (hD := (l05Budget_ok _)); exact rfl; exact rfl; exact rfl; exact rfl; (try dsimp only [SV.ren, C.ren, C.ren.all, tRen, GB.ren, calF, upOf, List.cons_append, List.nil_append, Nat.reduceAdd]))
    | (refine o_gs rfl rfl (fun hc => ?_) (fun hc => ?_) <;> (try simp only [decide_eq_true_eq, decide_eq_false_iff_not, Bool.not_eq_true', Bool.not_eq_false', Bool.not_eq_true, Bool.not_eq_false, Bool.and_eq_true, Bool.or_eq_false_iff, Bool.not_not] at hc) <;> (try (exfalso; omega)))
    | (refine g_cond rfl (fun hc => ?_) (fun hc => ?_) <;> (try simp only [decide_eq_true_eq, decide_eq_false_iff_not, Bool.not_eq_true', Bool.not_eq_false', Bool.not_eq_true, Bool.not_eq_false, Bool.and_eq_true, Bool.or_eq_false_iff, Bool.not_not] at hc) <;> (try (exfalso; omega)))
  all_goals
    repeat (first | refine g_ret ?_ | refine q_sr ?_ | refine q_br ?_ | refine q_lr ?_ | refine q_cr ?_)
    refine ends_id ?_
    exact endK [] (h2 := (by first | (with_reducible exact SVLe.refl) | exact SVLe.any | exact SVLe.one (.sh rfl) | exact SVLe.one (.nil (by decide)) | (refine SVLe.agg ?_; repeat (first | exact CsLe.nil | refine CsLe.cons ?_ ?_ | exact CLe.refl | exact CLe.sh rfl | exact CLe.nil (by decide) | (refine cle_i ?_; (unfold askC; simp_all)) | (refine cle_b ?_; (unfold askC; simp_all)))) | (refine SVLe.tup ?_; repeat (first | exact TLe.nil | refine TLe.cons ?_ ?_ | exact CsLe.nil | refine CsLe.cons ?_ ?_ | exact CLe.refl | exact CLe.sh rfl | exact CLe.nil (by decide) | (refine cle_i ?_; (unfold askC; simp_all)) | (refine cle_b ?_; (unfold askC; simp_all)))) | exact SVLe.refl | (refine sle_i ?_; (unfold askC; simp_all)) | (refine sle_b ?_; (unfold askC; simp_all)))) (h3 := (by repeat (first | exact trivial | refine And.intro ?_ ?_ | exact Or.inl rfl | exact Or.inr rfl | (refine Or.inr (row_eq ?_); (unfold askC; simp_all)) | (refine Or.inr (bx_eq rfl rfl ?_); (try dsimp only [C.ren, C.ren.all]); (unfold askC; simp_all)))))
end Go.Proofs.Ytncccjpbaeaafaa
