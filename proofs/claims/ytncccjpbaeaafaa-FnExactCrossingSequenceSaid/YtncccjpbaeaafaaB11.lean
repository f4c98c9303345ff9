/- The crossings of a run: the reference's and the program's. -/
import Derived.Test.YtncccjpbaeaafaaB10
set_option linter.unusedVariables false
set_option linter.unusedSimpArgs false
set_option maxRecDepth 100000
set_option maxHeartbeats 4000000
namespace Go.Proofs.Ytncccjpbaeaafaa
open Go Foot
@[irreducible] def crS (at' : Int) (c : Conf) (hd : Int) (u : Rule') (l : List Int) : List Int := if min hd (hd + u.m) = at' - 1 then l ++ [u.n] else l
abbrev crC (c : Conf) (hd : Int) (l : List Int) : List Int := l
abbrev crBx (at' : Int) (k : Nat) : GB := .bx [int at', .gv k]
theorem crS_len (at' : Int) (c : Conf) (hd : Int) (u : Rule') (l : List Int) : ((crS at' c hd u l).length : Int) ≤ l.length + 1 := by
  unfold crS
  split
  · simp
  · omega
--PRE (exact (ruAt_ok (by assumption) (by assumption) (by assumption)).2.1)
theorem preB11 {p : Prop} (h : p := by first | with_reducible assumption | omega | (simp only [List.length_append, List.length_cons, List.length_nil, List.length_set, List.length_replicate, List.length_take, List.length_drop, List.length_tail, List.length_dropLast, List.length_reverse] at *; omega) | (with_reducible refine Int.le_trans (Int.ofNat_le.2 (trimR_len _)) ?_; simp only [List.length_cons, List.length_tail]; omega) | exact (ask_ok (by assumption)).1 | exact (ask_ok (by assumption)).2.1 | exact (ask_ok (by assumption)).2.2.1 | exact (ask_ok (by assumption)).2.2.2 | (have := vMach_bd (by assumption); omega) | (with_reducible refine Int.le_trans (Int.ofNat_le.2 (pushL_len _ _)) ?_; simp only [List.length_dropLast]; omega) | (simp only [mC_ch, mC_tu]; omega) | (exact (ruAt_ok (by assumption) (by assumption) (by assumption)).2.1) | trivial) : p := h
theorem crconfig_ok (at' : Int) (l : List Int) (m : Mach) (c : Conf) (hd : Int) : Does Try.prog 185 [.one (.gv 0), .one (ruD m c.st c.le.reverse c.ri.reverse), .one (int hd)] [crBx at' 1, roI l] .any [crBx at' 1, roI l] := by
  refine does_of (k := 2) Try.func185 rfl Try.ntmps185 rfl rfl fun w F0 S0 ρ0 => ?_
  dsimp only [argT, argH]
  repeat' first
    | refine g_seq ?_
    | refine g_skip ?_
    | refine g_exit ?_
    | refine g_block ?_
    | refine g_reg ?_
    | refine g_if_t rfl ?_
    | refine g_if_f rfl ?_
    | refine o_nil ?_
    | refine q_s ?_
    | refine q_se ?_
    | refine q_b ?_
    | refine q_be rfl ?_
    | refine q_bn rfl ?_
    | refine q_le ?_
    | refine q_ce ?_
    | (refine o_gs rfl rfl (fun hc => ?_) (fun hc => ?_) <;> (try simp only [decide_eq_true_eq, decide_eq_false_iff_not, Bool.not_eq_true', Bool.not_eq_false', Bool.not_eq_true, Bool.not_eq_false, Bool.and_eq_true, Bool.or_eq_false_iff, Bool.not_not] at hc) <;> (try (exfalso; omega)))
    | (refine g_cond rfl (fun hc => ?_) (fun hc => ?_) <;> (try simp only [decide_eq_true_eq, decide_eq_false_iff_not, Bool.not_eq_true', Bool.not_eq_false', Bool.not_eq_true, Bool.not_eq_false, Bool.and_eq_true, Bool.or_eq_false_iff, Bool.not_not] at hc) <;> (try (exfalso; omega)))
  repeat (first | refine g_ret ?_ | refine q_sr ?_ | refine q_br ?_ | refine q_lr ?_ | refine q_cr ?_)
  refine ends_id ?_
  exact endK [] (h2 := (by first | (with_reducible exact SVLe.refl) | exact SVLe.any | exact SVLe.one (.sh rfl) | exact SVLe.one (.nil (by decide)) | (refine SVLe.agg ?_; repeat (first | exact CsLe.nil | refine CsLe.cons ?_ ?_ | exact CLe.refl | exact CLe.sh rfl | exact CLe.nil (by decide) | (refine cle_i ?_; rfl) | (refine cle_b ?_; rfl))) | (refine SVLe.tup ?_; repeat (first | exact TLe.nil | refine TLe.cons ?_ ?_ | exact CsLe.nil | refine CsLe.cons ?_ ?_ | exact CLe.refl | exact CLe.sh rfl | exact CLe.nil (by decide) | (refine cle_i ?_; rfl) | (refine cle_b ?_; rfl))) | exact SVLe.refl | (refine sle_i ?_; rfl) | (refine sle_b ?_; rfl))) (h3 := (by repeat (first | exact trivial | refine And.intro ?_ ?_ | exact Or.inl rfl | exact Or.inr rfl | (refine Or.inr (row_eq ?_); rfl) | (refine Or.inr (bx_eq rfl rfl ?_); (try dsimp only [C.ren, C.ren.all]); rfl))))
theorem crstep_ok (at' : Int) (l : List Int) (m : Mach) (c : Conf) (hd : Int) (u : Rule') (h1 : -100000 ≤ at') (h2 : at' ≤ 100000) (h3 : -100000 ≤ hd) (h4 : hd ≤ 100000) (h5 : u.m = 1 ∨ u.m = -1) (hl : (l.length : Int) ≤ 100000) : Does Try.prog 186 [.one (.gv 0), .one (ruD m c.st c.le.reverse c.ri.reverse), .one (int hd), .agg (ruC u)] [crBx at' 1, roI l] .any [crBx at' 2, .dead, roI (crS at' c hd u l)] := by
  refine does_of (k := 2) Try.func186 rfl Try.ntmps186 rfl rfl fun w F0 S0 ρ0 => ?_
  dsimp only [argT, argH]
  repeat' first
    | refine g_seq ?_
    | refine g_skip ?_
    | refine g_exit ?_
    | refine g_block ?_
    | refine g_reg ?_
    | refine g_if_t rfl ?_
    | refine g_if_f rfl ?_
    | refine o_nil ?_
    | refine q_s ?_
    | refine q_se ?_
    | refine q_b ?_
    | refine q_be rfl ?_
    | refine q_bn rfl ?_
    | refine q_le ?_
    | refine q_ce ?_
    | (apply n3; (first | exact a_new (gb := .bx _) rfl); exact rfl; (try dsimp only [List.map_cons, List.map_nil, scC, Nat.reduceAdd]))
    | (apply g_drN okM [[], [], [], [2], [1, 2, 3], [0, 1, 2, 3, 4], [], [6], [6, 7], [6, 7, 8], [6, 7, 8, 9], [0, 1, 2, 3, 4, 5, 6, 7, 8, 9, 10]] [([], []), ([], []), ([], []), ([], []), ([], []), ([], []), ([], []), ([], []), ([], []), ([], []), ([], []), ([], [])] 0; (focus (all_goals (apply d_pN (i := 0) (fs := []) (u := [9, 10, 11, 12, 14, 15, 16, 17, 18]) (o := []); (first | exact a_pure (sv := .one _) rfl | exact a_pure (sv := .agg _) rfl | exact a_pure (sv := .tup _) rfl); exact rfl; kernel_rfl; kernel_rfl; kernel_rfl; exact rfl; exact rfl); all_goals (apply d_pN (i := 1) (fs := [false]) (u := [8, 10, 11, 14, 15, 16, 17, 18]) (o := []); (first | exact a_pure (sv := .one _) rfl | exact a_pure (sv := .agg _) rfl | exact a_pure (sv := .tup _) rfl); exact rfl; kernel_rfl; kernel_rfl; kernel_rfl; exact rfl; exact rfl); all_goals (apply d_pN (i := 2) (fs := [false, false]) (u := [8, 9, 14, 15, 16, 17, 18]) (o := []); (first | exact a_pure (sv := .one _) rfl); exact rfl; kernel_rfl; kernel_rfl; kernel_rfl; exact rfl; exact rfl); all_goals (apply d_pN (i := 3) (fs := [true, false, false]) (u := [8, 9, 14, 15, 16, 17, 18]) (o := []); (first | exact a_pure (sv := .one _) rfl | exact a_pure (sv := .agg _) rfl | exact a_ld_rowI rfl rfl rfl (fC rfl) bnd); exact rfl; kernel_rfl; kernel_rfl; kernel_rfl; exact rfl; exact rfl); all_goals (apply d_pN (i := 4) (fs := [true, true, true, false]) (u := [8, 14, 15, 16, 17, 18]) (o := []); (first | exact a_add rfl rfl (by omega) (by omega)); exact rfl; kernel_rfl; kernel_rfl; kernel_rfl; exact rfl; exact rfl); all_goals (apply d_pN (i := 5) (fs := [true, true, true, true, true]) (u := [14, 15, 16, 17, 18]) (o := []); (first | exact a_min rfl rfl); exact rfl; kernel_rfl; kernel_rfl; kernel_rfl; exact rfl; exact rfl); all_goals (apply d_pN (i := 6) (fs := [false, false, false, false, false, false]) (u := [8, 9, 10, 11, 12, 13]) (o := []); (first | exact a_pure (sv := .one _) rfl | exact a_pure (sv := .agg _) rfl | exact a_pure (sv := .tup _) rfl); exact rfl; kernel_rfl; kernel_rfl; kernel_rfl; exact rfl; exact rfl); all_goals (apply d_pN (i := 7) (fs := [true, false, false, false, false, false, false]) (u := [8, 9, 10, 11, 12, 13]) (o := []); (first | exact a_pure (sv := .one _) rfl); exact rfl; kernel_rfl; kernel_rfl; kernel_rfl; exact rfl; exact rfl); all_goals (apply d_pN (i := 8) (fs := [true, true, false, false, false, false, false, false]) (u := [8, 9, 10, 11, 12, 13]) (o := []); (first | exact a_pure (sv := .one _) rfl); exact rfl; kernel_rfl; kernel_rfl; kernel_rfl; exact rfl; exact rfl); all_goals (apply d_pN (i := 9) (fs := [true, true, true, false, false, false, false, false, false]) (u := [8, 9, 10, 11, 12, 13]) (o := []); (first | exact a_pure (sv := .one _) rfl | exact a_pure (sv := .agg _) rfl | exact a_ld_rowI rfl rfl rfl (fC rfl) bnd); exact rfl; kernel_rfl; kernel_rfl; kernel_rfl; exact rfl; exact rfl); all_goals (apply d_pN (i := 10) (fs := [true, true, true, true, false, false, false, false, false, false]) (u := [8, 9, 10, 11, 12, 13]) (o := []); (first | exact a_sub rfl rfl (by omega) (by omega)); exact rfl; kernel_rfl; kernel_rfl; kernel_rfl; exact rfl; exact rfl); all_goals (apply d_pN (i := 11) (fs := [true, true, true, true, true, true, true, true, true, true, true]) (u := []) (o := []); (first | exact a_cmp rfl rfl rfl trivial rfl | exact a_eqS rfl rfl rfl); exact rfl; kernel_rfl; kernel_rfl; kernel_rfl; exact rfl; exact rfl); all_goals (refine d_nil ?_; dsimp only [selT, selH, trues, SV.ren, C.ren, C.ren.all, tRen, GB.ren, calF, upOf, List.cons_append, List.nil_append, Nat.reduceAdd, setRow, List.map_cons, List.map_nil, scC, List.set_cons_zero, List.set_cons_succ, List.take_succ_cons, List.take_zero, List.drop_succ_cons, List.drop_zero]))); any_goals kernel_rfl)
    | (apply g_drN okM [[], [], [1], [1, 2], [1, 2, 3], [], [5], [5, 6], [1, 2, 3, 4, 5, 6, 7], [0, 1, 2, 3, 4, 5, 6, 7, 8], [0, 1, 2, 3, 4, 5, 6, 7, 8, 9], [0, 1, 2, 3, 4, 5, 6, 7, 8, 9, 10]] [([], []), ([], []), ([], []), ([], []), ([], []), ([], []), ([], []), ([0], []), ([1], [1]), ([], []), ([], []), ([], [0])] 2; (focus (all_goals (apply d_pN (i := 0) (fs := []) (u := [21, 22, 23, 24, 25, 26, 27, 28]) (o := [(true, 0), (true, 1), (false, 1)]); (first | exact a_pure (sv := .one _) rfl | exact a_pure (sv := .agg _) rfl | exact a_pure (sv := .tup _) rfl); exact rfl; kernel_rfl; kernel_rfl; kernel_rfl; exact rfl; exact rfl); all_goals (apply d_pN (i := 1) (fs := [false]) (u := [20, 25, 26, 27]) (o := [(true, 0)]); (first | exact a_pure (sv := .one _) rfl | exact a_pure (sv := .agg _) rfl | exact a_pure (sv := .tup _) rfl); exact rfl; kernel_rfl; kernel_rfl; kernel_rfl; exact rfl; exact rfl); all_goals (apply d_pN (i := 2) (fs := [true, false]) (u := [20, 25, 26, 27]) (o := [(true, 0)]); (first | exact a_pure (sv := .one _) rfl); exact rfl; kernel_rfl; kernel_rfl; kernel_rfl; exact rfl; exact rfl); all_goals (apply d_pN (i := 3) (fs := [true, true, false]) (u := [20, 25, 26, 27]) (o := [(true, 0)]); (first | exact a_pure (sv := .one _) rfl); exact rfl; kernel_rfl; kernel_rfl; kernel_rfl; exact rfl; exact rfl); all_goals (apply d_pN (i := 4) (fs := [true, true, true, false]) (u := [20, 25, 26, 27]) (o := [(true, 0)]); (first | exact a_pure (sv := .one _) rfl | exact a_pure (sv := .agg _) rfl | exact a_ld_rowI rfl rfl rfl (fC rfl) bnd); exact rfl; kernel_rfl; kernel_rfl; kernel_rfl; exact rfl; exact rfl); all_goals (apply d_pN (i := 5) (fs := [false, false, false, false, false]) (u := [20, 21, 22, 23, 24]) (o := []); (first | exact a_pure (sv := .one _) rfl); exact rfl; kernel_rfl; kernel_rfl; kernel_rfl; exact rfl; exact rfl); all_goals (apply d_pN (i := 6) (fs := [true, false, false, false, false, false]) (u := [20, 21, 22, 23, 24]) (o := []); (first | exact a_pure (sv := .one _) rfl | exact a_pure (sv := .agg _) rfl | exact a_ld_rowI rfl rfl rfl (fC rfl) bnd); exact rfl; kernel_rfl; kernel_rfl; kernel_rfl; exact rfl; exact rfl); all_goals (apply d_uE (i := 7) (fs := [true, true, false, false, false, false, false]) (u := [20, 21, 22, 23, 24]) (o := []); (first | exact atN 0 (fun _ => a_litE eI [_] rfl rfl rfl rfl rfl rfl rfl rfl)); exact rfl; kernel_rfl; kernel_rfl; kernel_rfl; exact dst_some rfl; exact rfl; exact rfl); all_goals (apply d_uE (i := 8) (fs := [true, true, true, true, true, true, true, false]) (u := [20]) (o := []); (first | exact atS 1 (fun _ hj => a_appE (fP rfl) rfl rfl rfl rfl nowR (by first | omega | (simp; omega)) (by decide) hj (by exact rfl)) (by decide)); exact rfl; kernel_rfl; kernel_rfl; kernel_rfl; exact dst_some rfl; exact rfl; exact rfl); all_goals (apply d_pN (i := 9) (fs := [true, true, true, true, true, true, true, true, true]) (u := []) (o := []); (first | exact a_pure (sv := .one _) rfl); exact rfl; kernel_rfl; kernel_rfl; kernel_rfl; exact rfl; exact rfl); all_goals (apply d_pN (i := 10) (fs := [true, true, true, true, true, true, true, true, true, true]) (u := []) (o := []); (first | exact a_pure (sv := .one _) rfl); exact rfl; kernel_rfl; kernel_rfl; kernel_rfl; exact rfl; exact rfl); all_goals (apply d_uE (i := 11) (fs := [true, true, true, true, true, true, true, true, true, true, true]) (u := []) (o := []); (first | exact a_st_bx rfl rfl rfl rfl (fN rfl rfl) (Nat.le_of_ble_eq_true rfl) rfl); exact rfl; kernel_rfl; kernel_rfl; kernel_rfl; exact dst_none; exact rfl; exact rfl); all_goals (refine d_nil ?_; dsimp only [selT, selH, trues, SV.ren, C.ren, C.ren.all, tRen, GB.ren, calF, upOf, List.cons_append, List.nil_append, Nat.reduceAdd, setRow, List.map_cons, List.map_nil, scC, List.set_cons_zero, List.set_cons_succ, List.take_succ_cons, List.take_zero, List.drop_succ_cons, List.drop_zero]))); any_goals kernel_rfl)
    | (refine o_gs rfl rfl (fun hc => ?_) (fun hc => ?_) <;> (try simp only [decide_eq_true_eq, decide_eq_false_iff_not, Bool.not_eq_true', Bool.not_eq_false', Bool.not_eq_true, Bool.not_eq_false, Bool.and_eq_true, Bool.or_eq_false_iff, Bool.not_not] at hc) <;> (try (exfalso; omega)))
    | (refine g_cond rfl (fun hc => ?_) (fun hc => ?_) <;> (try simp only [decide_eq_true_eq, decide_eq_false_iff_not, Bool.not_eq_true', Bool.not_eq_false', Bool.not_eq_true, Bool.not_eq_false, Bool.and_eq_true, Bool.or_eq_false_iff, Bool.not_not] at hc) <;> (try (exfalso; omega)))
  · repeat (first | refine g_ret ?_ | refine q_sr ?_ | refine q_br ?_ | refine q_lr ?_ | refine q_cr ?_)
    refine ends_id ?_
    exact endK [_] (h2 := (by first | (with_reducible exact SVLe.refl) | exact SVLe.any | exact SVLe.one (.sh rfl) | exact SVLe.one (.nil (by decide)) | (refine SVLe.agg ?_; repeat (first | exact CsLe.nil | refine CsLe.cons ?_ ?_ | exact CLe.refl | exact CLe.sh rfl | exact CLe.nil (by decide) | (refine cle_i ?_; (unfold crS; rw [if_pos (by omega)])) | (refine cle_b ?_; (unfold crS; rw [if_pos (by omega)])))) | (refine SVLe.tup ?_; repeat (first | exact TLe.nil | refine TLe.cons ?_ ?_ | exact CsLe.nil | refine CsLe.cons ?_ ?_ | exact CLe.refl | exact CLe.sh rfl | exact CLe.nil (by decide) | (refine cle_i ?_; (unfold crS; rw [if_pos (by omega)])) | (refine cle_b ?_; (unfold crS; rw [if_pos (by omega)])))) | exact SVLe.refl | (refine sle_i ?_; (unfold crS; rw [if_pos (by omega)])) | (refine sle_b ?_; (unfold crS; rw [if_pos (by omega)])))) (h3 := (by repeat (first | exact trivial | refine And.intro ?_ ?_ | exact Or.inl rfl | exact Or.inr rfl | (refine Or.inr (row_eq ?_); (unfold crS; rw [if_pos (by omega)])) | (refine Or.inr (bx_eq rfl rfl ?_); (try dsimp only [C.ren, C.ren.all]); (unfold crS; rw [if_pos (by omega)])))))
  · repeat (first | refine g_ret ?_ | refine q_sr ?_ | refine q_br ?_ | refine q_lr ?_ | refine q_cr ?_)
    refine ends_id ?_
    exact endK [_] (h2 := (by first | (with_reducible exact SVLe.refl) | exact SVLe.any | exact SVLe.one (.sh rfl) | exact SVLe.one (.nil (by decide)) | (refine SVLe.agg ?_; repeat (first | exact CsLe.nil | refine CsLe.cons ?_ ?_ | exact CLe.refl | exact CLe.sh rfl | exact CLe.nil (by decide) | (refine cle_i ?_; (unfold crS; rw [if_neg (by omega)])) | (refine cle_b ?_; (unfold crS; rw [if_neg (by omega)])))) | (refine SVLe.tup ?_; repeat (first | exact TLe.nil | refine TLe.cons ?_ ?_ | exact CsLe.nil | refine CsLe.cons ?_ ?_ | exact CLe.refl | exact CLe.sh rfl | exact CLe.nil (by decide) | (refine cle_i ?_; (unfold crS; rw [if_neg (by omega)])) | (refine cle_b ?_; (unfold crS; rw [if_neg (by omega)])))) | exact SVLe.refl | (refine sle_i ?_; (unfold crS; rw [if_neg (by omega)])) | (refine sle_b ?_; (unfold crS; rw [if_neg (by omega)])))) (h3 := (by repeat (first | exact trivial | refine And.intro ?_ ?_ | exact Or.inl rfl | exact Or.inr rfl | (refine Or.inr (row_eq ?_); (unfold crS; rw [if_neg (by omega)])) | (refine Or.inr (bx_eq rfl rfl ?_); (try dsimp only [C.ren, C.ren.all]); (unfold crS; rw [if_neg (by omega)])))))
theorem followX_ok (m : Mach) (c : Conf) (at' b : Int) (h1 : -100000 ≤ at') (h2 : at' ≤ 100000) (hm : vMach m = true) (hc : vConf m c = true) (hb : 1 ≤ b) (hb2 : b ≤ 20000) (O : Out (List Int)) (hO : runG m crC (crS at') b.toNat 0 c 0 [] = O) : Does Try.prog 53 [.agg (maC m), .agg (coC c), .one (int b), .one (.ifc 107 false [.gv 0])] [crBx at' 1, roI []] (.tup [(false, [int (if O.full then 0 else O.n)]), (false, [boo O.halts]), (false, [int (if O.full then 5 else 0)])]) [crBx at' 2, .dead, roI O.x] := by
  have hbd := at_bd hm hc
  refine does_of (k := 2) Try.func53 rfl Try.ntmps53 rfl rfl fun w F0 S0 ρ0 => ?_
  dsimp only [argT, argH]
  repeat' first
    | refine g_seq ?_
    | refine g_skip ?_
    | refine g_exit ?_
    | refine g_block ?_
    | refine g_reg ?_
    | refine g_if_t rfl ?_
    | refine g_if_f rfl ?_
    | refine o_nil ?_
    | refine q_s ?_
    | refine q_se ?_
    | refine q_b ?_
    | refine q_be rfl ?_
    | refine q_bn rfl ?_
    | refine q_le ?_
    | refine q_ce ?_
    | (apply n3; (first | exact a_new (gb := .bx _) rfl); exact rfl; (try dsimp only [List.map_cons, List.map_nil, scC, Nat.reduceAdd]))
    | (apply p3; (first | exact a_pure (sv := .one _) rfl | exact a_pure (sv := .agg _) rfl | exact a_ld_rowI rfl rfl rfl (fC rfl) bnd | exact a_pure (sv := .tup _) rfl | exact a_cmp rfl rfl rfl trivial rfl | exact a_eqS rfl rfl rfl | exact a_add rfl rfl (by omega) (by omega)); exact rfl)
    | (apply w3; (first | exact a_st_bx rfl rfl rfl rfl (fN rfl rfl) (Nat.le_of_ble_eq_true rfl) rfl | exact a_stE (E := eR) ⟨_, _, _⟩ rfl rfl rfl rfl (fN rfl rfl) bnd (by exact rfl)); exact rfl; (try dsimp only [setRow, List.map_cons, List.map_nil, scC, List.set_cons_zero, List.set_cons_succ, List.take_succ_cons, List.take_zero, List.drop_succ_cons, List.drop_zero, Nat.reduceAdd]))
    | (apply c4 3; exact callK0 (θ := []) (hD := (runnerOf_ok _ _ preB11 preB11)); exact rfl; exact rfl; exact rfl; (try dsimp only [SV.ren, C.ren, C.ren.all, tRen, GB.ren, calF, upOf, List.cons_append, List.nil_append, Nat.reduceAdd]))
    | (apply c4 0; exact callM (θ := [0, 7]) (hD := (crconfig_ok _ _ _ _ _)); exact rfl; exact rfl; exact rfl; (try dsimp only [SV.ren, C.ren, C.ren.all, tRen, GB.ren, calF, upOf, List.cons_append, List.nil_append, Nat.reduceAdd]))
    | (apply c4 0; exact callK1 (θ := []) (hD := (haltsC_ok _ _ preB11 preB11)); exact rfl; exact rfl; exact rfl; (try dsimp only [SV.ren, C.ren, C.ren.all, tRen, GB.ren, calF, upOf, List.cons_append, List.nil_append, Nat.reduceAdd]))
    | (apply c4 0; exact callK1 (θ := []) (hD := (ruleC_ok _ _ preB11 preB11)); exact rfl; exact rfl; exact rfl; (try dsimp only [SV.ren, C.ren, C.ren.all, tRen, GB.ren, calF, upOf, List.cons_append, List.nil_append, Nat.reduceAdd]))
    | (apply c4 1; exact callM (θ := [0, 7]) (hD := (crstep_ok _ _ _ _ _ _ preB11 preB11 preB11 preB11 preB11 preB11)); exact rfl; exact rfl; exact rfl; (try dsimp only [SV.ren, C.ren, C.ren.all, tRen, GB.ren, calF, upOf, List.cons_append, List.nil_append, Nat.reduceAdd]))
    | (apply c4 2; exact callK0 (θ := [_, _, _]) (hD := (stepC_ok _ _ preB11 preB11)); exact rfl; exact rfl; exact rfl; (try dsimp only [SV.ren, C.ren, C.ren.all, tRen, GB.ren, calF, upOf, List.cons_append, List.nil_append, Nat.reduceAdd]))
    | refine o_no rfl rfl rfl rfl ?_
    | refine o_noN rfl rfl rfl ?_
    | (apply py3; exact rfl; exact rfl; (first | exact a_pure (sv := .one _) rfl | exact a_pure (sv := .agg _) rfl | exact a_ld_rowI rfl rfl rfl (fC rfl) bnd | exact a_pure (sv := .tup _) rfl | exact a_cmp rfl rfl rfl trivial rfl | exact a_eqS rfl rfl rfl | exact a_add rfl rfl (by omega) (by omega)); exact rfl; exact rfl)
    | (apply ny3; exact rfl; exact rfl; (first | exact a_new (gb := .bx _) rfl); exact rfl; exact rfl)
    | (apply cy4 3; exact rfl; exact rfl; exact callK0 (θ := []) (hD := (runnerOf_ok _ _ preB11 preB11)); exact rfl; exact rfl; exact rfl; exact rfl; (try dsimp only [SV.ren, C.ren, C.ren.all, tRen, GB.ren, calF, upOf, List.cons_append, List.nil_append, Nat.reduceAdd]))
    | (apply cy4 0; exact rfl; exact rfl; exact callM (θ := [0, 7]) (hD := (crconfig_ok _ _ _ _ _)); exact rfl; exact rfl; exact rfl; exact rfl; (try dsimp only [SV.ren, C.ren, C.ren.all, tRen, GB.ren, calF, upOf, List.cons_append, List.nil_append, Nat.reduceAdd]))
    | (apply cy4 0; exact rfl; exact rfl; exact callK1 (θ := []) (hD := (haltsC_ok _ _ preB11 preB11)); exact rfl; exact rfl; exact rfl; exact rfl; (try dsimp only [SV.ren, C.ren, C.ren.all, tRen, GB.ren, calF, upOf, List.cons_append, List.nil_append, Nat.reduceAdd]))
    | (apply cy4 0; exact rfl; exact rfl; exact callK1 (θ := []) (hD := (ruleC_ok _ _ preB11 preB11)); exact rfl; exact rfl; exact rfl; exact rfl; (try dsimp only [SV.ren, C.ren, C.ren.all, tRen, GB.ren, calF, upOf, List.cons_append, List.nil_append, Nat.reduceAdd]))
    | (apply cy4 1; exact rfl; exact rfl; exact callM (θ := [0, 7]) (hD := (crstep_ok _ _ _ _ _ _ preB11 preB11 preB11 preB11 preB11 preB11)); exact rfl; exact rfl; exact rfl; exact rfl; (try dsimp only [SV.ren, C.ren, C.ren.all, tRen, GB.ren, calF, upOf, List.cons_append, List.nil_append, Nat.reduceAdd]))
    | (apply cy4 2; exact rfl; exact rfl; exact callK0 (θ := [_, _, _]) (hD := (stepC_ok _ _ preB11 preB11)); exact rfl; exact rfl; exact rfl; exact rfl; (try dsimp only [SV.ren, C.ren, C.ren.all, tRen, GB.ren, calF, upOf, List.cons_append, List.nil_append, Nat.reduceAdd]))
    | (refine o_gs rfl rfl (fun hc => ?_) (fun hc => ?_) <;> (try simp only [decide_eq_true_eq, decide_eq_false_iff_not, Bool.not_eq_true', Bool.not_eq_false', Bool.not_eq_true, Bool.not_eq_false, Bool.and_eq_true, Bool.or_eq_false_iff, Bool.not_not] at hc) <;> (try (exfalso; omega)))
    | (refine g_cond rfl (fun hc => ?_) (fun hc => ?_) <;> (try simp only [decide_eq_true_eq, decide_eq_false_iff_not, Bool.not_eq_true', Bool.not_eq_false', Bool.not_eq_true, Bool.not_eq_false, Bool.and_eq_true, Bool.or_eq_false_iff, Bool.not_not] at hc) <;> (try (exfalso; omega)))
  refine g_conv (t_mvB (i := 1) (j := 0) (k := 1) rfl rfl rfl rfl rfl rfl) ?_
  try dsimp only [setRow, List.map_cons, List.map_nil, scC, List.set_cons_zero, List.set_cons_succ]
  refine g_loop_id ?_
  refine loopK [2, 3, 8, 9, 10, 11] [0, 4, 5, 6, 7] (fun y : Int × Conf × Int × List Int => 0 ≤ y.1 ∧ y.1 ≤ b ∧ vConf m y.2.1 = true ∧ -y.1 ≤ y.2.2.1 ∧ y.2.2.1 ≤ y.1 ∧ (y.2.2.2.length : Int) ≤ y.1 ∧ runG m crC (crS at') (b - y.1).toNat y.1 y.2.1 y.2.2.1 y.2.2.2 = O) (fun y => [(13, .one (int y.1)), (12, .one (int y.2.2.1))]) (fun y => [(4, ruBx m y.2.1.st 5 6), (5, roI y.2.1.le.reverse), (6, roI y.2.1.ri.reverse), (0, crBx at' 7), (7, roI y.2.2.2)]) (fun y => (b - y.1).toNat) ((0 : Int), c, (0 : Int), []) [0, 1, 2, 3, 4, 5, 6, 7] (hI := ?_) (hr := ?_)
  · exact ⟨by simp, by dsimp only; omega, hc, by simp, by simp, by simp, by rw [← hO]; congr 1; dsimp only; omega⟩
  · rintro ⟨n, c, hd, x⟩ ⟨i1, i2, i3, i4, i5, i6, i10⟩
    dsimp only [List.cons_append, List.nil_append] at *
    skip
    have hbd := at_bd hm i3; have hok := ruAt_ok hm i3
    repeat' first
      | refine g_seq ?_
      | refine g_skip ?_
      | refine g_exit ?_
      | refine g_block ?_
      | refine g_reg ?_
      | refine g_if_t rfl ?_
      | refine g_if_f rfl ?_
      | refine o_nil ?_
      | refine q_s ?_
      | refine q_se ?_
      | refine q_b ?_
      | refine q_be rfl ?_
      | refine q_bn rfl ?_
      | refine q_le ?_
      | refine q_ce ?_
      | (apply n3; (first | exact a_new (gb := .bx _) rfl); exact rfl; (try dsimp only [List.map_cons, List.map_nil, scC, Nat.reduceAdd]))
      | (apply p3; (first | exact a_pure (sv := .one _) rfl | exact a_pure (sv := .agg _) rfl | exact a_pure (sv := .tup _) rfl | exact a_cmp rfl rfl rfl trivial rfl | exact a_eqS rfl rfl rfl | exact a_ld_rowI rfl rfl rfl (fC rfl) bnd | exact a_add rfl rfl (by omega) (by omega)); exact rfl)
      | (apply w3; (first | exact a_st_bx rfl rfl rfl rfl (fN rfl rfl) (Nat.le_of_ble_eq_true rfl) rfl | exact a_stE (E := eR) ⟨_, _, _⟩ rfl rfl rfl rfl (fN rfl rfl) bnd (by exact rfl)); exact rfl; (try dsimp only [setRow, List.map_cons, List.map_nil, scC, List.set_cons_zero, List.set_cons_succ, List.take_succ_cons, List.take_zero, List.drop_succ_cons, List.drop_zero, Nat.reduceAdd]))
      | (apply c4 0; exact callM (θ := [0, 7]) (hD := (crconfig_ok _ _ _ _ _)); exact rfl; exact rfl; exact rfl; (try dsimp only [SV.ren, C.ren, C.ren.all, tRen, GB.ren, calF, upOf, List.cons_append, List.nil_append, Nat.reduceAdd]))
      | (apply c4 0; exact callK1 (θ := []) (hD := (haltsC_ok _ _ preB11 preB11)); exact rfl; exact rfl; exact rfl; (try dsimp only [SV.ren, C.ren, C.ren.all, tRen, GB.ren, calF, upOf, List.cons_append, List.nil_append, Nat.reduceAdd]))
      | (apply c4 0; exact callK1 (θ := []) (hD := (ruleC_ok _ _ preB11 preB11)); exact rfl; exact rfl; exact rfl; (try dsimp only [SV.ren, C.ren, C.ren.all, tRen, GB.ren, calF, upOf, List.cons_append, List.nil_append, Nat.reduceAdd]))
      | (apply c4 1; exact callM (θ := [0, 7]) (hD := (crstep_ok _ _ _ _ _ _ preB11 preB11 preB11 preB11 preB11 preB11)); exact rfl; exact rfl; exact rfl; (try dsimp only [SV.ren, C.ren, C.ren.all, tRen, GB.ren, calF, upOf, List.cons_append, List.nil_append, Nat.reduceAdd]))
      | (apply c4 2; exact callK0 (θ := [_, _, _]) (hD := (stepC_ok _ _ preB11 preB11)); exact rfl; exact rfl; exact rfl; (try dsimp only [SV.ren, C.ren, C.ren.all, tRen, GB.ren, calF, upOf, List.cons_append, List.nil_append, Nat.reduceAdd]))
      | refine o_no rfl rfl rfl rfl ?_
      | refine o_noN rfl rfl rfl ?_
      | (apply py3; exact rfl; exact rfl; (first | exact a_pure (sv := .one _) rfl | exact a_pure (sv := .agg _) rfl | exact a_pure (sv := .tup _) rfl | exact a_cmp rfl rfl rfl trivial rfl | exact a_eqS rfl rfl rfl | exact a_ld_rowI rfl rfl rfl (fC rfl) bnd | exact a_add rfl rfl (by omega) (by omega)); exact rfl; exact rfl)
      | (apply ny3; exact rfl; exact rfl; (first | exact a_new (gb := .bx _) rfl); exact rfl; exact rfl)
      | (apply cy4 0; exact rfl; exact rfl; exact callM (θ := [0, 7]) (hD := (crconfig_ok _ _ _ _ _)); exact rfl; exact rfl; exact rfl; exact rfl; (try dsimp only [SV.ren, C.ren, C.ren.all, tRen, GB.ren, calF, upOf, List.cons_append, List.nil_append, Nat.reduceAdd]))
      | (apply cy4 0; exact rfl; exact rfl; exact callK1 (θ := []) (hD := (haltsC_ok _ _ preB11 preB11)); exact rfl; exact rfl; exact rfl; exact rfl; (try dsimp only [SV.ren, C.ren, C.ren.all, tRen, GB.ren, calF, upOf, List.cons_append, List.nil_append, Nat.reduceAdd]))
      | (apply cy4 0; exact rfl; exact rfl; exact callK1 (θ := []) (hD := (ruleC_ok _ _ preB11 preB11)); exact rfl; exact rfl; exact rfl; exact rfl; (try dsimp only [SV.ren, C.ren, C.ren.all, tRen, GB.ren, calF, upOf, List.cons_append, List.nil_append, Nat.reduceAdd]))
      | (apply cy4 1; exact rfl; exact rfl; exact callM (θ := [0, 7]) (hD := (crstep_ok _ _ _ _ _ _ preB11 preB11 preB11 preB11 preB11 preB11)); exact rfl; exact rfl; exact rfl; exact rfl; (try dsimp only [SV.ren, C.ren, C.ren.all, tRen, GB.ren, calF, upOf, List.cons_append, List.nil_append, Nat.reduceAdd]))
      | (apply cy4 2; exact rfl; exact rfl; exact callK0 (θ := [_, _, _]) (hD := (stepC_ok _ _ preB11 preB11)); exact rfl; exact rfl; exact rfl; exact rfl; (try dsimp only [SV.ren, C.ren, C.ren.all, tRen, GB.ren, calF, upOf, List.cons_append, List.nil_append, Nat.reduceAdd]))
      | (refine o_gs rfl rfl (fun hc => ?_) (fun hc => ?_) <;> (try simp only [decide_eq_true_eq, decide_eq_false_iff_not, Bool.not_eq_true', Bool.not_eq_false', Bool.not_eq_true, Bool.not_eq_false, Bool.and_eq_true, Bool.or_eq_false_iff, Bool.not_not] at hc) <;> (try (exfalso; omega)))
      | (refine g_cond rfl (fun hc => ?_) (fun hc => ?_) <;> (try simp only [decide_eq_true_eq, decide_eq_false_iff_not, Bool.not_eq_true', Bool.not_eq_false', Bool.not_eq_true, Bool.not_eq_false, Bool.and_eq_true, Bool.or_eq_false_iff, Bool.not_not] at hc) <;> (try (exfalso; omega)))
    · by_cases hr : ruAt m c = noR
      · obtain rfl := run_halt hr i10
        repeat (first | refine g_ret ?_ | refine q_sr ?_ | refine q_br ?_ | refine q_lr ?_ | refine q_cr ?_)
        refine ends_id ?_
        exact endK [_] (h2 := (by first | (with_reducible exact SVLe.refl) | exact SVLe.any | exact SVLe.one (.sh rfl) | exact SVLe.one (.nil (by decide)) | (refine SVLe.agg ?_; repeat (first | exact CsLe.nil | refine CsLe.cons ?_ ?_ | exact CLe.refl | exact CLe.sh rfl | exact CLe.nil (by decide) | (refine cle_i ?_; simp [hr]) | (refine cle_b ?_; simp [hr]))) | (refine SVLe.tup ?_; repeat (first | exact TLe.nil | refine TLe.cons ?_ ?_ | exact CsLe.nil | refine CsLe.cons ?_ ?_ | exact CLe.refl | exact CLe.sh rfl | exact CLe.nil (by decide) | (refine cle_i ?_; simp [hr]) | (refine cle_b ?_; simp [hr]))) | exact SVLe.refl | (refine sle_i ?_; simp [hr]) | (refine sle_b ?_; simp [hr]))) (h3 := (by repeat (first | exact trivial | refine And.intro ?_ ?_ | exact Or.inl rfl | exact Or.inr rfl | (refine Or.inr (row_eq ?_); simp [hr]) | (refine Or.inr (bx_eq rfl rfl ?_); (try dsimp only [C.ren, C.ren.all]); simp [hr]))))
      · obtain rfl := run_end hr hc i10
        repeat (first | refine g_ret ?_ | refine q_sr ?_ | refine q_br ?_ | refine q_lr ?_ | refine q_cr ?_)
        refine ends_id ?_
        exact endK [_] (h2 := (by first | (with_reducible exact SVLe.refl) | exact SVLe.any | exact SVLe.one (.sh rfl) | exact SVLe.one (.nil (by decide)) | (refine SVLe.agg ?_; repeat (first | exact CsLe.nil | refine CsLe.cons ?_ ?_ | exact CLe.refl | exact CLe.sh rfl | exact CLe.nil (by decide) | (refine cle_i ?_; simp [hr]) | (refine cle_b ?_; simp [hr]))) | (refine SVLe.tup ?_; repeat (first | exact TLe.nil | refine TLe.cons ?_ ?_ | exact CsLe.nil | refine CsLe.cons ?_ ?_ | exact CLe.refl | exact CLe.sh rfl | exact CLe.nil (by decide) | (refine cle_i ?_; simp [hr]) | (refine cle_b ?_; simp [hr]))) | exact SVLe.refl | (refine sle_i ?_; simp [hr]) | (refine sle_b ?_; simp [hr]))) (h3 := (by repeat (first | exact trivial | refine And.intro ?_ ?_ | exact Or.inl rfl | exact Or.inr rfl | (refine Or.inr (row_eq ?_); simp [hr]) | (refine Or.inr (bx_eq rfl rfl ?_); (try dsimp only [C.ren, C.ren.all]); simp [hr]))))
    · obtain rfl := run_halt hc i10
      repeat (first | refine g_ret ?_ | refine q_sr ?_ | refine q_br ?_ | refine q_lr ?_ | refine q_cr ?_)
      refine ends_id ?_
      exact endK [_] (h2 := (by first | (with_reducible exact SVLe.refl) | exact SVLe.any | exact SVLe.one (.sh rfl) | exact SVLe.one (.nil (by decide)) | (refine SVLe.agg ?_; repeat (first | exact CsLe.nil | refine CsLe.cons ?_ ?_ | exact CLe.refl | exact CLe.sh rfl | exact CLe.nil (by decide) | (refine cle_i ?_; simp [hc]) | (refine cle_b ?_; simp [hc]))) | (refine SVLe.tup ?_; repeat (first | exact TLe.nil | refine TLe.cons ?_ ?_ | exact CsLe.nil | refine CsLe.cons ?_ ?_ | exact CLe.refl | exact CLe.sh rfl | exact CLe.nil (by decide) | (refine cle_i ?_; simp [hc]) | (refine cle_b ?_; simp [hc]))) | exact SVLe.refl | (refine sle_i ?_; simp [hc]) | (refine sle_b ?_; simp [hc]))) (h3 := (by repeat (first | exact trivial | refine And.intro ?_ ?_ | exact Or.inl rfl | exact Or.inr rfl | (refine Or.inr (row_eq ?_); simp [hc]) | (refine Or.inr (bx_eq rfl rfl ?_); (try dsimp only [C.ren, C.ren.all]); simp [hc]))))
    · rename_i hn hr
      obtain rfl := run_full hr (by omega) hc i10
      repeat (first | refine g_ret ?_ | refine q_sr ?_ | refine q_br ?_ | refine q_lr ?_ | refine q_cr ?_)
      refine ends_id ?_
      exact endK [_] (h2 := (by first | (with_reducible exact SVLe.refl) | exact SVLe.any | exact SVLe.one (.sh rfl) | exact SVLe.one (.nil (by decide)) | (refine SVLe.agg ?_; repeat (first | exact CsLe.nil | refine CsLe.cons ?_ ?_ | exact CLe.refl | exact CLe.sh rfl | exact CLe.nil (by decide) | (refine cle_i ?_; simp) | (refine cle_b ?_; simp))) | (refine SVLe.tup ?_; repeat (first | exact TLe.nil | refine TLe.cons ?_ ?_ | exact CsLe.nil | refine CsLe.cons ?_ ?_ | exact CLe.refl | exact CLe.sh rfl | exact CLe.nil (by decide) | (refine cle_i ?_; simp) | (refine cle_b ?_; simp))) | exact SVLe.refl | (refine sle_i ?_; simp) | (refine sle_b ?_; simp))) (h3 := (by repeat (first | exact trivial | refine And.intro ?_ ?_ | exact Or.inl rfl | exact Or.inr rfl | (refine Or.inr (row_eq ?_); simp) | (refine Or.inr (bx_eq rfl rfl ?_); (try dsimp only [C.ren, C.ren.all]); simp))))
    · rename_i hn hr
      have hok := hok hr
      have hS := crS_len at' c hd (ruAt m c) x
      repeat' first
        | refine g_seq ?_
        | refine g_skip ?_
        | refine g_exit ?_
        | refine g_block ?_
        | refine g_reg ?_
        | refine g_if_t rfl ?_
        | refine g_if_f rfl ?_
        | refine o_nil ?_
        | refine q_s ?_
        | refine q_se ?_
        | refine q_b ?_
        | refine q_be rfl ?_
        | refine q_bn rfl ?_
        | refine q_le ?_
        | refine q_ce ?_
        | (apply n3; (first | exact a_new (gb := .bx _) rfl); exact rfl; (try dsimp only [List.map_cons, List.map_nil, scC, Nat.reduceAdd]))
        | (apply p3; (first | exact a_pure (sv := .one _) rfl | exact a_pure (sv := .agg _) rfl | exact a_pure (sv := .tup _) rfl | exact a_cmp rfl rfl rfl trivial rfl | exact a_eqS rfl rfl rfl | exact a_ld_rowI rfl rfl rfl (fC rfl) bnd | exact a_add rfl rfl (by omega) (by omega)); exact rfl)
        | (apply w3; (first | exact a_st_bx rfl rfl rfl rfl (fN rfl rfl) (Nat.le_of_ble_eq_true rfl) rfl | exact a_stE (E := eR) ⟨_, _, _⟩ rfl rfl rfl rfl (fN rfl rfl) bnd (by exact rfl)); exact rfl; (try dsimp only [setRow, List.map_cons, List.map_nil, scC, List.set_cons_zero, List.set_cons_succ, List.take_succ_cons, List.take_zero, List.drop_succ_cons, List.drop_zero, Nat.reduceAdd]))
        | (apply c4 0; exact callM (θ := [0, 7]) (hD := (crconfig_ok _ _ _ _ _)); exact rfl; exact rfl; exact rfl; (try dsimp only [SV.ren, C.ren, C.ren.all, tRen, GB.ren, calF, upOf, List.cons_append, List.nil_append, Nat.reduceAdd]))
        | (apply c4 0; exact callK1 (θ := []) (hD := (haltsC_ok _ _ preB11 preB11)); exact rfl; exact rfl; exact rfl; (try dsimp only [SV.ren, C.ren, C.ren.all, tRen, GB.ren, calF, upOf, List.cons_append, List.nil_append, Nat.reduceAdd]))
        | (apply c4 0; exact callK1 (θ := []) (hD := (ruleC_ok _ _ preB11 preB11)); exact rfl; exact rfl; exact rfl; (try dsimp only [SV.ren, C.ren, C.ren.all, tRen, GB.ren, calF, upOf, List.cons_append, List.nil_append, Nat.reduceAdd]))
        | (apply c4 1; exact callM (θ := [0, 7]) (hD := (crstep_ok _ _ _ _ _ _ preB11 preB11 preB11 preB11 preB11 preB11)); exact rfl; exact rfl; exact rfl; (try dsimp only [SV.ren, C.ren, C.ren.all, tRen, GB.ren, calF, upOf, List.cons_append, List.nil_append, Nat.reduceAdd]))
        | (apply c4 2; exact callK0 (θ := [_, _, _]) (hD := (stepC_ok _ _ preB11 preB11)); exact rfl; exact rfl; exact rfl; (try dsimp only [SV.ren, C.ren, C.ren.all, tRen, GB.ren, calF, upOf, List.cons_append, List.nil_append, Nat.reduceAdd]))
        | refine o_no rfl rfl rfl rfl ?_
        | refine o_noN rfl rfl rfl ?_
        | (apply py3; exact rfl; exact rfl; (first | exact a_pure (sv := .one _) rfl | exact a_pure (sv := .agg _) rfl | exact a_pure (sv := .tup _) rfl | exact a_cmp rfl rfl rfl trivial rfl | exact a_eqS rfl rfl rfl | exact a_ld_rowI rfl rfl rfl (fC rfl) bnd | exact a_add rfl rfl (by omega) (by omega)); exact rfl; exact rfl)
        | (apply ny3; exact rfl; exact rfl; (first | exact a_new (gb := .bx _) rfl); exact rfl; exact rfl)
        | (apply cy4 0; exact rfl; exact rfl; exact callM (θ := [0, 7]) (hD := (crconfig_ok _ _ _ _ _)); exact rfl; exact rfl; exact rfl; exact rfl; (try dsimp only [SV.ren, C.ren, C.ren.all, tRen, GB.ren, calF, upOf, List.cons_append, List.nil_append, Nat.reduceAdd]))
        | (apply cy4 0; exact rfl; exact rfl; exact callK1 (θ := []) (hD := (haltsC_ok _ _ preB11 preB11)); exact rfl; exact rfl; exact rfl; exact rfl; (try dsimp only [SV.ren, C.ren, C.ren.all, tRen, GB.ren, calF, upOf, List.cons_append, List.nil_append, Nat.reduceAdd]))
        | (apply cy4 0; exact rfl; exact rfl; exact callK1 (θ := []) (hD := (ruleC_ok _ _ preB11 preB11)); exact rfl; exact rfl; exact rfl; exact rfl; (try dsimp only [SV.ren, C.ren, C.ren.all, tRen, GB.ren, calF, upOf, List.cons_append, List.nil_append, Nat.reduceAdd]))
        | (apply cy4 1; exact rfl; exact rfl; exact callM (θ := [0, 7]) (hD := (crstep_ok _ _ _ _ _ _ preB11 preB11 preB11 preB11 preB11 preB11)); exact rfl; exact rfl; exact rfl; exact rfl; (try dsimp only [SV.ren, C.ren, C.ren.all, tRen, GB.ren, calF, upOf, List.cons_append, List.nil_append, Nat.reduceAdd]))
        | (apply cy4 2; exact rfl; exact rfl; exact callK0 (θ := [_, _, _]) (hD := (stepC_ok _ _ preB11 preB11)); exact rfl; exact rfl; exact rfl; exact rfl; (try dsimp only [SV.ren, C.ren, C.ren.all, tRen, GB.ren, calF, upOf, List.cons_append, List.nil_append, Nat.reduceAdd]))
        | (refine o_gs rfl rfl (fun hc => ?_) (fun hc => ?_) <;> (try simp only [decide_eq_true_eq, decide_eq_false_iff_not, Bool.not_eq_true', Bool.not_eq_false', Bool.not_eq_true, Bool.not_eq_false, Bool.and_eq_true, Bool.or_eq_false_iff, Bool.not_not] at hc) <;> (try (exfalso; omega)))
        | (refine g_cond rfl (fun hc => ?_) (fun hc => ?_) <;> (try simp only [decide_eq_true_eq, decide_eq_false_iff_not, Bool.not_eq_true', Bool.not_eq_false', Bool.not_eq_true, Bool.not_eq_false, Bool.and_eq_true, Bool.or_eq_false_iff, Bool.not_not] at hc) <;> (try (exfalso; omega)))
      refine q_again (n + 1, stepS (ruAt m c) c, hd + (ruAt m c).m, crS at' c hd (ruAt m c) x) [0, 1, 2, 3, 4, 10, 11, 9] (by exact stk) ?_ ?_
      · exact ⟨by dsimp only; omega, by dsimp only; omega, stepS_ok hm i3 hr hc, by dsimp only; omega, by dsimp only; omega, by dsimp only; omega, run_next hr (by omega) hc i10⟩
      · dsimp only; omega
/-- The crossings. -/
@[irreducible] def crRun (m : Mach) (c : Conf) (at' b : Int) : Out (List Int) := runG m crC (crS at') b.toNat 0 c 0 []
theorem cr_wk (m : Mach) (c : Conf) (at' b : Int) (hm : vMach m = true) (hc : vConf m c = true) : (crRun m c at' b).full = (wkRun m c at' b).full ∧ ((wkRun m c at' b).full = false → (crRun m c at' b).x = (wkRun m c at' b).x.crs) := by
  unfold crRun wkRun
  obtain ⟨x', y', h1, h2, h3, h4, h5, h6⟩ := run_two (m := m) (fc := crC) (fs := crS at') (fc' := wC) (fs' := wS m at') (fun c hd x y => vConf m c = true ∧ x = y.crs) (fun c hd x y h hn hr => ⟨stepS_ok hm h.1 hn hr, by
    obtain ⟨_, hmv, _⟩ := ruAt_ok hm h.1 hn
    unfold crS wS wC crsOf
    dsimp only
    rw [h.2]
    by_cases e : min hd (hd + (ruAt m c).m) = at' - 1
    · rw [if_pos e, if_pos (by omega)]
    · rw [if_neg e, if_neg (by omega)]⟩) b.toNat 0 c 0 [] (w0 m) ⟨hc, rfl⟩
  generalize runG m crC (crS at') b.toNat 0 c 0 [] = O1 at *
  generalize runG m wC (wS m at') b.toNat 0 c 0 (w0 m) = O2 at *
  refine ⟨h4, fun hf => ?_⟩
  obtain ⟨r, e1, e2⟩ := h6 (h4.trans hf)
  rw [e1, e2]
  unfold wC
  exact r.2
--HIDE followX_ok
theorem followXA_ok (m : Mach) (c : Conf) (at' b : Int) (ha : askC m c b = 0) (h1 : -100000 ≤ at') (h2 : at' ≤ 100000) : Does Try.prog 53 [.agg (maC m), .agg (coC c), .one (int b), .one (.ifc 107 false [.gv 0])] [crBx at' 1, roI []] (.tup [(false, [int (if (crRun m c at' b).full then 0 else (crRun m c at' b).n)]), (false, [boo (crRun m c at' b).halts]), (false, [int (if (crRun m c at' b).full then 5 else 0)])]) [crBx at' 2, .dead, roI (crRun m c at' b).x] := by
  obtain ⟨h3, h4, h5, h6⟩ := ask_ok ha
  exact followX_ok m c at' b h1 h2 h3 h4 h5 h6 _ (by unfold crRun; rfl)
@[irreducible] def crCode (m : Mach) (c : Conf) (at' b : Int) : Int := if askC m c b = 0 then if -20000 ≤ at' ∧ at' ≤ 20000 then if (wkRun m c at' b).full = true ∨ 64 < ((wkRun m c at' b).x.crs.length : Int) then 5 else 0 else 2 else askC m c b
@[irreducible] def crRes (m : Mach) (c : Conf) (at' b : Int) : List Int := if crCode m c at' b = 0 then (wkRun m c at' b).x.crs else []
theorem sCrossing_ok (m : Mach) (c : Conf) (at' b : Int) (hm : (m.ru.length : Int) ≤ 16777216) (hx : (c.le.length : Int) ≤ 16777216) (hy : (c.ri.length : Int) ≤ 16777216) : Does Try.prog 32 [.agg (maC m), .agg (coC c), .one (int at'), .one (int b)] [] (.tup [(false, [.gv 0]), (false, [int (crCode m c at' b)])]) [roI (crRes m c at' b)] := by
  refine does_of (k := 0) Try.func32 rfl Try.ntmps32 rfl rfl fun w F0 S0 ρ0 => ?_
  dsimp only [argT, argH]
  repeat' first
    | refine g_seq ?_
    | refine g_skip ?_
    | refine g_exit ?_
    | refine g_block ?_
    | refine g_reg ?_
    | refine g_if_t rfl ?_
    | refine g_if_f rfl ?_
    | refine o_nil ?_
    | refine q_s ?_
    | refine q_se ?_
    | refine q_b ?_
    | refine q_be rfl ?_
    | refine q_bn rfl ?_
    | refine q_le ?_
    | refine q_ce ?_
    | (apply n3; exact a_nilO eI rfl; exact rfl)
    | (apply n3; (first | exact a_new (gb := .bx _) rfl); exact rfl; (try dsimp only [List.map_cons, List.map_nil, scC, Nat.reduceAdd]))
    | (apply p3; (first | exact a_pure (sv := .one _) rfl | exact a_pure (sv := .agg _) rfl | exact a_pure (sv := .tup _) rfl | exact a_ne rfl rfl | exact a_neS rfl rfl rfl | exact a_ld_rowI rfl rfl rfl (fC rfl) bnd | exact a_lenE rfl rfl (fS rfl) (by exact rfl) | exact a_len_str rfl (fT rfl) | exact a_cmp rfl rfl rfl trivial rfl); exact rfl)
    | (apply c4 0; exact callK1 (θ := []) (hD := (l20Ask_ok _ _ _ preB11 preB11 preB11)); exact rfl; exact rfl; exact rfl; (try dsimp only [SV.ren, C.ren, C.ren.all, tRen, GB.ren, calF, upOf, List.cons_append, List.nil_append, Nat.reduceAdd]))
    | (apply c4 0; exact callK1 (θ := []) (hD := (l00In_ok _ _ _)); exact rfl; exact rfl; exact rfl; (try dsimp only [SV.ren, C.ren, C.ren.all, tRen, GB.ren, calF, upOf, List.cons_append, List.nil_append, Nat.reduceAdd]))
    | (apply c4 5; exact callK1 (θ := []) (hD := (l20RunA_ok _ _ _ _ preB11 preB11)); exact rfl; exact rfl; exact rfl; (try dsimp only [SV.ren, C.ren, C.ren.all, tRen, GB.ren, calF, upOf, List.cons_append, List.nil_append, Nat.reduceAdd]))
    | refine o_no rfl rfl rfl rfl ?_
    | refine o_noN rfl rfl rfl ?_
    | (apply py3; exact rfl; exact rfl; (first | exact a_pure (sv := .one _) rfl | exact a_pure (sv := .agg _) rfl | exact a_pure (sv := .tup _) rfl | exact a_ne rfl rfl | exact a_neS rfl rfl rfl | exact a_ld_rowI rfl rfl rfl (fC rfl) bnd | exact a_lenE rfl rfl (fS rfl) (by exact rfl) | exact a_len_str rfl (fT rfl) | exact a_cmp rfl rfl rfl trivial rfl); exact rfl; exact rfl)
    | (apply ny3; exact rfl; exact rfl; (first | exact a_new (gb := .bx _) rfl | exact a_nilO eI rfl); exact rfl; exact rfl)
    | (apply cy4 0; exact rfl; exact rfl; exact callK1 (θ := []) (hD := (l20Ask_ok _ _ _ preB11 preB11 preB11)); exact rfl; exact rfl; exact rfl; exact rfl; (try dsimp only [SV.ren, C.ren, C.ren.all, tRen, GB.ren, calF, upOf, List.cons_append, List.nil_append, Nat.reduceAdd]))
    | (apply cy4 0; exact rfl; exact rfl; exact callK1 (θ := []) (hD := (l00In_ok _ _ _)); exact rfl; exact rfl; exact rfl; exact rfl; (try dsimp only [SV.ren, C.ren, C.ren.all, tRen, GB.ren, calF, upOf, List.cons_append, List.nil_append, Nat.reduceAdd]))
    | (apply cy4 5; exact rfl; exact rfl; exact callK1 (θ := []) (hD := (l20RunA_ok _ _ _ _ preB11 preB11)); exact rfl; exact rfl; exact rfl; exact rfl; (try dsimp only [SV.ren, C.ren, C.ren.all, tRen, GB.ren, calF, upOf, List.cons_append, List.nil_append, Nat.reduceAdd]))
    | (refine o_gs rfl rfl (fun hc => ?_) (fun hc => ?_) <;> (try simp only [decide_eq_true_eq, decide_eq_false_iff_not, Bool.not_eq_true', Bool.not_eq_false', Bool.not_eq_true, Bool.not_eq_false, Bool.and_eq_true, Bool.or_eq_false_iff, Bool.not_not] at hc) <;> (try (exfalso; omega)))
    | (refine g_cond rfl (fun hc => ?_) (fun hc => ?_) <;> (try simp only [decide_eq_true_eq, decide_eq_false_iff_not, Bool.not_eq_true', Bool.not_eq_false', Bool.not_eq_true, Bool.not_eq_false, Bool.and_eq_true, Bool.or_eq_false_iff, Bool.not_not] at hc) <;> (try (exfalso; omega)))
  all_goals
    repeat (first | refine g_ret ?_ | refine q_sr ?_ | refine q_br ?_ | refine q_lr ?_ | refine q_cr ?_)
    refine ends_id ?_
    exact endK [_] (h2 := (by first | (with_reducible exact SVLe.refl) | exact SVLe.any | exact SVLe.one (.sh rfl) | exact SVLe.one (.nil (by decide)) | (refine SVLe.agg ?_; repeat (first | exact CsLe.nil | refine CsLe.cons ?_ ?_ | exact CLe.refl | exact CLe.sh rfl | exact CLe.nil (by decide) | (refine cle_i ?_; ((try unfold crRes); (try unfold crCode); simp_all <;> omega)) | (refine cle_b ?_; ((try unfold crRes); (try unfold crCode); simp_all <;> omega)))) | (refine SVLe.tup ?_; repeat (first | exact TLe.nil | refine TLe.cons ?_ ?_ | exact CsLe.nil | refine CsLe.cons ?_ ?_ | exact CLe.refl | exact CLe.sh rfl | exact CLe.nil (by decide) | (refine cle_i ?_; ((try unfold crRes); (try unfold crCode); simp_all <;> omega)) | (refine cle_b ?_; ((try unfold crRes); (try unfold crCode); simp_all <;> omega)))) | exact SVLe.refl | (refine sle_i ?_; ((try unfold crRes); (try unfold crCode); simp_all <;> omega)) | (refine sle_b ?_; ((try unfold crRes); (try unfold crCode); simp_all <;> omega)))) (h3 := (by repeat (first | exact trivial | refine And.intro ?_ ?_ | exact Or.inl rfl | exact Or.inr rfl | (refine Or.inr (row_eq ?_); ((try unfold crRes); (try unfold crCode); simp_all <;> omega)) | (refine Or.inr (bx_eq rfl rfl ?_); (try dsimp only [C.ren, C.ren.all]); ((try unfold crRes); (try unfold crCode); simp_all <;> omega)))))
theorem iCrossing_ok (m : Mach) (c : Conf) (at' b : Int) (hm : (m.ru.length : Int) ≤ 16777216) (hx : (c.le.length : Int) ≤ 16777216) (hy : (c.ri.length : Int) ≤ 16777216) : Does Try.prog 33 [.agg (maC m), .agg (coC c), .one (int at'), .one (int b)] [] (.tup [(false, [.gv 0]), (false, [int (crCode m c at' b)])]) [roI (crRes m c at' b)] := by
  refine does_of (k := 0) Try.func33 rfl Try.ntmps33 rfl rfl fun w F0 S0 ρ0 => ?_
  dsimp only [argT, argH]
  repeat' first
    | refine g_seq ?_
    | refine g_skip ?_
    | refine g_exit ?_
    | refine g_block ?_
    | refine g_reg (id := 0) ?_
    | refine g_reg (id := 1) ?_
    | refine g_reg (id := 2) ?_
    | refine g_reg (id := 3) ?_
    | refine g_reg (id := 4) ?_
    | refine g_reg (id := 5) ?_
    | refine g_reg (id := 6) ?_
    | refine g_if_t rfl ?_
    | refine g_if_f rfl ?_
    | refine o_nil ?_
    | refine q_s ?_
    | refine q_se ?_
    | refine q_b ?_
    | refine q_be rfl ?_
    | refine q_bn rfl ?_
    | refine q_le ?_
    | refine q_ce ?_
    | (apply n3; exact a_nilO eI rfl; exact rfl)
    | (apply n3; (first | exact a_new (gb := .bx _) rfl); exact rfl; (try dsimp only [List.map_cons, List.map_nil, scC, Nat.reduceAdd]))
    | (apply p3; (first | exact a_pure (sv := .one _) rfl | exact a_pure (sv := .agg _) rfl | exact a_ld_rowI rfl rfl rfl (fC rfl) bnd | exact a_pure (sv := .tup _) rfl | exact a_ne rfl rfl | exact a_neS rfl rfl rfl); exact rfl)
    | (apply c4 0; exact callK1 (θ := []) (hD := (runCode_ok _ _ _ preB11 preB11 preB11)); exact rfl; exact rfl; exact rfl; (try dsimp only [SV.ren, C.ren, C.ren.all, tRen, GB.ren, calF, upOf, List.cons_append, List.nil_append, Nat.reduceAdd]))
    | (apply c4 0; exact callK1 (θ := []) (hD := (within_ok _ _ _)); exact rfl; exact rfl; exact rfl; (try dsimp only [SV.ren, C.ren, C.ren.all, tRen, GB.ren, calF, upOf, List.cons_append, List.nil_append, Nat.reduceAdd]))
    | (refine o_gs rfl rfl (fun hc => ?_) (fun hc => ?_) <;> (try simp only [decide_eq_true_eq, decide_eq_false_iff_not, Bool.not_eq_true', Bool.not_eq_false', Bool.not_eq_true, Bool.not_eq_false, Bool.and_eq_true, Bool.or_eq_false_iff, Bool.not_not] at hc) <;> (try (exfalso; omega)))
    | (refine g_cond rfl (fun hc => ?_) (fun hc => ?_) <;> (try simp only [decide_eq_true_eq, decide_eq_false_iff_not, Bool.not_eq_true', Bool.not_eq_false', Bool.not_eq_true, Bool.not_eq_false, Bool.and_eq_true, Bool.or_eq_false_iff, Bool.not_not] at hc) <;> (try (exfalso; omega)))
  · repeat (first | refine g_ret ?_ | refine q_sr ?_ | refine q_br ?_ | refine q_lr ?_ | refine q_cr ?_)
    refine ends_id ?_
    exact endK [_] (h2 := (by first | (with_reducible exact SVLe.refl) | exact SVLe.any | exact SVLe.one (.sh rfl) | exact SVLe.one (.nil (by decide)) | (refine SVLe.agg ?_; repeat (first | exact CsLe.nil | refine CsLe.cons ?_ ?_ | exact CLe.refl | exact CLe.sh rfl | exact CLe.nil (by decide) | (refine cle_i ?_; ((try unfold crRes); (try unfold crCode); simp_all <;> omega)) | (refine cle_b ?_; ((try unfold crRes); (try unfold crCode); simp_all <;> omega)))) | (refine SVLe.tup ?_; repeat (first | exact TLe.nil | refine TLe.cons ?_ ?_ | exact CsLe.nil | refine CsLe.cons ?_ ?_ | exact CLe.refl | exact CLe.sh rfl | exact CLe.nil (by decide) | (refine cle_i ?_; ((try unfold crRes); (try unfold crCode); simp_all <;> omega)) | (refine cle_b ?_; ((try unfold crRes); (try unfold crCode); simp_all <;> omega)))) | exact SVLe.refl | (refine sle_i ?_; ((try unfold crRes); (try unfold crCode); simp_all <;> omega)) | (refine sle_b ?_; ((try unfold crRes); (try unfold crCode); simp_all <;> omega)))) (h3 := (by repeat (first | exact trivial | refine And.intro ?_ ?_ | exact Or.inl rfl | exact Or.inr rfl | (refine Or.inr (row_eq ?_); ((try unfold crRes); (try unfold crCode); simp_all <;> omega)) | (refine Or.inr (bx_eq rfl rfl ?_); (try dsimp only [C.ren, C.ren.all]); ((try unfold crRes); (try unfold crCode); simp_all <;> omega)))))
  · repeat (first | refine g_ret ?_ | refine q_sr ?_ | refine q_br ?_ | refine q_lr ?_ | refine q_cr ?_)
    refine ends_id ?_
    exact endK [_] (h2 := (by first | (with_reducible exact SVLe.refl) | exact SVLe.any | exact SVLe.one (.sh rfl) | exact SVLe.one (.nil (by decide)) | (refine SVLe.agg ?_; repeat (first | exact CsLe.nil | refine CsLe.cons ?_ ?_ | exact CLe.refl | exact CLe.sh rfl | exact CLe.nil (by decide) | (refine cle_i ?_; ((try unfold crRes); (try unfold crCode); simp_all <;> omega)) | (refine cle_b ?_; ((try unfold crRes); (try unfold crCode); simp_all <;> omega)))) | (refine SVLe.tup ?_; repeat (first | exact TLe.nil | refine TLe.cons ?_ ?_ | exact CsLe.nil | refine CsLe.cons ?_ ?_ | exact CLe.refl | exact CLe.sh rfl | exact CLe.nil (by decide) | (refine cle_i ?_; ((try unfold crRes); (try unfold crCode); simp_all <;> omega)) | (refine cle_b ?_; ((try unfold crRes); (try unfold crCode); simp_all <;> omega)))) | exact SVLe.refl | (refine sle_i ?_; ((try unfold crRes); (try unfold crCode); simp_all <;> omega)) | (refine sle_b ?_; ((try unfold crRes); (try unfold crCode); simp_all <;> omega)))) (h3 := (by repeat (first | exact trivial | refine And.intro ?_ ?_ | exact Or.inl rfl | exact Or.inr rfl | (refine Or.inr (row_eq ?_); ((try unfold crRes); (try unfold crCode); simp_all <;> omega)) | (refine Or.inr (bx_eq rfl rfl ?_); (try dsimp only [C.ren, C.ren.all]); ((try unfold crRes); (try unfold crCode); simp_all <;> omega)))))
  · have ha : askC m c b = 0 := by assumption
    have hi : -20000 ≤ at' ∧ at' ≤ 20000 := by simp_all [inB]
    obtain ⟨h1, h2, h3, h4⟩ := ask_ok ha
    obtain ⟨e1, e2⟩ := cr_wk m c at' b h1 h2
    have hcode : crCode m c at' b = if (crRun m c at' b).full = true ∨ 64 < ((crRun m c at' b).x.length : Int) then 5 else 0 := by
      unfold crCode
      rw [if_pos ha, if_pos hi, e1]
      cases hf : (wkRun m c at' b).full
      · rw [e2 hf]
      · simp
    have hres : crRes m c at' b = if (crRun m c at' b).full = true ∨ 64 < ((crRun m c at' b).x.length : Int) then [] else (crRun m c at' b).x := by
      unfold crRes
      rw [hcode]
      split
      · simp
      · rename_i hn
        rw [if_pos rfl, e2]
        cases hf : (wkRun m c at' b).full
        · rfl
        · rw [e1, hf] at hn
          simp at hn
    clear e1 e2
    refine g_conv (t_nilB (i := 3) (k := 1) (z := 1) rfl rfl rfl (by decide)) ?_
    try dsimp only [setRow, List.map_cons, List.map_nil, scC, List.set_cons_zero, List.set_cons_succ]
    repeat' first
      | refine g_seq ?_
      | refine g_skip ?_
      | refine g_exit ?_
      | refine g_block ?_
      | refine g_reg ?_
      | refine g_if_t rfl ?_
      | refine g_if_f rfl ?_
      | refine o_nil ?_
      | refine q_s ?_
      | refine q_se ?_
      | refine q_b ?_
      | refine q_be rfl ?_
      | refine q_bn rfl ?_
      | refine q_le ?_
      | refine q_ce ?_
      | (apply n3; exact a_nilO eI rfl; exact rfl)
      | (apply n3; (first | exact a_new (gb := .bx _) rfl); exact rfl; (try dsimp only [List.map_cons, List.map_nil, scC, Nat.reduceAdd]))
      | (apply p3; (first | exact a_pure (sv := .one _) rfl | exact a_pure (sv := .agg _) rfl | exact a_ld_rowI rfl rfl rfl (fC rfl) bnd | exact a_pure (sv := .tup _) rfl | exact a_ne rfl rfl | exact a_neS rfl rfl rfl | exact a_lenE rfl rfl (fS rfl) (by exact rfl) | exact a_len_str rfl (fT rfl) | exact a_cmp rfl rfl rfl trivial rfl); exact rfl)
      | (apply c4 0; exact callK1 (θ := []) (hD := (runCode_ok _ _ _ preB11 preB11 preB11)); exact rfl; exact rfl; exact rfl; (try dsimp only [SV.ren, C.ren, C.ren.all, tRen, GB.ren, calF, upOf, List.cons_append, List.nil_append, Nat.reduceAdd]))
      | (apply c4 0; exact callK1 (θ := []) (hD := (within_ok _ _ _)); exact rfl; exact rfl; exact rfl; (try dsimp only [SV.ren, C.ren, C.ren.all, tRen, GB.ren, calF, upOf, List.cons_append, List.nil_append, Nat.reduceAdd]))
      | (apply c4 0; exact callK1 (θ := [_]) (hD := (followMA_ok _ _ _ preB11)); exact rfl; exact rfl; exact rfl; (try dsimp only [SV.ren, C.ren, C.ren.all, tRen, GB.ren, calF, upOf, List.cons_append, List.nil_append, Nat.reduceAdd]))
      | (apply c4 1; exact callK1 (θ := [_, _]) (hD := (followXA_ok _ _ _ _ preB11 preB11 preB11)); exact rfl; exact rfl; exact rfl; (try dsimp only [SV.ren, C.ren, C.ren.all, tRen, GB.ren, calF, upOf, List.cons_append, List.nil_append, Nat.reduceAdd]))
      | refine o_no rfl rfl rfl rfl ?_
      | refine o_noN rfl rfl rfl ?_
      | (apply py3; exact rfl; exact rfl; (first | exact a_pure (sv := .one _) rfl | exact a_pure (sv := .agg _) rfl | exact a_ld_rowI rfl rfl rfl (fC rfl) bnd | exact a_pure (sv := .tup _) rfl | exact a_ne rfl rfl | exact a_neS rfl rfl rfl | exact a_lenE rfl rfl (fS rfl) (by exact rfl) | exact a_len_str rfl (fT rfl) | exact a_cmp rfl rfl rfl trivial rfl); exact rfl; exact rfl)
      | (apply ny3; exact rfl; exact rfl; (first | exact a_new (gb := .bx _) rfl | exact a_nilO eI rfl); exact rfl; exact rfl)
      | (apply cy4 0; exact rfl; exact rfl; exact callK1 (θ := []) (hD := (runCode_ok _ _ _ preB11 preB11 preB11)); exact rfl; exact rfl; exact rfl; exact rfl; (try dsimp only [SV.ren, C.ren, C.ren.all, tRen, GB.ren, calF, upOf, List.cons_append, List.nil_append, Nat.reduceAdd]))
      | (apply cy4 0; exact rfl; exact rfl; exact callK1 (θ := []) (hD := (within_ok _ _ _)); exact rfl; exact rfl; exact rfl; exact rfl; (try dsimp only [SV.ren, C.ren, C.ren.all, tRen, GB.ren, calF, upOf, List.cons_append, List.nil_append, Nat.reduceAdd]))
      | (apply cy4 0; exact rfl; exact rfl; exact callK1 (θ := [_]) (hD := (followMA_ok _ _ _ preB11)); exact rfl; exact rfl; exact rfl; exact rfl; (try dsimp only [SV.ren, C.ren, C.ren.all, tRen, GB.ren, calF, upOf, List.cons_append, List.nil_append, Nat.reduceAdd]))
      | (apply cy4 1; exact rfl; exact rfl; exact callK1 (θ := [_, _]) (hD := (followXA_ok _ _ _ _ preB11 preB11 preB11)); exact rfl; exact rfl; exact rfl; exact rfl; (try dsimp only [SV.ren, C.ren, C.ren.all, tRen, GB.ren, calF, upOf, List.cons_append, List.nil_append, Nat.reduceAdd]))
      | (refine o_gs rfl rfl (fun hc => ?_) (fun hc => ?_) <;> (try simp only [decide_eq_true_eq, decide_eq_false_iff_not, Bool.not_eq_true', Bool.not_eq_false', Bool.not_eq_true, Bool.not_eq_false, Bool.and_eq_true, Bool.or_eq_false_iff, Bool.not_not] at hc) <;> (try (exfalso; omega)))
      | (refine g_cond rfl (fun hc => ?_) (fun hc => ?_) <;> (try simp only [decide_eq_true_eq, decide_eq_false_iff_not, Bool.not_eq_true', Bool.not_eq_false', Bool.not_eq_true, Bool.not_eq_false, Bool.and_eq_true, Bool.or_eq_false_iff, Bool.not_not] at hc) <;> (try (exfalso; omega)))
    all_goals
      repeat (first | refine g_ret ?_ | refine q_sr ?_ | refine q_br ?_ | refine q_lr ?_ | refine q_cr ?_)
      refine ends_id ?_
      exact endK [_] (h2 := (by first | (with_reducible exact SVLe.refl) | exact SVLe.any | exact SVLe.one (.sh rfl) | exact SVLe.one (.nil (by decide)) | (refine SVLe.agg ?_; repeat (first | exact CsLe.nil | refine CsLe.cons ?_ ?_ | exact CLe.refl | exact CLe.sh rfl | exact CLe.nil (by decide) | (refine cle_i ?_; (cases hf : (crRun m c at' b).full <;> first | (exfalso; rename_i hq; rw [hf] at hq; simp at hq; done) | (exfalso; rw [hf] at hc; simp at hc; done) | ((first | rw [hcode] | rw [hres]) <;> (split <;> first | rfl | (rename_i hh; exfalso; rcases hh with hh | hh <;> first | (rw [hf] at hh; cases hh) | omega) | (exfalso; simp_all; done) | (exfalso; simp [*] at *; omega))))) | (refine cle_b ?_; (cases hf : (crRun m c at' b).full <;> first | (exfalso; rename_i hq; rw [hf] at hq; simp at hq; done) | (exfalso; rw [hf] at hc; simp at hc; done) | ((first | rw [hcode] | rw [hres]) <;> (split <;> first | rfl | (rename_i hh; exfalso; rcases hh with hh | hh <;> first | (rw [hf] at hh; cases hh) | omega) | (exfalso; simp_all; done) | (exfalso; simp [*] at *; omega))))))) | (refine SVLe.tup ?_; repeat (first | exact TLe.nil | refine TLe.cons ?_ ?_ | exact CsLe.nil | refine CsLe.cons ?_ ?_ | exact CLe.refl | exact CLe.sh rfl | exact CLe.nil (by decide) | (refine cle_i ?_; (cases hf : (crRun m c at' b).full <;> first | (exfalso; rename_i hq; rw [hf] at hq; simp at hq; done) | (exfalso; rw [hf] at hc; simp at hc; done) | ((first | rw [hcode] | rw [hres]) <;> (split <;> first | rfl | (rename_i hh; exfalso; rcases hh with hh | hh <;> first | (rw [hf] at hh; cases hh) | omega) | (exfalso; simp_all; done) | (exfalso; simp [*] at *; omega))))) | (refine cle_b ?_; (cases hf : (crRun m c at' b).full <;> first | (exfalso; rename_i hq; rw [hf] at hq; simp at hq; done) | (exfalso; rw [hf] at hc; simp at hc; done) | ((first | rw [hcode] | rw [hres]) <;> (split <;> first | rfl | (rename_i hh; exfalso; rcases hh with hh | hh <;> first | (rw [hf] at hh; cases hh) | omega) | (exfalso; simp_all; done) | (exfalso; simp [*] at *; omega))))))) | exact SVLe.refl | (refine sle_i ?_; (cases hf : (crRun m c at' b).full <;> first | (exfalso; rename_i hq; rw [hf] at hq; simp at hq; done) | (exfalso; rw [hf] at hc; simp at hc; done) | ((first | rw [hcode] | rw [hres]) <;> (split <;> first | rfl | (rename_i hh; exfalso; rcases hh with hh | hh <;> first | (rw [hf] at hh; cases hh) | omega) | (exfalso; simp_all; done) | (exfalso; simp [*] at *; omega))))) | (refine sle_b ?_; (cases hf : (crRun m c at' b).full <;> first | (exfalso; rename_i hq; rw [hf] at hq; simp at hq; done) | (exfalso; rw [hf] at hc; simp at hc; done) | ((first | rw [hcode] | rw [hres]) <;> (split <;> first | rfl | (rename_i hh; exfalso; rcases hh with hh | hh <;> first | (rw [hf] at hh; cases hh) | omega) | (exfalso; simp_all; done) | (exfalso; simp [*] at *; omega))))))) (h3 := (by repeat (first | exact trivial | refine And.intro ?_ ?_ | exact Or.inl rfl | exact Or.inr rfl | (refine Or.inr (row_eq ?_); (cases hf : (crRun m c at' b).full <;> first | (exfalso; rename_i hq; rw [hf] at hq; simp at hq; done) | (exfalso; rw [hf] at hc; simp at hc; done) | ((first | rw [hcode] | rw [hres]) <;> (split <;> first | rfl | (rename_i hh; exfalso; rcases hh with hh | hh <;> first | (rw [hf] at hh; cases hh) | omega) | (exfalso; simp_all; done) | (exfalso; simp [*] at *; omega))))) | (refine Or.inr (bx_eq rfl rfl ?_); (try dsimp only [C.ren, C.ren.all]); (cases hf : (crRun m c at' b).full <;> first | (exfalso; rename_i hq; rw [hf] at hq; simp at hq; done) | (exfalso; rw [hf] at hc; simp at hc; done) | ((first | rw [hcode] | rw [hres]) <;> (split <;> first | rfl | (rename_i hh; exfalso; rcases hh with hh | hh <;> first | (rw [hf] at hh; cases hh) | omega) | (exfalso; simp_all; done) | (exfalso; simp [*] at *; omega))))))))
end Go.Proofs.Ytncccjpbaeaafaa
