/- The normal form of a machine: the program's run. -/
import Derived.Test.YtncccjpbaeaafaaB15
set_option linter.unusedVariables false
set_option linter.unusedSimpArgs false
set_option maxRecDepth 100000
set_option maxHeartbeats 4000000
namespace Go.Proofs.Ytncccjpbaeaafaa
open Go Foot
abbrev c0 : Conf := ⟨0, [], []⟩
abbrev idC (c : Conf) (hd : Int) (x : Nm) : Nm := x
theorem vConf0 {m : Mach} (hm : vMach m = true) : vConf m c0 = true := by
  have := vMach_bd hm
  exact vConf_mk ⟨⟨by simp, by show (0 : Int) ≤ m.st - 1; omega⟩, vSide_mk (by simp) (by simp) (by simp), vSide_mk (by simp) (by simp) (by simp)⟩
--PRE (exact (ruAt_ok (by assumption) (by assumption) (by assumption)).2.1)
theorem preB16 {p : Prop} (h : p := by first | with_reducible assumption | omega | (simp only [List.length_append, List.length_cons, List.length_nil, List.length_set, List.length_replicate, List.length_take, List.length_drop, List.length_tail, List.length_dropLast, List.length_reverse] at *; omega) | (with_reducible refine Int.le_trans (Int.ofNat_le.2 (trimR_len _)) ?_; simp only [List.length_cons, List.length_tail]; omega) | (exact (ruAt_ok (by assumption) (by assumption) (by assumption)).2.1) | (have := vMach_bd (by assumption); omega) | (with_reducible refine Int.le_trans (Int.ofNat_le.2 (pushL_len _ _)) ?_; simp only [List.length_dropLast]; omega) | exact (ask_ok (by assumption)).1 | exact (ask_ok (by assumption)).2.1 | exact (ask_ok (by assumption)).2.2.1 | exact (ask_ok (by assumption)).2.2.2 | (simp only [mC_ch, mC_tu]; omega) | (exact (ruAt_ok (by assumption) (by assumption) (by assumption)).2.1) | trivial) : p := h
theorem followW_ok (m : Mach) (b : Int) (x : Nm) (hm : vMach m = true) (hb : 1 ≤ b) (hb2 : b ≤ 20000) (hx : NmOk m c0 x) (O : Out Nm) (hO : runG m idC (nmS m) b.toNat 0 c0 0 x = O) : Does Try.prog 53 [.agg (maC m), .agg (coC c0), .one (int b), .one (.ifc 82 false [.gv 0])] [nmBx m x, .row 3 (rows eR x.ru), .bx [.gv 4], .bx [.gv 5], mpOf mII (nmM x.ks), mpOf mII (nmM x.ys)] (.tup [(false, [int (if O.full then 0 else O.n)]), (false, [boo O.halts]), (false, [int (if O.full then 5 else 0)])]) [nmBx m O.x, .row 3 (rows eR O.x.ru), .bx [.gv 4], .bx [.gv 5], mpOf mII (nmM O.x.ks), mpOf mII (nmM O.x.ys)] := by
  have hv := vMach_bd hm
  have hc := vConf0 hm
  refine does_of (k := 6) Try.func53 rfl Try.ntmps53 rfl rfl fun w F0 S0 ρ0 => ?_
  dsimp only [argT, argH]
  repeat' first
    | refine g_seq ?_
    | refine g_skip ?_
    | refine g_exit ?_
    | refine g_block ?_
    | refine g_reg ?_
    | refine g_if_t rfl ?_
    | refine g_if_f rfl ?_
    | refine o_nil ?_
    | refine q_s ?_
    | refine q_se ?_
    | refine q_b ?_
    | refine q_be rfl ?_
    | refine q_bn rfl ?_
    | refine q_le ?_
    | refine q_ce ?_
    | (apply n3; (first | exact a_new (gb := .bx _) rfl); exact rfl; (try dsimp only [List.map_cons, List.map_nil, scC, Nat.reduceAdd]))
    | (apply p3; (first | exact a_pure (sv := .one _) rfl | exact a_pure (sv := .agg _) rfl | exact a_ld_rowI rfl rfl rfl (fC rfl) bnd | exact a_pure (sv := .tup _) rfl | exact a_cmp rfl rfl rfl trivial rfl | exact a_eqS rfl rfl rfl | exact a_add rfl rfl (by omega) (by omega)); exact rfl)
    | (apply w3; (first | exact a_st_bx rfl rfl rfl rfl (fN rfl rfl) (Nat.le_of_ble_eq_true rfl) rfl | exact a_stE (E := eR) ⟨_, _, _⟩ rfl rfl rfl rfl (fN rfl rfl) bnd (by exact rfl)); exact rfl; (try dsimp only [setRow, List.map_cons, List.map_nil, scC, List.set_cons_zero, List.set_cons_succ, List.take_succ_cons, List.take_zero, List.drop_succ_cons, List.drop_zero, Nat.reduceAdd]))
    | (apply c4 3; exact callK0 (θ := []) (hD := (runnerOf_ok _ _ preB16 preB16)); exact rfl; exact rfl; exact rfl; (try dsimp only [SV.ren, C.ren, C.ren.all, tRen, GB.ren, calF, upOf, List.cons_append, List.nil_append, Nat.reduceAdd]))
    | (apply c4 0; exact callM (θ := [0, 1, 2, 3, 4, 5]) (hD := (nmconfig_ok _ _ _ _)); exact rfl; exact rfl; exact rfl; (try dsimp only [SV.ren, C.ren, C.ren.all, tRen, GB.ren, calF, upOf, List.cons_append, List.nil_append, Nat.reduceAdd]))
    | (apply c4 0; exact callK1 (θ := []) (hD := (haltsC_ok _ _ preB16 preB16)); exact rfl; exact rfl; exact rfl; (try dsimp only [SV.ren, C.ren, C.ren.all, tRen, GB.ren, calF, upOf, List.cons_append, List.nil_append, Nat.reduceAdd]))
    | (apply c4 0; exact callK1 (θ := []) (hD := (ruleC_ok _ _ preB16 preB16)); exact rfl; exact rfl; exact rfl; (try dsimp only [SV.ren, C.ren, C.ren.all, tRen, GB.ren, calF, upOf, List.cons_append, List.nil_append, Nat.reduceAdd]))
    | (apply c4 0; exact callM (θ := [0, 1, 2, 3, 4, 5]) (hD := (nmstep_ok _ _ _ _ _ preB16 preB16 preB16 preB16 preB16 preB16 preB16 preB16 preB16 preB16 preB16 preB16 preB16)); exact rfl; exact rfl; exact rfl; (try dsimp only [SV.ren, C.ren, C.ren.all, tRen, GB.ren, calF, upOf, List.cons_append, List.nil_append, Nat.reduceAdd]))
    | (apply c4 2; exact callK0 (θ := [_, _, _]) (hD := (stepC_ok _ _ preB16 preB16)); exact rfl; exact rfl; exact rfl; (try dsimp only [SV.ren, C.ren, C.ren.all, tRen, GB.ren, calF, upOf, List.cons_append, List.nil_append, Nat.reduceAdd]))
    | refine o_no rfl rfl rfl rfl ?_
    | refine o_noN rfl rfl rfl ?_
    | (apply py3; exact rfl; exact rfl; (first | exact a_pure (sv := .one _) rfl | exact a_pure (sv := .agg _) rfl | exact a_ld_rowI rfl rfl rfl (fC rfl) bnd | exact a_pure (sv := .tup _) rfl | exact a_cmp rfl rfl rfl trivial rfl | exact a_eqS rfl rfl rfl | exact a_add rfl rfl (by omega) (by omega)); exact rfl; exact rfl)
    | (apply ny3; exact rfl; exact rfl; (first | exact a_new (gb := .bx _) rfl); exact rfl; exact rfl)
    | (apply cy4 3; exact rfl; exact rfl; exact callK0 (θ := []) (hD := (runnerOf_ok _ _ preB16 preB16)); exact rfl; exact rfl; exact rfl; exact rfl; (try dsimp only [SV.ren, C.ren, C.ren.all, tRen, GB.ren, calF, upOf, List.cons_append, List.nil_append, Nat.reduceAdd]))
    | (apply cy4 0; exact rfl; exact rfl; exact callM (θ := [0, 1, 2, 3, 4, 5]) (hD := (nmconfig_ok _ _ _ _)); exact rfl; exact rfl; exact rfl; exact rfl; (try dsimp only [SV.ren, C.ren, C.ren.all, tRen, GB.ren, calF, upOf, List.cons_append, List.nil_append, Nat.reduceAdd]))
    | (apply cy4 0; exact rfl; exact rfl; exact callK1 (θ := []) (hD := (haltsC_ok _ _ preB16 preB16)); exact rfl; exact rfl; exact rfl; exact rfl; (try dsimp only [SV.ren, C.ren, C.ren.all, tRen, GB.ren, calF, upOf, List.cons_append, List.nil_append, Nat.reduceAdd]))
    | (apply cy4 0; exact rfl; exact rfl; exact callK1 (θ := []) (hD := (ruleC_ok _ _ preB16 preB16)); exact rfl; exact rfl; exact rfl; exact rfl; (try dsimp only [SV.ren, C.ren, C.ren.all, tRen, GB.ren, calF, upOf, List.cons_append, List.nil_append, Nat.reduceAdd]))
    | (apply cy4 0; exact rfl; exact rfl; exact callM (θ := [0, 1, 2, 3, 4, 5]) (hD := (nmstep_ok _ _ _ _ _ preB16 preB16 preB16 preB16 preB16 preB16 preB16 preB16 preB16 preB16 preB16 preB16 preB16)); exact rfl; exact rfl; exact rfl; exact rfl; (try dsimp only [SV.ren, C.ren, C.ren.all, tRen, GB.ren, calF, upOf, List.cons_append, List.nil_append, Nat.reduceAdd]))
    | (apply cy4 2; exact rfl; exact rfl; exact callK0 (θ := [_, _, _]) (hD := (stepC_ok _ _ preB16 preB16)); exact rfl; exact rfl; exact rfl; exact rfl; (try dsimp only [SV.ren, C.ren, C.ren.all, tRen, GB.ren, calF, upOf, List.cons_append, List.nil_append, Nat.reduceAdd]))
    | (refine o_gs rfl rfl (fun hc => ?_) (fun hc => ?_) <;> (try simp only [decide_eq_true_eq, decide_eq_false_iff_not, Bool.not_eq_true', Bool.not_eq_false', Bool.not_eq_true, Bool.not_eq_false, Bool.and_eq_true, Bool.or_eq_false_iff, Bool.not_not] at hc) <;> (try (exfalso; omega)))
    | (refine g_cond rfl (fun hc => ?_) (fun hc => ?_) <;> (try simp only [decide_eq_true_eq, decide_eq_false_iff_not, Bool.not_eq_true', Bool.not_eq_false', Bool.not_eq_true, Bool.not_eq_false, Bool.and_eq_true, Bool.or_eq_false_iff, Bool.not_not] at hc) <;> (try (exfalso; omega)))
  refine g_loop_id ?_
  refine loopK [2, 3, 8, 9, 10, 11] [0, 1, 4, 5, 8, 9, 10] (fun y : Int × Conf × Int × Nm => 0 ≤ y.1 ∧ y.1 ≤ b ∧ vConf m y.2.1 = true ∧ -y.1 ≤ y.2.2.1 ∧ y.2.2.1 ≤ y.1 ∧ NmOk m y.2.1 y.2.2.2 ∧ runG m idC (nmS m) (b - y.1).toNat y.1 y.2.1 y.2.2.1 y.2.2.2 = O) (fun y => [(13, .one (int y.1)), (12, .one (int y.2.2.1))]) (fun y => [(8, ruBx m y.2.1.st 9 10), (9, roI y.2.1.le.reverse), (10, roI y.2.1.ri.reverse), (0, nmBx m y.2.2.2), (1, .row 3 (rows eR y.2.2.2.ru)), (4, mpOf mII (nmM y.2.2.2.ks)), (5, mpOf mII (nmM y.2.2.2.ys))]) (fun y => (b - y.1).toNat) ((0 : Int), c0, (0 : Int), x) [0, 1, 2, 3, 4, 5, 6, 7, 8, 9, 10] (hI := ?_) (hr := ?_)
  · exact ⟨by simp, by dsimp only; omega, hc, by simp, by simp, hx, by rw [← hO]; congr 1; dsimp only; omega⟩
  · rintro ⟨n, c, hd, x⟩ ⟨i1, i2, i3, i4, i5, i6, i10⟩
    dsimp only [List.cons_append, List.nil_append] at *
    skip
    have hbd := at_bd hm i3; have hok := ruAt_ok hm i3; have hat := nm_at hm i3 i6; have hfi := i6.h_fi
    repeat' first
      | refine g_seq ?_
      | refine g_skip ?_
      | refine g_exit ?_
      | refine g_block ?_
      | refine g_reg ?_
      | refine g_if_t rfl ?_
      | refine g_if_f rfl ?_
      | refine o_nil ?_
      | refine q_s ?_
      | refine q_se ?_
      | refine q_b ?_
      | refine q_be rfl ?_
      | refine q_bn rfl ?_
      | refine q_le ?_
      | refine q_ce ?_
      | (apply n3; (first | exact a_new (gb := .bx _) rfl); exact rfl; (try dsimp only [List.map_cons, List.map_nil, scC, Nat.reduceAdd]))
      | (apply p3; (first | exact a_pure (sv := .one _) rfl | exact a_pure (sv := .agg _) rfl | exact a_pure (sv := .tup _) rfl | exact a_cmp rfl rfl rfl trivial rfl | exact a_eqS rfl rfl rfl | exact a_ld_rowI rfl rfl rfl (fC rfl) bnd | exact a_add rfl rfl (by omega) (by omega)); exact rfl)
      | (apply w3; (first | exact a_st_bx rfl rfl rfl rfl (fN rfl rfl) (Nat.le_of_ble_eq_true rfl) rfl | exact a_stE (E := eR) ⟨_, _, _⟩ rfl rfl rfl rfl (fN rfl rfl) bnd (by exact rfl)); exact rfl; (try dsimp only [setRow, List.map_cons, List.map_nil, scC, List.set_cons_zero, List.set_cons_succ, List.take_succ_cons, List.take_zero, List.drop_succ_cons, List.drop_zero, Nat.reduceAdd]))
      | (apply c4 0; exact callM (θ := [0, 1, 2, 3, 4, 5]) (hD := (nmconfig_ok _ _ _ _)); exact rfl; exact rfl; exact rfl; (try dsimp only [SV.ren, C.ren, C.ren.all, tRen, GB.ren, calF, upOf, List.cons_append, List.nil_append, Nat.reduceAdd]))
      | (apply c4 0; exact callK1 (θ := []) (hD := (haltsC_ok _ _ preB16 preB16)); exact rfl; exact rfl; exact rfl; (try dsimp only [SV.ren, C.ren, C.ren.all, tRen, GB.ren, calF, upOf, List.cons_append, List.nil_append, Nat.reduceAdd]))
      | (apply c4 0; exact callK1 (θ := []) (hD := (ruleC_ok _ _ preB16 preB16)); exact rfl; exact rfl; exact rfl; (try dsimp only [SV.ren, C.ren, C.ren.all, tRen, GB.ren, calF, upOf, List.cons_append, List.nil_append, Nat.reduceAdd]))
      | (apply c4 0; exact callM (θ := [0, 1, 2, 3, 4, 5]) (hD := (nmstep_ok _ _ _ _ _ preB16 preB16 preB16 preB16 preB16 preB16 preB16 preB16 preB16 preB16 preB16 preB16 preB16)); exact rfl; exact rfl; exact rfl; (try dsimp only [SV.ren, C.ren, C.ren.all, tRen, GB.ren, calF, upOf, List.cons_append, List.nil_append, Nat.reduceAdd]))
      | (apply c4 2; exact callK0 (θ := [_, _, _]) (hD := (stepC_ok _ _ preB16 preB16)); exact rfl; exact rfl; exact rfl; (try dsimp only [SV.ren, C.ren, C.ren.all, tRen, GB.ren, calF, upOf, List.cons_append, List.nil_append, Nat.reduceAdd]))
      | refine o_no rfl rfl rfl rfl ?_
      | refine o_noN rfl rfl rfl ?_
      | (apply py3; exact rfl; exact rfl; (first | exact a_pure (sv := .one _) rfl | exact a_pure (sv := .agg _) rfl | exact a_pure (sv := .tup _) rfl | exact a_cmp rfl rfl rfl trivial rfl | exact a_eqS rfl rfl rfl | exact a_ld_rowI rfl rfl rfl (fC rfl) bnd | exact a_add rfl rfl (by omega) (by omega)); exact rfl; exact rfl)
      | (apply ny3; exact rfl; exact rfl; (first | exact a_new (gb := .bx _) rfl); exact rfl; exact rfl)
      | (apply cy4 0; exact rfl; exact rfl; exact callM (θ := [0, 1, 2, 3, 4, 5]) (hD := (nmconfig_ok _ _ _ _)); exact rfl; exact rfl; exact rfl; exact rfl; (try dsimp only [SV.ren, C.ren, C.ren.all, tRen, GB.ren, calF, upOf, List.cons_append, List.nil_append, Nat.reduceAdd]))
      | (apply cy4 0; exact rfl; exact rfl; exact callK1 (θ := []) (hD := (haltsC_ok _ _ preB16 preB16)); exact rfl; exact rfl; exact rfl; exact rfl; (try dsimp only [SV.ren, C.ren, C.ren.all, tRen, GB.ren, calF, upOf, List.cons_append, List.nil_append, Nat.reduceAdd]))
      | (apply cy4 0; exact rfl; exact rfl; exact callK1 (θ := []) (hD := (ruleC_ok _ _ preB16 preB16)); exact rfl; exact rfl; exact rfl; exact rfl; (try dsimp only [SV.ren, C.ren, C.ren.all, tRen, GB.ren, calF, upOf, List.cons_append, List.nil_append, Nat.reduceAdd]))
      | (apply cy4 0; exact rfl; exact rfl; exact callM (θ := [0, 1, 2, 3, 4, 5]) (hD := (nmstep_ok _ _ _ _ _ preB16 preB16 preB16 preB16 preB16 preB16 preB16 preB16 preB16 preB16 preB16 preB16 preB16)); exact rfl; exact rfl; exact rfl; exact rfl; (try dsimp only [SV.ren, C.ren, C.ren.all, tRen, GB.ren, calF, upOf, List.cons_append, List.nil_append, Nat.reduceAdd]))
      | (apply cy4 2; exact rfl; exact rfl; exact callK0 (θ := [_, _, _]) (hD := (stepC_ok _ _ preB16 preB16)); exact rfl; exact rfl; exact rfl; exact rfl; (try dsimp only [SV.ren, C.ren, C.ren.all, tRen, GB.ren, calF, upOf, List.cons_append, List.nil_append, Nat.reduceAdd]))
      | (refine o_gs rfl rfl (fun hc => ?_) (fun hc => ?_) <;> (try simp only [decide_eq_true_eq, decide_eq_false_iff_not, Bool.not_eq_true', Bool.not_eq_false', Bool.not_eq_true, Bool.not_eq_false, Bool.and_eq_true, Bool.or_eq_false_iff, Bool.not_not] at hc) <;> (try (exfalso; omega)))
      | (refine g_cond rfl (fun hc => ?_) (fun hc => ?_) <;> (try simp only [decide_eq_true_eq, decide_eq_false_iff_not, Bool.not_eq_true', Bool.not_eq_false', Bool.not_eq_true, Bool.not_eq_false, Bool.and_eq_true, Bool.or_eq_false_iff, Bool.not_not] at hc) <;> (try (exfalso; omega)))
    · by_cases hr : ruAt m c = noR
      · obtain rfl := run_halt hr i10
        repeat (first | refine g_ret ?_ | refine q_sr ?_ | refine q_br ?_ | refine q_lr ?_ | refine q_cr ?_)
        refine ends_id ?_
        exact endK [] (h2 := (by first | (with_reducible exact SVLe.refl) | exact SVLe.any | exact SVLe.one (.sh rfl) | exact SVLe.one (.nil (by decide)) | (refine SVLe.agg ?_; repeat (first | exact CsLe.nil | refine CsLe.cons ?_ ?_ | exact CLe.refl | exact CLe.sh rfl | exact CLe.nil (by decide) | (refine cle_i ?_; simp [hr]) | (refine cle_b ?_; simp [hr]))) | (refine SVLe.tup ?_; repeat (first | exact TLe.nil | refine TLe.cons ?_ ?_ | exact CsLe.nil | refine CsLe.cons ?_ ?_ | exact CLe.refl | exact CLe.sh rfl | exact CLe.nil (by decide) | (refine cle_i ?_; simp [hr]) | (refine cle_b ?_; simp [hr]))) | exact SVLe.refl | (refine sle_i ?_; simp [hr]) | (refine sle_b ?_; simp [hr]))) (h3 := (by repeat (first | exact trivial | refine And.intro ?_ ?_ | exact Or.inl rfl | exact Or.inr rfl | (refine Or.inr (row_eq ?_); simp [hr]) | (refine Or.inr (bx_eq rfl rfl ?_); (try dsimp only [C.ren, C.ren.all]); simp [hr]))))
      · obtain rfl := run_end hr hc i10
        repeat (first | refine g_ret ?_ | refine q_sr ?_ | refine q_br ?_ | refine q_lr ?_ | refine q_cr ?_)
        refine ends_id ?_
        exact endK [] (h2 := (by first | (with_reducible exact SVLe.refl) | exact SVLe.any | exact SVLe.one (.sh rfl) | exact SVLe.one (.nil (by decide)) | (refine SVLe.agg ?_; repeat (first | exact CsLe.nil | refine CsLe.cons ?_ ?_ | exact CLe.refl | exact CLe.sh rfl | exact CLe.nil (by decide) | (refine cle_i ?_; simp [hr]) | (refine cle_b ?_; simp [hr]))) | (refine SVLe.tup ?_; repeat (first | exact TLe.nil | refine TLe.cons ?_ ?_ | exact CsLe.nil | refine CsLe.cons ?_ ?_ | exact CLe.refl | exact CLe.sh rfl | exact CLe.nil (by decide) | (refine cle_i ?_; simp [hr]) | (refine cle_b ?_; simp [hr]))) | exact SVLe.refl | (refine sle_i ?_; simp [hr]) | (refine sle_b ?_; simp [hr]))) (h3 := (by repeat (first | exact trivial | refine And.intro ?_ ?_ | exact Or.inl rfl | exact Or.inr rfl | (refine Or.inr (row_eq ?_); simp [hr]) | (refine Or.inr (bx_eq rfl rfl ?_); (try dsimp only [C.ren, C.ren.all]); simp [hr]))))
    · obtain rfl := run_halt hc i10
      repeat (first | refine g_ret ?_ | refine q_sr ?_ | refine q_br ?_ | refine q_lr ?_ | refine q_cr ?_)
      refine ends_id ?_
      exact endK [] (h2 := (by first | (with_reducible exact SVLe.refl) | exact SVLe.any | exact SVLe.one (.sh rfl) | exact SVLe.one (.nil (by decide)) | (refine SVLe.agg ?_; repeat (first | exact CsLe.nil | refine CsLe.cons ?_ ?_ | exact CLe.refl | exact CLe.sh rfl | exact CLe.nil (by decide) | (refine cle_i ?_; simp [hc]) | (refine cle_b ?_; simp [hc]))) | (refine SVLe.tup ?_; repeat (first | exact TLe.nil | refine TLe.cons ?_ ?_ | exact CsLe.nil | refine CsLe.cons ?_ ?_ | exact CLe.refl | exact CLe.sh rfl | exact CLe.nil (by decide) | (refine cle_i ?_; simp [hc]) | (refine cle_b ?_; simp [hc]))) | exact SVLe.refl | (refine sle_i ?_; simp [hc]) | (refine sle_b ?_; simp [hc]))) (h3 := (by repeat (first | exact trivial | refine And.intro ?_ ?_ | exact Or.inl rfl | exact Or.inr rfl | (refine Or.inr (row_eq ?_); simp [hc]) | (refine Or.inr (bx_eq rfl rfl ?_); (try dsimp only [C.ren, C.ren.all]); simp [hc]))))
    · rename_i hn hr
      obtain rfl := run_full hr (by omega) hc i10
      repeat (first | refine g_ret ?_ | refine q_sr ?_ | refine q_br ?_ | refine q_lr ?_ | refine q_cr ?_)
      refine ends_id ?_
      exact endK [] (h2 := (by first | (with_reducible exact SVLe.refl) | exact SVLe.any | exact SVLe.one (.sh rfl) | exact SVLe.one (.nil (by decide)) | (refine SVLe.agg ?_; repeat (first | exact CsLe.nil | refine CsLe.cons ?_ ?_ | exact CLe.refl | exact CLe.sh rfl | exact CLe.nil (by decide) | (refine cle_i ?_; simp) | (refine cle_b ?_; simp))) | (refine SVLe.tup ?_; repeat (first | exact TLe.nil | refine TLe.cons ?_ ?_ | exact CsLe.nil | refine CsLe.cons ?_ ?_ | exact CLe.refl | exact CLe.sh rfl | exact CLe.nil (by decide) | (refine cle_i ?_; simp) | (refine cle_b ?_; simp))) | exact SVLe.refl | (refine sle_i ?_; simp) | (refine sle_b ?_; simp))) (h3 := (by repeat (first | exact trivial | refine And.intro ?_ ?_ | exact Or.inl rfl | exact Or.inr rfl | (refine Or.inr (row_eq ?_); simp) | (refine Or.inr (bx_eq rfl rfl ?_); (try dsimp only [C.ren, C.ren.all]); simp))))
    · rename_i hn hr
      have hok := hok hr
      repeat' first
        | refine g_seq ?_
        | refine g_skip ?_
        | refine g_exit ?_
        | refine g_block ?_
        | refine g_reg ?_
        | refine g_if_t rfl ?_
        | refine g_if_f rfl ?_
        | refine o_nil ?_
        | refine q_s ?_
        | refine q_se ?_
        | refine q_b ?_
        | refine q_be rfl ?_
        | refine q_bn rfl ?_
        | refine q_le ?_
        | refine q_ce ?_
        | (apply n3; (first | exact a_new (gb := .bx _) rfl); exact rfl; (try dsimp only [List.map_cons, List.map_nil, scC, Nat.reduceAdd]))
        | (apply p3; (first | exact a_pure (sv := .one _) rfl | exact a_pure (sv := .agg _) rfl | exact a_pure (sv := .tup _) rfl | exact a_cmp rfl rfl rfl trivial rfl | exact a_eqS rfl rfl rfl | exact a_ld_rowI rfl rfl rfl (fC rfl) bnd | exact a_add rfl rfl (by omega) (by omega)); exact rfl)
        | (apply w3; (first | exact a_st_bx rfl rfl rfl rfl (fN rfl rfl) (Nat.le_of_ble_eq_true rfl) rfl | exact a_stE (E := eR) ⟨_, _, _⟩ rfl rfl rfl rfl (fN rfl rfl) bnd (by exact rfl)); exact rfl; (try dsimp only [setRow, List.map_cons, List.map_nil, scC, List.set_cons_zero, List.set_cons_succ, List.take_succ_cons, List.take_zero, List.drop_succ_cons, List.drop_zero, Nat.reduceAdd]))
        | (apply c4 0; exact callM (θ := [0, 1, 2, 3, 4, 5]) (hD := (nmconfig_ok _ _ _ _)); exact rfl; exact rfl; exact rfl; (try dsimp only [SV.ren, C.ren, C.ren.all, tRen, GB.ren, calF, upOf, List.cons_append, List.nil_append, Nat.reduceAdd]))
        | (apply c4 0; exact callK1 (θ := []) (hD := (haltsC_ok _ _ preB16 preB16)); exact rfl; exact rfl; exact rfl; (try dsimp only [SV.ren, C.ren, C.ren.all, tRen, GB.ren, calF, upOf, List.cons_append, List.nil_append, Nat.reduceAdd]))
        | (apply c4 0; exact callK1 (θ := []) (hD := (ruleC_ok _ _ preB16 preB16)); exact rfl; exact rfl; exact rfl; (try dsimp only [SV.ren, C.ren, C.ren.all, tRen, GB.ren, calF, upOf, List.cons_append, List.nil_append, Nat.reduceAdd]))
        | (apply c4 0; exact callM (θ := [0, 1, 2, 3, 4, 5]) (hD := (nmstep_ok _ _ _ _ _ preB16 preB16 preB16 preB16 preB16 preB16 preB16 preB16 preB16 preB16 preB16 preB16 preB16)); exact rfl; exact rfl; exact rfl; (try dsimp only [SV.ren, C.ren, C.ren.all, tRen, GB.ren, calF, upOf, List.cons_append, List.nil_append, Nat.reduceAdd]))
        | (apply c4 2; exact callK0 (θ := [_, _, _]) (hD := (stepC_ok _ _ preB16 preB16)); exact rfl; exact rfl; exact rfl; (try dsimp only [SV.ren, C.ren, C.ren.all, tRen, GB.ren, calF, upOf, List.cons_append, List.nil_append, Nat.reduceAdd]))
        | refine o_no rfl rfl rfl rfl ?_
        | refine o_noN rfl rfl rfl ?_
        | (apply py3; exact rfl; exact rfl; (first | exact a_pure (sv := .one _) rfl | exact a_pure (sv := .agg _) rfl | exact a_pure (sv := .tup _) rfl | exact a_cmp rfl rfl rfl trivial rfl | exact a_eqS rfl rfl rfl | exact a_ld_rowI rfl rfl rfl (fC rfl) bnd | exact a_add rfl rfl (by omega) (by omega)); exact rfl; exact rfl)
        | (apply ny3; exact rfl; exact rfl; (first | exact a_new (gb := .bx _) rfl); exact rfl; exact rfl)
        | (apply cy4 0; exact rfl; exact rfl; exact callM (θ := [0, 1, 2, 3, 4, 5]) (hD := (nmconfig_ok _ _ _ _)); exact rfl; exact rfl; exact rfl; exact rfl; (try dsimp only [SV.ren, C.ren, C.ren.all, tRen, GB.ren, calF, upOf, List.cons_append, List.nil_append, Nat.reduceAdd]))
        | (apply cy4 0; exact rfl; exact rfl; exact callK1 (θ := []) (hD := (haltsC_ok _ _ preB16 preB16)); exact rfl; exact rfl; exact rfl; exact rfl; (try dsimp only [SV.ren, C.ren, C.ren.all, tRen, GB.ren, calF, upOf, List.cons_append, List.nil_append, Nat.reduceAdd]))
        | (apply cy4 0; exact rfl; exact rfl; exact callK1 (θ := []) (hD := (ruleC_ok _ _ preB16 preB16)); exact rfl; exact rfl; exact rfl; exact rfl; (try dsimp only [SV.ren, C.ren, C.ren.all, tRen, GB.ren, calF, upOf, List.cons_append, List.nil_append, Nat.reduceAdd]))
        | (apply cy4 0; exact rfl; exact rfl; exact callM (θ := [0, 1, 2, 3, 4, 5]) (hD := (nmstep_ok _ _ _ _ _ preB16 preB16 preB16 preB16 preB16 preB16 preB16 preB16 preB16 preB16 preB16 preB16 preB16)); exact rfl; exact rfl; exact rfl; exact rfl; (try dsimp only [SV.ren, C.ren, C.ren.all, tRen, GB.ren, calF, upOf, List.cons_append, List.nil_append, Nat.reduceAdd]))
        | (apply cy4 2; exact rfl; exact rfl; exact callK0 (θ := [_, _, _]) (hD := (stepC_ok _ _ preB16 preB16)); exact rfl; exact rfl; exact rfl; exact rfl; (try dsimp only [SV.ren, C.ren, C.ren.all, tRen, GB.ren, calF, upOf, List.cons_append, List.nil_append, Nat.reduceAdd]))
        | (refine o_gs rfl rfl (fun hc => ?_) (fun hc => ?_) <;> (try simp only [decide_eq_true_eq, decide_eq_false_iff_not, Bool.not_eq_true', Bool.not_eq_false', Bool.not_eq_true, Bool.not_eq_false, Bool.and_eq_true, Bool.or_eq_false_iff, Bool.not_not] at hc) <;> (try (exfalso; omega)))
        | (refine g_cond rfl (fun hc => ?_) (fun hc => ?_) <;> (try simp only [decide_eq_true_eq, decide_eq_false_iff_not, Bool.not_eq_true', Bool.not_eq_false', Bool.not_eq_true, Bool.not_eq_false, Bool.and_eq_true, Bool.or_eq_false_iff, Bool.not_not] at hc) <;> (try (exfalso; omega)))
      refine q_again (n + 1, stepS (ruAt m c) c, hd + (ruAt m c).m, nmS m c hd (ruAt m c) x) [0, 1, 2, 3, 4, 5, 6, 7, 8, 12, 13] (by exact stk) ?_ ?_
      · exact ⟨by dsimp only; omega, by dsimp only; omega, stepS_ok hm i3 hr hc, by dsimp only; omega, by dsimp only; omega, i6.step hm i3 hr hd, run_next hr (by omega) hc i10⟩
      · dsimp only; omega
theorem emptyMachine_ok (st sy : Int) (h1 : 0 ≤ st) (h2 : st ≤ 1000) (h3 : 0 ≤ sy) (h4 : sy ≤ 6) (h5 : 0 ≤ st * sy) (h6 : st * sy ≤ 6000) : Does Try.prog 52 [.one (int st), .one (int sy)] [] (.agg [int sy, int st, .gv 0]) [.row 3 (rows eR (List.replicate (st * sy).toNat noR))] := by
  refine does_of (k := 0) Try.func52 rfl Try.ntmps52 rfl rfl fun w F0 S0 ρ0 => ?_
  dsimp only [argT, argH]
  repeat' first
    | refine g_seq ?_
    | refine g_skip ?_
    | refine g_exit ?_
    | refine g_block ?_
    | refine g_reg ?_
    | refine g_if_t rfl ?_
    | refine g_if_f rfl ?_
    | refine o_nil ?_
    | refine q_s ?_
    | refine q_se ?_
    | refine q_b ?_
    | refine q_be rfl ?_
    | refine q_bn rfl ?_
    | refine q_le ?_
    | refine q_ce ?_
    | (apply n3; (first | exact a_new (gb := .bx _) rfl | exact a_litE eR [⟨_, _, _⟩] rfl rfl rfl rfl rfl rfl rfl rfl); exact rfl; (try dsimp only [List.map_cons, List.map_nil, scC, Nat.reduceAdd]))
    | (apply p3; (first | exact a_pure (sv := .one _) rfl | exact a_pure (sv := .agg _) rfl | exact a_pure (sv := .tup _) rfl | exact a_mulB rfl rfl (by omega) (by omega) (by omega) (by omega) | exact a_mul rfl rfl (by first | omega | assumption) (by first | omega | assumption)); exact rfl)
    | (apply w3; (first | exact a_st_bx rfl rfl rfl rfl (fN rfl rfl) (Nat.le_of_ble_eq_true rfl) rfl); exact rfl; (try dsimp only [setRow, List.map_cons, List.map_nil, scC, List.set_cons_zero, List.set_cons_succ, List.take_succ_cons, List.take_zero, List.drop_succ_cons, List.drop_zero, Nat.reduceAdd]))
    | (apply c4 0; exact callK1 (θ := []) (hD := noRule_ok); exact rfl; exact rfl; exact rfl; (try dsimp only [SV.ren, C.ren, C.ren.all, tRen, GB.ren, calF, upOf, List.cons_append, List.nil_append, Nat.reduceAdd]))
    | (apply c4 1; exact callK1 (θ := []) (hD := (repeatR_ok _ _ preB16 preB16)); exact rfl; exact rfl; exact rfl; (try dsimp only [SV.ren, C.ren, C.ren.all, tRen, GB.ren, calF, upOf, List.cons_append, List.nil_append, Nat.reduceAdd]))
    | (refine o_gs rfl rfl (fun hc => ?_) (fun hc => ?_) <;> (try simp only [decide_eq_true_eq, decide_eq_false_iff_not, Bool.not_eq_true', Bool.not_eq_false', Bool.not_eq_true, Bool.not_eq_false, Bool.and_eq_true, Bool.or_eq_false_iff, Bool.not_not] at hc) <;> (try (exfalso; omega)))
    | (refine g_cond rfl (fun hc => ?_) (fun hc => ?_) <;> (try simp only [decide_eq_true_eq, decide_eq_false_iff_not, Bool.not_eq_true', Bool.not_eq_false', Bool.not_eq_true, Bool.not_eq_false, Bool.and_eq_true, Bool.or_eq_false_iff, Bool.not_not] at hc) <;> (try (exfalso; omega)))
  repeat (first | refine g_ret ?_ | refine q_sr ?_ | refine q_br ?_ | refine q_lr ?_ | refine q_cr ?_)
  refine ends_id ?_
  exact endK [_] (h2 := (by first | (with_reducible exact SVLe.refl) | exact SVLe.any | exact SVLe.one (.sh rfl) | exact SVLe.one (.nil (by decide)) | (refine SVLe.agg ?_; repeat (first | exact CsLe.nil | refine CsLe.cons ?_ ?_ | exact CLe.refl | exact CLe.sh rfl | exact CLe.nil (by decide) | (refine cle_i ?_; rfl) | (refine cle_b ?_; rfl))) | (refine SVLe.tup ?_; repeat (first | exact TLe.nil | refine TLe.cons ?_ ?_ | exact CsLe.nil | refine CsLe.cons ?_ ?_ | exact CLe.refl | exact CLe.sh rfl | exact CLe.nil (by decide) | (refine cle_i ?_; rfl) | (refine cle_b ?_; rfl))) | exact SVLe.refl | (refine sle_i ?_; rfl) | (refine sle_b ?_; rfl))) (h3 := (by repeat (first | exact trivial | refine And.intro ?_ ?_ | exact Or.inl rfl | exact Or.inr rfl | (refine Or.inr (row_eq ?_); rfl) | (refine Or.inr (bx_eq rfl rfl ?_); (try dsimp only [C.ren, C.ren.all]); rfl))))
theorem runCode0_ok (m : Mach) (b : Int) (hm : (m.ru.length : Int) ≤ 16777216) : Does Try.prog 61 [.agg (maC m), .agg (coC c0), .one (int b)] [] (.one (int (askC m c0 b))) [] := runCode_ok m c0 b hm (by simp) (by simp)
theorem budgeted_ok (m : Mach) (b : Int) (hm : (m.ru.length : Int) ≤ 16777216) : Does Try.prog 50 [.agg (maC m), .one (int b)] [] (.one (int (askC m c0 b))) [] := by
  refine does_of (k := 0) Try.func50 rfl Try.ntmps50 rfl rfl fun w F0 S0 ρ0 => ?_
  dsimp only [argT, argH]
  repeat' first
    | refine g_seq ?_
    | refine g_skip ?_
    | refine g_exit ?_
    | refine g_block ?_
    | refine g_reg ?_
    | refine g_if_t rfl ?_
    | refine g_if_f rfl ?_
    | refine o_nil ?_
    | refine q_s ?_
    | refine q_se ?_
    | refine q_b ?_
    | refine q_be rfl ?_
    | refine q_bn rfl ?_
    | refine q_le ?_
    | refine q_ce ?_
    | (apply n3; (first | exact a_new (gb := .bx _) rfl); exact rfl; (try dsimp only [List.map_cons, List.map_nil, scC, Nat.reduceAdd]))
    | (apply p3; (first | exact a_pure (sv := .one _) rfl | exact a_pure (sv := .agg _) rfl | exact a_ld_rowI rfl rfl rfl (fC rfl) bnd | exact a_pure (sv := .tup _) rfl); exact rfl)
    | (apply c4 0; exact callK1 (θ := []) (hD := (runCode0_ok _ _ preB16)); exact rfl; exact rfl; exact rfl; (try dsimp only [SV.ren, C.ren, C.ren.all, tRen, GB.ren, calF, upOf, List.cons_append, List.nil_append, Nat.reduceAdd]))
    | (apply c4 0; exact callK1 (θ := []) (hD := (runCode_ok _ _ _ preB16 preB16 preB16)); exact rfl; exact rfl; exact rfl; (try dsimp only [SV.ren, C.ren, C.ren.all, tRen, GB.ren, calF, upOf, List.cons_append, List.nil_append, Nat.reduceAdd]))
    | (refine o_gs rfl rfl (fun hc => ?_) (fun hc => ?_) <;> (try simp only [decide_eq_true_eq, decide_eq_false_iff_not, Bool.not_eq_true', Bool.not_eq_false', Bool.not_eq_true, Bool.not_eq_false, Bool.and_eq_true, Bool.or_eq_false_iff, Bool.not_not] at hc) <;> (try (exfalso; omega)))
    | (refine g_cond rfl (fun hc => ?_) (fun hc => ?_) <;> (try simp only [decide_eq_true_eq, decide_eq_false_iff_not, Bool.not_eq_true', Bool.not_eq_false', Bool.not_eq_true, Bool.not_eq_false, Bool.and_eq_true, Bool.or_eq_false_iff, Bool.not_not] at hc) <;> (try (exfalso; omega)))
  repeat (first | refine g_ret ?_ | refine q_sr ?_ | refine q_br ?_ | refine q_lr ?_ | refine q_cr ?_)
  refine ends_id ?_
  exact endK [] (h2 := (by first | (with_reducible exact SVLe.refl) | exact SVLe.any | exact SVLe.one (.sh rfl) | exact SVLe.one (.nil (by decide)) | (refine SVLe.agg ?_; repeat (first | exact CsLe.nil | refine CsLe.cons ?_ ?_ | exact CLe.refl | exact CLe.sh rfl | exact CLe.nil (by decide) | (refine cle_i ?_; rfl) | (refine cle_b ?_; rfl))) | (refine SVLe.tup ?_; repeat (first | exact TLe.nil | refine TLe.cons ?_ ?_ | exact CsLe.nil | refine CsLe.cons ?_ ?_ | exact CLe.refl | exact CLe.sh rfl | exact CLe.nil (by decide) | (refine cle_i ?_; rfl) | (refine cle_b ?_; rfl))) | exact SVLe.refl | (refine sle_i ?_; rfl) | (refine sle_b ?_; rfl))) (h3 := (by repeat (first | exact trivial | refine And.intro ?_ ?_ | exact Or.inl rfl | exact Or.inr rfl | (refine Or.inr (row_eq ?_); rfl) | (refine Or.inr (bx_eq rfl rfl ?_); (try dsimp only [C.ren, C.ren.all]); rfl))))
abbrev nm0 (m : Mach) : Nm := ⟨List.replicate (m.st * m.sy).toNat noR, [0], [0], 0⟩
@[irreducible] def nmRun (m : Mach) (b : Int) : Out Nm := runG m idC (nmS m) b.toNat 0 c0 0 (nm0 m)
theorem nmM0 : nmM [0] = [(0, 0)] := by unfold nmM; rfl
theorem fresh_ok : Does Try.prog 51 [] [] (.one (.gv 0)) [.bx [.gv 1], mpOf mII (nmM [0])] := by
  rw [nmM0]
  refine does_of (k := 0) Try.func51 rfl Try.ntmps51 rfl rfl fun w F0 S0 ρ0 => ?_
  dsimp only [argT, argH]
  repeat' first
    | refine g_seq ?_
    | refine g_skip ?_
    | refine g_exit ?_
    | refine g_block ?_
    | refine g_reg ?_
    | refine g_if_t rfl ?_
    | refine g_if_f rfl ?_
    | refine o_nil ?_
    | refine q_s ?_
    | refine q_se ?_
    | refine q_b ?_
    | refine q_be rfl ?_
    | refine q_bn rfl ?_
    | refine q_le ?_
    | refine q_ce ?_
    | (apply n3; (first | exact a_mkMapE mII | exact a_new (gb := .bx _) rfl); exact rfl; (try dsimp only [List.map_cons, List.map_nil, scC, Nat.reduceAdd]))
    | (apply p3; (first | exact a_pure (sv := .one _) rfl | exact a_pure (sv := .agg _) rfl | exact a_pure (sv := .tup _) rfl); exact rfl)
    | (apply w3; (first | exact a_insert (M := mII) rfl rfl rfl rfl Try.underlying78 (by kernel_rfl)); exact rfl; (try dsimp only [setRow, List.map_cons, List.map_nil, scC, List.set_cons_zero, List.set_cons_succ, List.take_succ_cons, List.take_zero, List.drop_succ_cons, List.drop_zero, Nat.reduceAdd]))
    | (refine o_gs rfl rfl (fun hc => ?_) (fun hc => ?_) <;> (try simp only [decide_eq_true_eq, decide_eq_false_iff_not, Bool.not_eq_true', Bool.not_eq_false', Bool.not_eq_true, Bool.not_eq_false, Bool.and_eq_true, Bool.or_eq_false_iff, Bool.not_not] at hc) <;> (try (exfalso; omega)))
    | (refine g_cond rfl (fun hc => ?_) (fun hc => ?_) <;> (try simp only [decide_eq_true_eq, decide_eq_false_iff_not, Bool.not_eq_true', Bool.not_eq_false', Bool.not_eq_true, Bool.not_eq_false, Bool.and_eq_true, Bool.or_eq_false_iff, Bool.not_not] at hc) <;> (try (exfalso; omega)))
  repeat (first | refine g_ret ?_ | refine q_sr ?_ | refine q_br ?_ | refine q_lr ?_ | refine q_cr ?_)
  refine ends_id ?_
  exact endK [_, _] (h2 := (by first | (with_reducible exact SVLe.refl) | exact SVLe.any | exact SVLe.one (.sh rfl) | exact SVLe.one (.nil (by decide)) | (refine SVLe.agg ?_; repeat (first | exact CsLe.nil | refine CsLe.cons ?_ ?_ | exact CLe.refl | exact CLe.sh rfl | exact CLe.nil (by decide) | (refine cle_i ?_; rfl) | (refine cle_b ?_; rfl))) | (refine SVLe.tup ?_; repeat (first | exact TLe.nil | refine TLe.cons ?_ ?_ | exact CsLe.nil | refine CsLe.cons ?_ ?_ | exact CLe.refl | exact CLe.sh rfl | exact CLe.nil (by decide) | (refine cle_i ?_; rfl) | (refine cle_b ?_; rfl))) | exact SVLe.refl | (refine sle_i ?_; rfl) | (refine sle_b ?_; rfl))) (h3 := (by repeat (first | exact trivial | refine And.intro ?_ ?_ | exact Or.inl rfl | exact Or.inr rfl | (refine Or.inr (row_eq ?_); rfl) | (refine Or.inr (bx_eq rfl rfl ?_); (try dsimp only [C.ren, C.ren.all]); rfl))))
theorem nmOk0 {m : Mach} (hm : vMach m = true) : NmOk m c0 (nm0 m) := by
  have hv := vMach_bd hm
  refine ⟨?_, .inl rfl, ⟨by simp, by simp; omega⟩, ⟨by simp, by simp; omega⟩, by simp, by simp, by simp, by simp⟩
  have : m.st * m.sy = m.ru.length := by rw [Int.mul_comm]; exact hv.2.2.symm
  rw [List.length_replicate, this]
  simp
--HIDE followW_ok
theorem followWA_ok (m : Mach) (b : Int) (ha : askC m c0 b = 0) : Does Try.prog 53 [.agg (maC m), .agg (coC c0), .one (int b), .one (.ifc 82 false [.gv 0])] [.bx [int m.sy, int m.st, .gv 1, .gv 2, .gv 3, int 0], .row 3 (rows eR (List.replicate (m.st * m.sy).toNat noR)), .bx [.gv 4], .bx [.gv 5], mpOf mII (nmM [0]), mpOf mII (nmM [0])] (.tup [(false, [int (if (nmRun m b).full then 0 else (nmRun m b).n)]), (false, [boo (nmRun m b).halts]), (false, [int (if (nmRun m b).full then 5 else 0)])]) [nmBx m (nmRun m b).x, .row 3 (rows eR (nmRun m b).x.ru), .bx [.gv 4], .bx [.gv 5], mpOf mII (nmM (nmRun m b).x.ks), mpOf mII (nmM (nmRun m b).x.ys)] := by
  obtain ⟨h1, h2, h3, h4⟩ := ask_ok ha
  exact followW_ok m b (nm0 m) h1 h3 h4 (nmOk0 h1) _ (by unfold nmRun; rfl)
@[irreducible] def nrCode (m : Mach) (b : Int) : Int := if askC m c0 b = 0 then if (nmRun m b).full then 5 else 0 else askC m c0 b
@[irreducible] def nrM (m : Mach) (b : Int) : Mach := if nrCode m b = 0 then ⟨m.sy, m.st, (nmRun m b).x.ru⟩ else ⟨0, 0, []⟩
theorem iNormalOf_ok (m : Mach) (b : Int) (hm : (m.ru.length : Int) ≤ 16777216) : Does Try.prog 14 [.agg (maC m), .one (int b)] [] (.tup [(true, [int (nrM m b).sy, int (nrM m b).st, .gv 0]), (false, [int (nrCode m b)])]) [.row 3 (rows eR (nrM m b).ru)] := by
  have hcode : nrCode m b = if askC m c0 b = 0 then if (nmRun m b).full then 5 else 0 else askC m c0 b := by unfold nrCode; rfl
  have hres : nrM m b = if nrCode m b = 0 then ⟨m.sy, m.st, (nmRun m b).x.ru⟩ else ⟨0, 0, []⟩ := by unfold nrM; rfl
  by_cases ha : askC m c0 b = 0
  · have hv := vMach_bd (ask_ok ha).1
    have hp1 : 0 ≤ m.st * m.sy := Int.mul_nonneg (by omega) (by omega)
    have hp2 : m.st * m.sy ≤ 1000 * 6 := Int.mul_le_mul (by omega) (by omega) (by omega) (by omega)
    have hC : nrCode m b = if (nmRun m b).full then 5 else 0 := by rw [hcode, if_pos ha]
    refine does_of (k := 0) Try.func14 rfl Try.ntmps14 rfl rfl fun w F0 S0 ρ0 => ?_
    dsimp only [argT, argH]
    repeat' first
      | refine g_seq ?_
      | refine g_skip ?_
      | refine g_exit ?_
      | refine g_block ?_
      | refine g_reg ?_
      | refine g_if_t rfl ?_
      | refine g_if_f rfl ?_
      | refine o_nil ?_
      | refine q_s ?_
      | refine q_se ?_
      | refine q_b ?_
      | refine q_be rfl ?_
      | refine q_bn rfl ?_
      | refine q_le ?_
      | refine q_ce ?_
      | (apply n3; (first | exact a_new (gb := .bx _) rfl); exact rfl; (try dsimp only [List.map_cons, List.map_nil, scC, Nat.reduceAdd]))
      | (apply p3; (first | exact a_pure (sv := .one _) rfl | exact a_pure (sv := .agg _) rfl | exact a_ld_rowI rfl rfl rfl (fC rfl) bnd | exact a_pure (sv := .tup _) rfl | exact a_ne rfl rfl | exact a_neS rfl rfl rfl); exact rfl)
      | (apply w3; (first | exact a_st_bx rfl rfl rfl rfl (fN rfl rfl) (Nat.le_of_ble_eq_true rfl) rfl); exact rfl; (try dsimp only [setRow, List.map_cons, List.map_nil, scC, List.set_cons_zero, List.set_cons_succ, List.take_succ_cons, List.take_zero, List.drop_succ_cons, List.drop_zero, Nat.reduceAdd]))
      | (apply c4 0; exact callK1 (θ := []) (hD := (budgeted_ok _ _ preB16)); exact rfl; exact rfl; exact rfl; (try dsimp only [SV.ren, C.ren, C.ren.all, tRen, GB.ren, calF, upOf, List.cons_append, List.nil_append, Nat.reduceAdd]))
      | (apply c4 1; exact callK1 (θ := []) (hD := (emptyMachine_ok _ _ preB16 preB16 preB16 preB16 preB16 preB16)); exact rfl; exact rfl; exact rfl; (try dsimp only [SV.ren, C.ren, C.ren.all, tRen, GB.ren, calF, upOf, List.cons_append, List.nil_append, Nat.reduceAdd]))
      | (apply c4 2; exact callK1 (θ := []) (hD := (fresh_ok)); exact rfl; exact rfl; exact rfl; (try dsimp only [SV.ren, C.ren, C.ren.all, tRen, GB.ren, calF, upOf, List.cons_append, List.nil_append, Nat.reduceAdd]))
      | (apply c4 0; exact callK1 (θ := [_]) (hD := (followMA_ok _ _ _ preB16)); exact rfl; exact rfl; exact rfl; (try dsimp only [SV.ren, C.ren, C.ren.all, tRen, GB.ren, calF, upOf, List.cons_append, List.nil_append, Nat.reduceAdd]))
      | (apply c4 1; exact callK1 (θ := [_, _]) (hD := (followXA_ok _ _ _ _ preB16 preB16 preB16)); exact rfl; exact rfl; exact rfl; (try dsimp only [SV.ren, C.ren, C.ren.all, tRen, GB.ren, calF, upOf, List.cons_append, List.nil_append, Nat.reduceAdd]))
      | (apply c4 0; exact callK1 (θ := [_, _, _, _]) (hD := (followNA_ok _ _ _ preB16)); exact rfl; exact rfl; exact rfl; (try dsimp only [SV.ren, C.ren, C.ren.all, tRen, GB.ren, calF, upOf, List.cons_append, List.nil_append, Nat.reduceAdd]))
      | (apply c4 0; exact callK1 (θ := [_, _, _, _, _, _]) (hD := (followWA_ok _ _ preB16)); exact rfl; exact rfl; exact rfl; (try dsimp only [SV.ren, C.ren, C.ren.all, tRen, GB.ren, calF, upOf, List.cons_append, List.nil_append, Nat.reduceAdd]))
      | (refine o_gs rfl rfl (fun hc => ?_) (fun hc => ?_) <;> (try simp only [decide_eq_true_eq, decide_eq_false_iff_not, Bool.not_eq_true', Bool.not_eq_false', Bool.not_eq_true, Bool.not_eq_false, Bool.and_eq_true, Bool.or_eq_false_iff, Bool.not_not] at hc) <;> (try (exfalso; omega)))
      | (refine g_cond rfl (fun hc => ?_) (fun hc => ?_) <;> (try simp only [decide_eq_true_eq, decide_eq_false_iff_not, Bool.not_eq_true', Bool.not_eq_false', Bool.not_eq_true, Bool.not_eq_false, Bool.and_eq_true, Bool.or_eq_false_iff, Bool.not_not] at hc) <;> (try (exfalso; omega)))
    · have hM : nrM m b = ⟨0, 0, []⟩ := by rw [hres, hC, if_neg hc]
      rw [hM, hC]
      refine g_conv (t_nilB (i := 1) (k := 2) (z := 3) rfl rfl rfl (by decide)) ?_
      try dsimp only [setRow, List.map_cons, List.map_nil, scC, List.set_cons_zero, List.set_cons_succ]
      repeat (first | refine g_ret ?_ | refine q_sr ?_ | refine q_br ?_ | refine q_lr ?_ | refine q_cr ?_)
      refine ends_id ?_
      exact endK [_] (h2 := (by first | (with_reducible exact SVLe.refl) | exact SVLe.any | exact SVLe.one (.sh rfl) | exact SVLe.one (.nil (by decide)) | (refine SVLe.agg ?_; repeat (first | exact CsLe.nil | refine CsLe.cons ?_ ?_ | exact CLe.refl | exact CLe.sh rfl | exact CLe.nil (by decide) | (refine cle_i ?_; rfl) | (refine cle_b ?_; rfl))) | (refine SVLe.tup ?_; repeat (first | exact TLe.nil | refine TLe.cons ?_ ?_ | exact CsLe.nil | refine CsLe.cons ?_ ?_ | exact CLe.refl | exact CLe.sh rfl | exact CLe.nil (by decide) | (refine cle_i ?_; rfl) | (refine cle_b ?_; rfl))) | exact SVLe.refl | (refine sle_i ?_; rfl) | (refine sle_b ?_; rfl))) (h3 := (by repeat (first | exact trivial | refine And.intro ?_ ?_ | exact Or.inl rfl | exact Or.inr rfl | (refine Or.inr (row_eq ?_); rfl) | (refine Or.inr (bx_eq rfl rfl ?_); (try dsimp only [C.ren, C.ren.all]); rfl))))
    · have hM : nrM m b = ⟨m.sy, m.st, (nmRun m b).x.ru⟩ := by rw [hres, hC, if_pos hc]
      rw [hM, hC, hc]
      repeat (first | refine g_ret ?_ | refine q_sr ?_ | refine q_br ?_ | refine q_lr ?_ | refine q_cr ?_)
      refine ends_id ?_
      exact endK [_] (h2 := (by first | (with_reducible exact SVLe.refl) | exact SVLe.any | exact SVLe.one (.sh rfl) | exact SVLe.one (.nil (by decide)) | (refine SVLe.agg ?_; repeat (first | exact CsLe.nil | refine CsLe.cons ?_ ?_ | exact CLe.refl | exact CLe.sh rfl | exact CLe.nil (by decide) | (refine cle_i ?_; rfl) | (refine cle_b ?_; rfl))) | (refine SVLe.tup ?_; repeat (first | exact TLe.nil | refine TLe.cons ?_ ?_ | exact CsLe.nil | refine CsLe.cons ?_ ?_ | exact CLe.refl | exact CLe.sh rfl | exact CLe.nil (by decide) | (refine cle_i ?_; rfl) | (refine cle_b ?_; rfl))) | exact SVLe.refl | (refine sle_i ?_; rfl) | (refine sle_b ?_; rfl))) (h3 := (by repeat (first | exact trivial | refine And.intro ?_ ?_ | exact Or.inl rfl | exact Or.inr rfl | (refine Or.inr (row_eq ?_); rfl) | (refine Or.inr (bx_eq rfl rfl ?_); (try dsimp only [C.ren, C.ren.all]); rfl))))
  · have hC : nrCode m b = askC m c0 b := by rw [hcode, if_neg ha]
    have hM : nrM m b = ⟨0, 0, []⟩ := by rw [hres, hC, if_neg ha]
    rw [hM, hC]
    refine does_of (k := 0) Try.func14 rfl Try.ntmps14 rfl rfl fun w F0 S0 ρ0 => ?_
    dsimp only [argT, argH]
    repeat' first
      | refine g_seq ?_
      | refine g_skip ?_
      | refine g_exit ?_
      | refine g_block ?_
      | refine g_reg ?_
      | refine g_if_t rfl ?_
      | refine g_if_f rfl ?_
      | refine o_nil ?_
      | refine q_s ?_
      | refine q_se ?_
      | refine q_b ?_
      | refine q_be rfl ?_
      | refine q_bn rfl ?_
      | refine q_le ?_
      | refine q_ce ?_
      | (apply n3; (first | exact a_new (gb := .bx _) rfl); exact rfl; (try dsimp only [List.map_cons, List.map_nil, scC, Nat.reduceAdd]))
      | (apply p3; (first | exact a_pure (sv := .one _) rfl | exact a_pure (sv := .agg _) rfl | exact a_ld_rowI rfl rfl rfl (fC rfl) bnd | exact a_pure (sv := .tup _) rfl | exact a_ne rfl rfl | exact a_neS rfl rfl rfl); exact rfl)
      | (apply w3; (first | exact a_st_bx rfl rfl rfl rfl (fN rfl rfl) (Nat.le_of_ble_eq_true rfl) rfl); exact rfl; (try dsimp only [setRow, List.map_cons, List.map_nil, scC, List.set_cons_zero, List.set_cons_succ, List.take_succ_cons, List.take_zero, List.drop_succ_cons, List.drop_zero, Nat.reduceAdd]))
      | (apply c4 0; exact callK1 (θ := []) (hD := (budgeted_ok _ _ preB16)); exact rfl; exact rfl; exact rfl; (try dsimp only [SV.ren, C.ren, C.ren.all, tRen, GB.ren, calF, upOf, List.cons_append, List.nil_append, Nat.reduceAdd]))
      | (apply c4 1; exact callK1 (θ := []) (hD := (emptyMachine_ok _ _ preB16 preB16 preB16 preB16 preB16 preB16)); exact rfl; exact rfl; exact rfl; (try dsimp only [SV.ren, C.ren, C.ren.all, tRen, GB.ren, calF, upOf, List.cons_append, List.nil_append, Nat.reduceAdd]))
      | (apply c4 2; exact callK1 (θ := []) (hD := (fresh_ok)); exact rfl; exact rfl; exact rfl; (try dsimp only [SV.ren, C.ren, C.ren.all, tRen, GB.ren, calF, upOf, List.cons_append, List.nil_append, Nat.reduceAdd]))
      | (apply c4 0; exact callK1 (θ := [_]) (hD := (followMA_ok _ _ _ preB16)); exact rfl; exact rfl; exact rfl; (try dsimp only [SV.ren, C.ren, C.ren.all, tRen, GB.ren, calF, upOf, List.cons_append, List.nil_append, Nat.reduceAdd]))
      | (apply c4 1; exact callK1 (θ := [_, _]) (hD := (followXA_ok _ _ _ _ preB16 preB16 preB16)); exact rfl; exact rfl; exact rfl; (try dsimp only [SV.ren, C.ren, C.ren.all, tRen, GB.ren, calF, upOf, List.cons_append, List.nil_append, Nat.reduceAdd]))
      | (apply c4 0; exact callK1 (θ := [_, _, _, _]) (hD := (followNA_ok _ _ _ preB16)); exact rfl; exact rfl; exact rfl; (try dsimp only [SV.ren, C.ren, C.ren.all, tRen, GB.ren, calF, upOf, List.cons_append, List.nil_append, Nat.reduceAdd]))
      | (apply c4 0; exact callK1 (θ := [_, _, _, _, _, _]) (hD := (followWA_ok _ _ preB16)); exact rfl; exact rfl; exact rfl; (try dsimp only [SV.ren, C.ren, C.ren.all, tRen, GB.ren, calF, upOf, List.cons_append, List.nil_append, Nat.reduceAdd]))
      | (refine o_gs rfl rfl (fun hc => ?_) (fun hc => ?_) <;> (try simp only [decide_eq_true_eq, decide_eq_false_iff_not, Bool.not_eq_true', Bool.not_eq_false', Bool.not_eq_true, Bool.not_eq_false, Bool.and_eq_true, Bool.or_eq_false_iff, Bool.not_not] at hc) <;> (try (exfalso; omega)))
      | (refine g_cond rfl (fun hc => ?_) (fun hc => ?_) <;> (try simp only [decide_eq_true_eq, decide_eq_false_iff_not, Bool.not_eq_true', Bool.not_eq_false', Bool.not_eq_true, Bool.not_eq_false, Bool.and_eq_true, Bool.or_eq_false_iff, Bool.not_not] at hc) <;> (try (exfalso; omega)))
    · refine g_conv (t_nilB (i := 1) (k := 2) (z := 3) rfl rfl rfl (by decide)) ?_
      try dsimp only [setRow, List.map_cons, List.map_nil, scC, List.set_cons_zero, List.set_cons_succ]
      repeat (first | refine g_ret ?_ | refine q_sr ?_ | refine q_br ?_ | refine q_lr ?_ | refine q_cr ?_)
      refine ends_id ?_
      exact endK [_] (h2 := (by first | (with_reducible exact SVLe.refl) | exact SVLe.any | exact SVLe.one (.sh rfl) | exact SVLe.one (.nil (by decide)) | (refine SVLe.agg ?_; repeat (first | exact CsLe.nil | refine CsLe.cons ?_ ?_ | exact CLe.refl | exact CLe.sh rfl | exact CLe.nil (by decide) | (refine cle_i ?_; rfl) | (refine cle_b ?_; rfl))) | (refine SVLe.tup ?_; repeat (first | exact TLe.nil | refine TLe.cons ?_ ?_ | exact CsLe.nil | refine CsLe.cons ?_ ?_ | exact CLe.refl | exact CLe.sh rfl | exact CLe.nil (by decide) | (refine cle_i ?_; rfl) | (refine cle_b ?_; rfl))) | exact SVLe.refl | (refine sle_i ?_; rfl) | (refine sle_b ?_; rfl))) (h3 := (by repeat (first | exact trivial | refine And.intro ?_ ?_ | exact Or.inl rfl | exact Or.inr rfl | (refine Or.inr (row_eq ?_); rfl) | (refine Or.inr (bx_eq rfl rfl ?_); (try dsimp only [C.ren, C.ren.all]); rfl))))
end Go.Proofs.Ytncccjpbaeaafaa
