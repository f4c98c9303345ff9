/- For every machine and every budget: the program's FindShift finds the proof that the reference's finds, with the same code, leaves its argument alone, and hands back a proof of its own. No condition. -/
import Derived.Test.YtncccjpbaeaafaaQ14
import Derived.Test.YtncccjpbaeaafaaRows
set_option linter.unusedVariables false
set_option linter.unusedSimpArgs false
set_option maxRecDepth 100000
set_option maxHeartbeats 4000000
namespace Go.Proofs.Ytncccjpbaeaafaa
open Go Foot Go.ChangeShapes Go.WideShapes Go.ChangeAt Go.RowKit Go.Deep
theorem preC8 {p : Prop} (h : p := by first | with_reducible assumption | omega | (simp only [List.length_append, List.length_cons, List.length_nil, List.length_set, List.length_replicate, List.length_take, List.length_drop, List.length_tail, List.length_dropLast, List.length_reverse] at *; omega) | exact mem_len (by assumption) (by omega) | (with_reducible refine Int.le_trans (Int.ofNat_le.2 (trimR_len _)) ?_; simp only [List.length_cons, List.length_tail]; omega) | (exact (ruAt_ok (by assumption) (by assumption) (by assumption)).2.1) | (exact (ruAt_ok (by assumption) (by assumption) (by assumption)).2.1) | (have := vMach_bd (by assumption); omega) | (simp only [mC_ch, mC_tu]; omega) | (with_reducible refine Int.le_trans (Int.ofNat_le.2 (pushL_len _ _)) ?_; simp only [List.length_dropLast]; omega) | exact (ask_ok (by assumption)).1 | exact (ask_ok (by assumption)).2.1 | exact (ask_ok (by assumption)).2.2.1 | exact (ask_ok (by assumption)).2.2.2 | (simp only [marks_len]; omega) | (simp only [marksR_len]; omega) | trivial) : p := h
theorem lawFindShift (m : Mach) (b : Int) (hm : m.ru.length ≤ maxLen) : Does Try.prog 10 [.agg (maC m), .one (int b)] [] (.one (boo true)) [] := by
  have h1 : (m.ru.length : Int) ≤ 9223372036854775807 := by unfold maxLen at hm; omega
  clear hm
  have h4 := szL_le (n := m.ru.length) (l := 1048576) (by omega)
  by_cases ha : szL m.ru.length 1048576 < 0
  · refine does_of (k := 0) Try.func10 rfl Try.ntmps10 rfl rfl fun w F0 S0 ρ0 => ?_
    dsimp only [argT, argH]
    repeat' first
      | refine g_seq ?_
      | refine g_skip ?_
      | refine g_exit ?_
      | refine g_block ?_
      | refine g_reg ?_
      | refine g_if_t rfl ?_
      | refine g_if_f rfl ?_
      | refine o_nil ?_
      | refine q_s ?_
      | refine q_se ?_
      | refine q_b ?_
      | refine q_be rfl ?_
      | refine q_bn rfl ?_
      | refine q_le ?_
      | refine q_ce ?_
      | (apply n3; exact a_new (gb := .bx _) rfl; exact rfl; (try dsimp only [List.map_cons, List.map_nil, scC, Nat.reduceAdd]))
      | (apply p3; (first | exact pu1 | exact puL | exact puC | exact a_ne rfl rfl | exact a_neS rfl rfl rfl); exact rfl)
      | (apply w3; exact a_st_bx rfl rfl rfl rfl (fN rfl rfl) (Nat.le_of_ble_eq_true rfl) rfl; exact rfl; (try dsimp only [setRow, List.map_cons, List.map_nil, scC, List.set_cons_zero, List.set_cons_succ, List.take_succ_cons, List.take_zero, List.drop_succ_cons, List.drop_zero, Nat.reduceAdd]))
      | (apply c4 0; exact callK1 (θ := []) (hD := (szMachine_ok _ _ preC8 preC8 preC8)); exact rfl; exact rfl; exact rfl; (try dsimp only [SV.ren, C.ren, C.ren.all, tRen, GB.ren, calF, upOf, List.cons_append, List.nil_append, Nat.reduceAdd]))
      | (apply c4 1; exact callK1 (θ := []) (hD := (toMachine_ok _ preC8)); exact rfl; exact rfl; exact rfl; (try dsimp only [SV.ren, C.ren, C.ren.all, tRen, GB.ren, calF, upOf, List.cons_append, List.nil_append, Nat.reduceAdd]))
      | (apply c4 0; exact callF (hD := (sFindShift_ok _ _ preC8)); exact rfl; exact rfl; exact rfl; (try dsimp only [SV.ren, C.ren, C.ren.all, tRen, GB.ren, calF, upOf, List.cons_append, List.nil_append, Nat.reduceAdd]))
      | (apply c4 2; exact callK1 (θ := []) (hD := (iFindShiftN_ok _ _ preC8)); exact rfl; exact rfl; exact rfl; (try dsimp only [SV.ren, C.ren, C.ren.all, tRen, GB.ren, calF, upOf, List.cons_append, List.nil_append, Nat.reduceAdd]))
      | (apply c4 0; exact callK1 (θ := []) (hD := (eqProof_ok _ _ preC8 preC8 preC8 preC8 preC8 preC8)); exact rfl; exact rfl; exact rfl; (try dsimp only [SV.ren, C.ren, C.ren.all, tRen, GB.ren, calF, upOf, List.cons_append, List.nil_append, Nat.reduceAdd]))
      | (apply c4 0; exact callK1 (θ := [_]) (hD := (markMachR_ok _ _ preC8 preC8 preC8)); exact rfl; exact rfl; exact rfl; (try dsimp only [SV.ren, C.ren, C.ren.all, tRen, GB.ren, calF, upOf, List.cons_append, List.nil_append, Nat.reduceAdd]))
      | (apply c4 0; exact callK0 (θ := [_, _]) (hD := (markProof0_ok _ _ _ preC8 preC8 preC8)); exact rfl; exact rfl; exact rfl; (try dsimp only [SV.ren, C.ren, C.ren.all, tRen, GB.ren, calF, upOf, List.cons_append, List.nil_append, Nat.reduceAdd]))
      | (apply c4 0; exact callK1 (θ := []) (hD := (heldProof0_ok _ _ _ preC8 preC8 preC8)); exact rfl; exact rfl; exact rfl; (try dsimp only [SV.ren, C.ren, C.ren.all, tRen, GB.ren, calF, upOf, List.cons_append, List.nil_append, Nat.reduceAdd]))
      | refine o_no rfl rfl rfl rfl ?_
      | refine o_noN rfl rfl rfl ?_
      | (apply py3; exact rfl; exact rfl; (first | exact pu1 | exact puL | exact puC | exact a_ne rfl rfl | exact a_neS rfl rfl rfl); exact rfl; exact rfl)
      | (apply ny3; exact rfl; exact rfl; exact a_new (gb := .bx _) rfl; exact rfl; exact rfl)
      | (apply cy4 0; exact rfl; exact rfl; exact callK1 (θ := []) (hD := (szMachine_ok _ _ preC8 preC8 preC8)); exact rfl; exact rfl; exact rfl; exact rfl; (try dsimp only [SV.ren, C.ren, C.ren.all, tRen, GB.ren, calF, upOf, List.cons_append, List.nil_append, Nat.reduceAdd]))
      | (apply cy4 1; exact rfl; exact rfl; exact callK1 (θ := []) (hD := (toMachine_ok _ preC8)); exact rfl; exact rfl; exact rfl; exact rfl; (try dsimp only [SV.ren, C.ren, C.ren.all, tRen, GB.ren, calF, upOf, List.cons_append, List.nil_append, Nat.reduceAdd]))
      | (apply cy4 0; exact rfl; exact rfl; exact callF (hD := (sFindShift_ok _ _ preC8)); exact rfl; exact rfl; exact rfl; exact rfl; (try dsimp only [SV.ren, C.ren, C.ren.all, tRen, GB.ren, calF, upOf, List.cons_append, List.nil_append, Nat.reduceAdd]))
      | (apply cy4 2; exact rfl; exact rfl; exact callK1 (θ := []) (hD := (iFindShiftN_ok _ _ preC8)); exact rfl; exact rfl; exact rfl; exact rfl; (try dsimp only [SV.ren, C.ren, C.ren.all, tRen, GB.ren, calF, upOf, List.cons_append, List.nil_append, Nat.reduceAdd]))
      | (apply cy4 0; exact rfl; exact rfl; exact callK1 (θ := []) (hD := (eqProof_ok _ _ preC8 preC8 preC8 preC8 preC8 preC8)); exact rfl; exact rfl; exact rfl; exact rfl; (try dsimp only [SV.ren, C.ren, C.ren.all, tRen, GB.ren, calF, upOf, List.cons_append, List.nil_append, Nat.reduceAdd]))
      | (apply cy4 0; exact rfl; exact rfl; exact callK1 (θ := [_]) (hD := (markMachR_ok _ _ preC8 preC8 preC8)); exact rfl; exact rfl; exact rfl; exact rfl; (try dsimp only [SV.ren, C.ren, C.ren.all, tRen, GB.ren, calF, upOf, List.cons_append, List.nil_append, Nat.reduceAdd]))
      | (apply cy4 0; exact rfl; exact rfl; exact callK0 (θ := [_, _]) (hD := (markProof0_ok _ _ _ preC8 preC8 preC8)); exact rfl; exact rfl; exact rfl; exact rfl; (try dsimp only [SV.ren, C.ren, C.ren.all, tRen, GB.ren, calF, upOf, List.cons_append, List.nil_append, Nat.reduceAdd]))
      | (apply cy4 0; exact rfl; exact rfl; exact callK1 (θ := []) (hD := (heldProof0_ok _ _ _ preC8 preC8 preC8)); exact rfl; exact rfl; exact rfl; exact rfl; (try dsimp only [SV.ren, C.ren, C.ren.all, tRen, GB.ren, calF, upOf, List.cons_append, List.nil_append, Nat.reduceAdd]))
      | (apply g_drN (id := 10) okM [[], [], [1], [0, 1, 2], [0, 1, 2, 3]] [([], []), ([], []), ([0], []), ([], []), ([], [])] 1; (focus (all_goals refine dp 0 0 [46, 47] [(true, 0)] puL ?_; all_goals refine dp 1 0 [45] [] puL ?_; all_goals refine duN 2 1 [45] [] (callD1 (n := _) 0 (θ := []) (hD := (toMachine_ok _ preC8))) (by exact rfl) (by exact rfl) ?_; all_goals refine dp 3 7 [] [] (callD1 (n := _) 1 (θ := []) (hD := (eqMachine_ok _ _ preC8 preC8))) ?_; all_goals refine dp 4 15 [] [] (a_pure (sv := .one _) rfl) ?_; all_goals (refine d_nil ?_; dsimp only [selT, selH, trues, SV.ren, C.ren, C.ren.all, tRen, GB.ren, calF, upOf, List.cons_append, List.nil_append, Nat.reduceAdd, setRow, List.map_cons, List.map_nil, scC, List.set_cons_zero, List.set_cons_succ, List.take_succ_cons, List.take_zero, List.drop_succ_cons, List.drop_zero]))); any_goals kernel_rfl)
      | (refine o_gs rfl rfl (fun hc => ?_) (fun hc => ?_) <;> (try simp only [decide_eq_true_eq, decide_eq_false_iff_not, Bool.not_eq_true', Bool.not_eq_false', Bool.not_eq_true, Bool.not_eq_false, Bool.and_eq_true, Bool.or_eq_false_iff, Bool.not_not] at hc) <;> (try (first | contradiction | (exfalso; omega))))
      | (refine g_cond rfl (fun hc => ?_) (fun hc => ?_) <;> (try simp only [decide_eq_true_eq, decide_eq_false_iff_not, Bool.not_eq_true', Bool.not_eq_false', Bool.not_eq_true, Bool.not_eq_false, Bool.and_eq_true, Bool.or_eq_false_iff, Bool.not_not] at hc) <;> (try (first | contradiction | (exfalso; omega))))
    repeat (first | refine g_ret ?_ | refine q_sr ?_ | refine q_br ?_ | refine q_lr ?_ | refine q_cr ?_)
    refine ends_id ?_
    refine endK [] (h2 := ?_) (h3 := ?_) (nd := ?_)
    all_goals (repeat' first | with_reducible exact SVLe.refl | exact SVLe.any | exact SVLe.one (.sh rfl) | exact SVLe.one (.nil (by decide)) | refine SVLe.agg ?_ | refine SVLe.tup ?_ | exact TLe.nil | refine TLe.cons ?_ ?_ | exact CsLe.nil | refine CsLe.cons ?_ ?_ | exact CLe.refl | exact CLe.sh rfl | exact CLe.nil (by decide) | refine cle_i ?_ | refine cle_b ?_ | exact trivial | refine And.intro ?_ ?_ | exact Or.inl rfl | exact Or.inr rfl | refine Or.inr (row_eq ?_) | (refine Or.inr (bx_eq rfl rfl ?_); (try dsimp only [C.ren, C.ren.all]); (try exact rfl)) | exact SVLe.refl | refine sle_i ?_ | refine sle_b ?_)
    all_goals first | exact (show nodupB _ = true from rfl) | exact Or.inr rfl | (rfl)
  have k1 := szL_ge (by omega) ha
  have k2 := fs_nu m b
  have k3 : ∀ x ∈ ([] : List (List Int)), (x.length : Int) ≤ 1048576 := fun x hx => by cases hx
  have kp : ¬ eqP ⟨(fsRes m b).1.k, (fsRes m b).1.nu, []⟩ ⟨(fsRes m b).1.k, (fsRes m b).1.nu, []⟩ = false := by simp [eqP]
  have kh := held_marks 1 (fsRes m b).1.nu.length
  have km : ¬ eqM m m = false := by simp [eqM]
  refine does_of (k := 0) Try.func10 rfl Try.ntmps10 rfl rfl fun w F0 S0 ρ0 => ?_
  dsimp only [argT, argH]
  repeat' first
    | refine g_seq ?_
    | refine g_skip ?_
    | refine g_exit ?_
    | refine g_block ?_
    | refine g_reg ?_
    | refine g_if_t rfl ?_
    | refine g_if_f rfl ?_
    | refine o_nil ?_
    | refine q_s ?_
    | refine q_se ?_
    | refine q_b ?_
    | refine q_be rfl ?_
    | refine q_bn rfl ?_
    | refine q_le ?_
    | refine q_ce ?_
    | (apply n3; exact a_new (gb := .bx _) rfl; exact rfl; (try dsimp only [List.map_cons, List.map_nil, scC, Nat.reduceAdd]))
    | (apply p3; (first | exact pu1 | exact puL | exact puC | exact a_ne rfl rfl | exact a_neS rfl rfl rfl); exact rfl)
    | (apply w3; exact a_st_bx rfl rfl rfl rfl (fN rfl rfl) (Nat.le_of_ble_eq_true rfl) rfl; exact rfl; (try dsimp only [setRow, List.map_cons, List.map_nil, scC, List.set_cons_zero, List.set_cons_succ, List.take_succ_cons, List.take_zero, List.drop_succ_cons, List.drop_zero, Nat.reduceAdd]))
    | (apply c4 0; exact callK1 (θ := []) (hD := (szMachine_ok _ _ preC8 preC8 preC8)); exact rfl; exact rfl; exact rfl; (try dsimp only [SV.ren, C.ren, C.ren.all, tRen, GB.ren, calF, upOf, List.cons_append, List.nil_append, Nat.reduceAdd]))
    | (apply c4 1; exact callK1 (θ := []) (hD := (toMachine_ok _ preC8)); exact rfl; exact rfl; exact rfl; (try dsimp only [SV.ren, C.ren, C.ren.all, tRen, GB.ren, calF, upOf, List.cons_append, List.nil_append, Nat.reduceAdd]))
    | (apply c4 0; exact callF (hD := (sFindShift_ok _ _ preC8)); exact rfl; exact rfl; exact rfl; (try dsimp only [SV.ren, C.ren, C.ren.all, tRen, GB.ren, calF, upOf, List.cons_append, List.nil_append, Nat.reduceAdd]))
    | (apply c4 2; exact callK1 (θ := []) (hD := (iFindShiftN_ok _ _ preC8)); exact rfl; exact rfl; exact rfl; (try dsimp only [SV.ren, C.ren, C.ren.all, tRen, GB.ren, calF, upOf, List.cons_append, List.nil_append, Nat.reduceAdd]))
    | (apply c4 0; exact callK1 (θ := []) (hD := (eqProof_ok ⟨(fsRes m b).1.k, (fsRes m b).1.nu, []⟩ ⟨(fsRes m b).1.k, (fsRes m b).1.nu, []⟩ (by dsimp only; omega) (by dsimp only; omega) (by simp) (by simp) k3 k3)); exact rfl; exact rfl; exact rfl; (try dsimp only [SV.ren, C.ren, C.ren.all, tRen, GB.ren, calF, upOf, List.cons_append, List.nil_append, Nat.reduceAdd]))
    | (apply c4 0; exact callK1 (θ := [_]) (hD := (markMachR_ok _ _ preC8 preC8 preC8)); exact rfl; exact rfl; exact rfl; (try dsimp only [SV.ren, C.ren, C.ren.all, tRen, GB.ren, calF, upOf, List.cons_append, List.nil_append, Nat.reduceAdd]))
    | (apply c4 0; exact callK1 (θ := []) (hD := (eqProof_ok ⟨(fsRes m b).1.k, (fsRes m b).1.nu, []⟩ ⟨(fsRes m b).1.k, (fsRes m b).1.nu, []⟩ (by dsimp only; omega) (by dsimp only; omega) (by simp) (by simp) k3 k3)); exact rfl; exact rfl; exact rfl; (try dsimp only [SV.ren, C.ren, C.ren.all, tRen, GB.ren, calF, upOf, List.cons_append, List.nil_append, Nat.reduceAdd]))
    | (apply c4 0; exact callK0 (θ := [_, _]) (hD := (markProof0_ok _ _ _ preC8 preC8 preC8)); exact rfl; exact rfl; exact rfl; (try dsimp only [SV.ren, C.ren, C.ren.all, tRen, GB.ren, calF, upOf, List.cons_append, List.nil_append, Nat.reduceAdd]))
    | (apply c4 0; exact callK1 (θ := []) (hD := (heldProof0_ok _ _ _ preC8 preC8 preC8)); exact rfl; exact rfl; exact rfl; (try dsimp only [SV.ren, C.ren, C.ren.all, tRen, GB.ren, calF, upOf, List.cons_append, List.nil_append, Nat.reduceAdd]))
    | (apply c4 0; exact callK1 (θ := []) (hD := (eqProof_ok ⟨(fsRes m b).1.k, (fsRes m b).1.nu, []⟩ ⟨(fsRes m b).1.k, (fsRes m b).1.nu, []⟩ (by dsimp only; omega) (by dsimp only; omega) (by simp) (by simp) k3 k3)); exact rfl; exact rfl; exact rfl; (try dsimp only [SV.ren, C.ren, C.ren.all, tRen, GB.ren, calF, upOf, List.cons_append, List.nil_append, Nat.reduceAdd]))
    | refine o_no rfl rfl rfl rfl ?_
    | refine o_noN rfl rfl rfl ?_
    | (apply py3; exact rfl; exact rfl; (first | exact pu1 | exact puL | exact puC | exact a_ne rfl rfl | exact a_neS rfl rfl rfl); exact rfl; exact rfl)
    | (apply ny3; exact rfl; exact rfl; exact a_new (gb := .bx _) rfl; exact rfl; exact rfl)
    | (apply cy4 0; exact rfl; exact rfl; exact callK1 (θ := []) (hD := (szMachine_ok _ _ preC8 preC8 preC8)); exact rfl; exact rfl; exact rfl; exact rfl; (try dsimp only [SV.ren, C.ren, C.ren.all, tRen, GB.ren, calF, upOf, List.cons_append, List.nil_append, Nat.reduceAdd]))
    | (apply cy4 1; exact rfl; exact rfl; exact callK1 (θ := []) (hD := (toMachine_ok _ preC8)); exact rfl; exact rfl; exact rfl; exact rfl; (try dsimp only [SV.ren, C.ren, C.ren.all, tRen, GB.ren, calF, upOf, List.cons_append, List.nil_append, Nat.reduceAdd]))
    | (apply cy4 0; exact rfl; exact rfl; exact callF (hD := (sFindShift_ok _ _ preC8)); exact rfl; exact rfl; exact rfl; exact rfl; (try dsimp only [SV.ren, C.ren, C.ren.all, tRen, GB.ren, calF, upOf, List.cons_append, List.nil_append, Nat.reduceAdd]))
    | (apply cy4 2; exact rfl; exact rfl; exact callK1 (θ := []) (hD := (iFindShiftN_ok _ _ preC8)); exact rfl; exact rfl; exact rfl; exact rfl; (try dsimp only [SV.ren, C.ren, C.ren.all, tRen, GB.ren, calF, upOf, List.cons_append, List.nil_append, Nat.reduceAdd]))
    | (apply cy4 0; exact rfl; exact rfl; exact callK1 (θ := []) (hD := (eqProof_ok ⟨(fsRes m b).1.k, (fsRes m b).1.nu, []⟩ ⟨(fsRes m b).1.k, (fsRes m b).1.nu, []⟩ (by dsimp only; omega) (by dsimp only; omega) (by simp) (by simp) k3 k3)); exact rfl; exact rfl; exact rfl; exact rfl; (try dsimp only [SV.ren, C.ren, C.ren.all, tRen, GB.ren, calF, upOf, List.cons_append, List.nil_append, Nat.reduceAdd]))
    | (apply cy4 0; exact rfl; exact rfl; exact callK1 (θ := [_]) (hD := (markMachR_ok _ _ preC8 preC8 preC8)); exact rfl; exact rfl; exact rfl; exact rfl; (try dsimp only [SV.ren, C.ren, C.ren.all, tRen, GB.ren, calF, upOf, List.cons_append, List.nil_append, Nat.reduceAdd]))
    | (apply cy4 0; exact rfl; exact rfl; exact callK1 (θ := []) (hD := (eqProof_ok ⟨(fsRes m b).1.k, (fsRes m b).1.nu, []⟩ ⟨(fsRes m b).1.k, (fsRes m b).1.nu, []⟩ (by dsimp only; omega) (by dsimp only; omega) (by simp) (by simp) k3 k3)); exact rfl; exact rfl; exact rfl; exact rfl; (try dsimp only [SV.ren, C.ren, C.ren.all, tRen, GB.ren, calF, upOf, List.cons_append, List.nil_append, Nat.reduceAdd]))
    | (apply cy4 0; exact rfl; exact rfl; exact callK0 (θ := [_, _]) (hD := (markProof0_ok _ _ _ preC8 preC8 preC8)); exact rfl; exact rfl; exact rfl; exact rfl; (try dsimp only [SV.ren, C.ren, C.ren.all, tRen, GB.ren, calF, upOf, List.cons_append, List.nil_append, Nat.reduceAdd]))
    | (apply cy4 0; exact rfl; exact rfl; exact callK1 (θ := []) (hD := (heldProof0_ok _ _ _ preC8 preC8 preC8)); exact rfl; exact rfl; exact rfl; exact rfl; (try dsimp only [SV.ren, C.ren, C.ren.all, tRen, GB.ren, calF, upOf, List.cons_append, List.nil_append, Nat.reduceAdd]))
    | (apply cy4 0; exact rfl; exact rfl; exact callK1 (θ := []) (hD := (eqProof_ok ⟨(fsRes m b).1.k, (fsRes m b).1.nu, []⟩ ⟨(fsRes m b).1.k, (fsRes m b).1.nu, []⟩ (by dsimp only; omega) (by dsimp only; omega) (by simp) (by simp) k3 k3)); exact rfl; exact rfl; exact rfl; exact rfl; (try dsimp only [SV.ren, C.ren, C.ren.all, tRen, GB.ren, calF, upOf, List.cons_append, List.nil_append, Nat.reduceAdd]))
    | (apply g_drN (id := 10) okM [[], [], [1], [0, 1, 2], [0, 1, 2, 3]] [([], []), ([], []), ([0], []), ([], []), ([], [])] 1; (focus (all_goals refine dp 0 0 [46, 47] [(true, 0)] puL ?_; all_goals refine dp 1 0 [45] [] puL ?_; all_goals refine duN 2 1 [45] [] (callD1 (n := _) 0 (θ := []) (hD := (toMachine_ok _ preC8))) (by exact rfl) (by exact rfl) ?_; all_goals refine dp 3 7 [] [] (callD1 (n := _) 1 (θ := []) (hD := (eqMachine_ok _ _ preC8 preC8))) ?_; all_goals refine dp 4 15 [] [] (a_pure (sv := .one _) rfl) ?_; all_goals (refine d_nil ?_; dsimp only [selT, selH, trues, SV.ren, C.ren, C.ren.all, tRen, GB.ren, calF, upOf, List.cons_append, List.nil_append, Nat.reduceAdd, setRow, List.map_cons, List.map_nil, scC, List.set_cons_zero, List.set_cons_succ, List.take_succ_cons, List.take_zero, List.drop_succ_cons, List.drop_zero]))); any_goals kernel_rfl)
    | (refine o_gs rfl rfl (fun hc => ?_) (fun hc => ?_) <;> (try simp only [decide_eq_true_eq, decide_eq_false_iff_not, Bool.not_eq_true', Bool.not_eq_false', Bool.not_eq_true, Bool.not_eq_false, Bool.and_eq_true, Bool.or_eq_false_iff, Bool.not_not] at hc) <;> (try (first | contradiction | (exfalso; omega))))
    | (refine g_cond rfl (fun hc => ?_) (fun hc => ?_) <;> (try simp only [decide_eq_true_eq, decide_eq_false_iff_not, Bool.not_eq_true', Bool.not_eq_false', Bool.not_eq_true, Bool.not_eq_false, Bool.and_eq_true, Bool.or_eq_false_iff, Bool.not_not] at hc) <;> (try (first | contradiction | (exfalso; omega))))
  repeat (first | refine g_ret ?_ | refine q_sr ?_ | refine q_br ?_ | refine q_lr ?_ | refine q_cr ?_)
  refine ends_id ?_
  refine endK [] (h2 := ?_) (h3 := ?_) (nd := ?_)
  all_goals (repeat' first | with_reducible exact SVLe.refl | exact SVLe.any | exact SVLe.one (.sh rfl) | exact SVLe.one (.nil (by decide)) | refine SVLe.agg ?_ | refine SVLe.tup ?_ | exact TLe.nil | refine TLe.cons ?_ ?_ | exact CsLe.nil | refine CsLe.cons ?_ ?_ | exact CLe.refl | exact CLe.sh rfl | exact CLe.nil (by decide) | refine cle_i ?_ | refine cle_b ?_ | exact trivial | refine And.intro ?_ ?_ | exact Or.inl rfl | exact Or.inr rfl | refine Or.inr (row_eq ?_) | (refine Or.inr (bx_eq rfl rfl ?_); (try dsimp only [C.ren, C.ren.all]); (try exact rfl)) | exact SVLe.refl | refine sle_i ?_ | refine sle_b ?_)
  all_goals first | exact (show nodupB _ = true from rfl) | exact Or.inr rfl | (rfl)
set_option maxRecDepth 100000 in
theorem liftedFnExactFindShift (os : Os) (started : os.Started) (H : Type) (enc : TypeId × Value → H) : ReturnsInHanded {} Try.checked os 10 .any (Rows.fnExactFindShiftSpec.pre6 enc Try.prog Try.f10 Rows.fnExactFindShiftRow.domain false) (Rows.fnExactFindShiftSpec.post enc Try.prog Try.f10 false true false false) := by
  refine returnsInHanded_of_change (C := Try.checked) own started (by kernel_rfl) Try.func10 (ChangeSpec.witness6 (enc := enc) (C := Try.checked) false ⟨#[], #[.agg #[.int .i64 0, .int .i64 0, .slice none 0 0], .int .i64 0], []⟩ 12 (by kernel_rfl) (by kernel_rfl) (by kernel_rfl) (by kernel_rfl)) ?_
  intro W base args ds gs before hval0 hW hcnd _
  have hval : ∀ (j : Nat) t v, Try.f10.params[j]? = some t → args[j]? = some v → Value.okWide Try.prog W .any base t v := hval0
  have hW' := hW
  obtain ⟨p, q, hA0, hV, rfl, hfz, hnd⟩ := hW
  have hA : DataW.TrodAll enc Try.prog W 0 (fun _ => true) true Try.f10.params.toList args.toList ds p := hA0
  rw [Try.params10] at hA hval
  obtain ⟨v0, vs0, d0, ds0, p0, r0, hargs, rfl, rfl, h0, s0⟩ := trodAll_cons hA
  obtain ⟨v1, vs1, d1, ds1, p1, r1, rfl, rfl, rfl, h1, s1⟩ := trodAll_cons s0
  obtain ⟨rfl, rfl, rfl⟩ := trodAll_nil s1
  obtain rfl : args = #[v0, v1] := by cases args; simp_all
  obtain ⟨rfl, rfl⟩ := trodVars_none hV
  have k0 := h0
  have k1 := h1
  have lt0 : ∀ x ∈ p0, x.block < W.heap.size := by obtain ⟨m, hm⟩ := k0; exact DataW.trod_lt m _ _ _ hm
  have lt1 : ∀ x ∈ p1, x.block < W.heap.size := by obtain ⟨m, hm⟩ := k1; exact DataW.trod_lt m _ _ _ hm
  obtain ⟨a0, e0, q0⟩ := arg_agg (ρ := fun _ => none) Try.underlying24 (hval 0 24 v0 rfl rfl) h0 opens_machine
  obtain ⟨_, rfl⟩ := okWide_int Try.underlying2 (hval 1 2 v1 rfl rfl)
  obtain ⟨a1, e1, q1⟩ := arg_one (ρ := fun _ => none) rfl h1 opens_i
  clear hA0 hval0
  refine (does_calls (lawFindShift a0 a1 q0.2.2.1) (by intro _ h; cases h) ⟨_, _, rfl, e0, ⟨_, _, rfl, e1, rfl⟩⟩).mono fun e W' ⟨he, bel⟩ => ?_
  subst he
  exact ⟨_, rfl, _, _, _, [], _, [], hW', trodAll_mk1 (shut_bool Try.underlying4 _), (trodAll_cons_mk (Below.trod laidOut (by kernel_rfl) (of_decide_eq_true (by kernel_rfl)) k0 bel lt0) (trodAll_cons_mk (Below.trod laidOut (by kernel_rfl) (of_decide_eq_true (by kernel_rfl)) k1 bel lt1) trodAll_mk0)), rfl, bel.frame _, fun h => by cases h⟩
theorem provedFnExactFindShift : Rows.FnExactFindShiftSaid :=
  OpenClaim.holds_of_wide 10 Try.f10 rfl rfl rfl rfl rfl rfl rfl ⟨rfl, rfl, rfl, rfl, rfl⟩ rfl rfl rfl rfl rfl (by kernel_rfl) Try.func10 (by kernel_rfl)
    (of_decide_eq_true (by kernel_rfl)) (by unfold Func.isWrapper; first | (rw [if_pos (by decide +kernel)]; kernel_rfl) | (rw [if_neg (by decide +kernel)]; exact ⟨rfl, rfl⟩))
    (fun os started H enc _ => liftedFnExactFindShift os started H enc)
end Go.Proofs.Ytncccjpbaeaafaa
