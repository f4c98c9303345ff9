/- The counts of states and of rules: the reference's and the program's. -/
import Derived.Test.YtncccjpbaeaafaaB12
set_option linter.unusedVariables false
set_option linter.unusedSimpArgs false
set_option maxRecDepth 100000
set_option maxHeartbeats 4000000
namespace Go.Proofs.Ytncccjpbaeaafaa
open Go Foot
abbrev ct0 (m : Mach) : Ct := ⟨[], List.replicate m.st.toNat 0, List.replicate m.ru.length 0⟩
@[irreducible] def ctRun (m : Mach) (c : Conf) (b : Int) : Out Ct := runG m ctC (ctS m) b.toNat 0 c 0 (ct0 m)
theorem ct_wk (m : Mach) (c : Conf) (b : Int) : (ctRun m c b).full = (wkRun m c 0 b).full ∧ ((wkRun m c 0 b).full = false → (ctRun m c b).x.sts = (wkRun m c 0 b).x.sts ∧ (ctRun m c b).x.rls = (wkRun m c 0 b).x.rls) := by
  unfold ctRun wkRun
  obtain ⟨x', y', h1, h2, h3, h4, h5, h6⟩ := run_two (m := m) (fc := ctC) (fs := ctS m) (fc' := wC) (fs' := wS m 0) (fun c hd x y => x.sts = y.sts ∧ x.rls = y.rls) (fun c hd x y h hn hr => by
    unfold ctS wS ctC wC
    exact ⟨by dsimp only; rw [h.1], by dsimp only; rw [h.2]⟩) b.toNat 0 c 0 (ct0 m) (w0 m) ⟨rfl, rfl⟩
  generalize runG m ctC (ctS m) b.toNat 0 c 0 (ct0 m) = O1 at *
  generalize runG m wC (wS m 0) b.toNat 0 c 0 (w0 m) = O2 at *
  refine ⟨h4, fun hf => ?_⟩
  obtain ⟨r, e1, e2⟩ := h6 (h4.trans hf)
  rw [e1, e2]
  unfold ctC wC
  exact ⟨by dsimp only; rw [r.1], by dsimp only; rw [r.2]⟩
--HIDE followN_ok
theorem preB13 {p : Prop} (h : p := by first | with_reducible assumption | omega | (simp only [List.length_append, List.length_cons, List.length_nil, List.length_set, List.length_replicate, List.length_take, List.length_drop, List.length_tail, List.length_dropLast, List.length_reverse] at *; omega) | (with_reducible refine Int.le_trans (Int.ofNat_le.2 (trimR_len _)) ?_; simp only [List.length_cons, List.length_tail]; omega) | (exact (ruAt_ok (by assumption) (by assumption) (by assumption)).2.1) | (have := vMach_bd (by assumption); omega) | (with_reducible refine Int.le_trans (Int.ofNat_le.2 (pushL_len _ _)) ?_; simp only [List.length_dropLast]; omega) | exact (ask_ok (by assumption)).1 | exact (ask_ok (by assumption)).2.1 | exact (ask_ok (by assumption)).2.2.1 | exact (ask_ok (by assumption)).2.2.2 | trivial) : p := h
theorem followNA_ok (m : Mach) (c : Conf) (b : Int) (ha : askC m c b = 0) : Does Try.prog 53 [.agg (maC m), .agg (coC c), .one (int b), .one (.ifc 101 false [.gv 0])] [ctBx, mpOf mII [], roI (List.replicate m.st.toNat 0), roI (List.replicate m.ru.length 0)] (.tup [(false, [int (if (ctRun m c b).full then 0 else (ctRun m c b).n)]), (false, [boo (ctRun m c b).halts]), (false, [int (if (ctRun m c b).full then 5 else 0)])]) [ctBx, mpOf mII (ctRun m c b).x.cel, roI (ctRun m c b).x.sts, roI (ctRun m c b).x.rls] := by
  obtain ⟨h1, h2, h3, h4⟩ := ask_ok ha
  have hv := vMach_bd h1
  have hz : ∀ (k : Nat), ∀ v ∈ List.replicate k (0 : Int), 0 ≤ v ∧ v ≤ 0 := by
    intro k v hv
    have := (List.mem_replicate.1 hv).2
    omega
  exact followN_ok m c b (ct0 m) h1 h2 h3 h4 ⟨by omega, by simp; omega, by simp, hz _, hz _, fun k => by simp [getA]⟩ _ (by unfold ctRun; rfl)
theorem countedBad_ok (m : Mach) (c : Conf) (b : Int) (ha : askC m c b ≠ 0) (hm : (m.ru.length : Int) ≤ 16777216) (hx : (c.le.length : Int) ≤ 16777216) (hy : (c.ri.length : Int) ≤ 16777216) : Does Try.prog 62 [.agg (maC m), .agg (coC c), .one (int b)] [] (.tup [(false, [.d (.sc (.pointer none))]), (false, [int (askC m c b)])]) [] := by
  refine does_of (k := 0) Try.func62 rfl Try.ntmps62 rfl rfl fun w F0 S0 ρ0 => ?_
  dsimp only [argT, argH]
  repeat' first
    | refine g_seq ?_
    | refine g_skip ?_
    | refine g_exit ?_
    | refine g_block ?_
    | refine g_reg (id := 0) ?_
    | refine g_reg (id := 1) ?_
    | refine g_reg (id := 2) ?_
    | refine g_reg (id := 3) ?_
    | refine g_if_t rfl ?_
    | refine g_if_f rfl ?_
    | refine o_nil ?_
    | refine q_s ?_
    | refine q_se ?_
    | refine q_b ?_
    | refine q_be rfl ?_
    | refine q_bn rfl ?_
    | refine q_le ?_
    | refine q_ce ?_
    | (apply n3; (first | exact a_new (gb := .bx _) rfl); exact rfl; (try dsimp only [List.map_cons, List.map_nil, scC, Nat.reduceAdd]))
    | (apply p3; (first | exact a_pure (sv := .one _) rfl | exact a_pure (sv := .agg _) rfl | exact a_pure (sv := .tup _) rfl | exact a_ld_rowI rfl rfl rfl (fC rfl) bnd | exact a_ne rfl rfl | exact a_neS rfl rfl rfl); exact rfl)
    | (apply c4 0; exact callK1 (θ := []) (hD := (runCode0_ok _ _ preB13)); exact rfl; exact rfl; exact rfl; (try dsimp only [SV.ren, C.ren, C.ren.all, tRen, GB.ren, calF, upOf, List.cons_append, List.nil_append, Nat.reduceAdd]))
    | (apply c4 0; exact callK1 (θ := []) (hD := (runCode_ok _ _ _ preB13 preB13 preB13)); exact rfl; exact rfl; exact rfl; (try dsimp only [SV.ren, C.ren, C.ren.all, tRen, GB.ren, calF, upOf, List.cons_append, List.nil_append, Nat.reduceAdd]))
    | (refine o_gs rfl rfl (fun hc => ?_) (fun hc => ?_) <;> (try simp only [decide_eq_true_eq, decide_eq_false_iff_not, Bool.not_eq_true', Bool.not_eq_false', Bool.not_eq_true, Bool.not_eq_false, Bool.and_eq_true, Bool.or_eq_false_iff, Bool.not_not] at hc) <;> (try (exfalso; omega)))
    | (refine g_cond rfl (fun hc => ?_) (fun hc => ?_) <;> (try simp only [decide_eq_true_eq, decide_eq_false_iff_not, Bool.not_eq_true', Bool.not_eq_false', Bool.not_eq_true, Bool.not_eq_false, Bool.and_eq_true, Bool.or_eq_false_iff, Bool.not_not] at hc) <;> (try (exfalso; omega)))
  · repeat (first | refine g_ret ?_ | refine q_sr ?_ | refine q_br ?_ | refine q_lr ?_ | refine q_cr ?_)
    refine ends_id ?_
    exact endK [] (h2 := (by first | (with_reducible exact SVLe.refl) | exact SVLe.any | exact SVLe.one (.sh rfl) | exact SVLe.one (.nil (by decide)) | (refine SVLe.agg ?_; repeat (first | exact CsLe.nil | refine CsLe.cons ?_ ?_ | exact CLe.refl | exact CLe.sh rfl | exact CLe.nil (by decide) | (refine cle_i ?_; rfl) | (refine cle_b ?_; rfl))) | (refine SVLe.tup ?_; repeat (first | exact TLe.nil | refine TLe.cons ?_ ?_ | exact CsLe.nil | refine CsLe.cons ?_ ?_ | exact CLe.refl | exact CLe.sh rfl | exact CLe.nil (by decide) | (refine cle_i ?_; rfl) | (refine cle_b ?_; rfl))) | exact SVLe.refl | (refine sle_i ?_; rfl) | (refine sle_b ?_; rfl))) (h3 := (by repeat (first | exact trivial | refine And.intro ?_ ?_ | exact Or.inl rfl | exact Or.inr rfl | (refine Or.inr (row_eq ?_); rfl) | (refine Or.inr (bx_eq rfl rfl ?_); (try dsimp only [C.ren, C.ren.all]); rfl))))
theorem counted_ok (m : Mach) (c : Conf) (b : Int) (ha : askC m c b = 0) (hm : (m.ru.length : Int) ≤ 16777216) (hx : (c.le.length : Int) ≤ 16777216) (hy : (c.ri.length : Int) ≤ 16777216) : Does Try.prog 62 [.agg (maC m), .agg (coC c), .one (int b)] [] (.tup [(false, [.gv 0]), (false, [int (if (ctRun m c b).full then 5 else 0)])]) [ctBx, mpOf mII (ctRun m c b).x.cel, roI (ctRun m c b).x.sts, roI (ctRun m c b).x.rls] := by
  obtain ⟨h1, h2, h3, h4⟩ := ask_ok ha
  have hv := vMach_bd h1
  refine does_of (k := 0) Try.func62 rfl Try.ntmps62 rfl rfl fun w F0 S0 ρ0 => ?_
  dsimp only [argT, argH]
  repeat' first
    | refine g_seq ?_
    | refine g_skip ?_
    | refine g_exit ?_
    | refine g_block ?_
    | refine g_reg ?_
    | refine g_if_t rfl ?_
    | refine g_if_f rfl ?_
    | refine o_nil ?_
    | refine q_s ?_
    | refine q_se ?_
    | refine q_b ?_
    | refine q_be rfl ?_
    | refine q_bn rfl ?_
    | refine q_le ?_
    | refine q_ce ?_
    | (apply n3; (first | exact a_new (gb := .bx _) rfl); exact rfl; (try dsimp only [List.map_cons, List.map_nil, scC, Nat.reduceAdd]))
    | (apply p3; (first | exact a_pure (sv := .one _) rfl | exact a_pure (sv := .agg _) rfl | exact a_pure (sv := .tup _) rfl | exact a_ld_rowI rfl rfl rfl (fC rfl) bnd | exact a_ne rfl rfl | exact a_neS rfl rfl rfl); exact rfl)
    | (apply c4 0; exact callK1 (θ := []) (hD := (runCode0_ok _ _ preB13)); exact rfl; exact rfl; exact rfl; (try dsimp only [SV.ren, C.ren, C.ren.all, tRen, GB.ren, calF, upOf, List.cons_append, List.nil_append, Nat.reduceAdd]))
    | (apply c4 0; exact callK1 (θ := []) (hD := (runCode_ok _ _ _ preB13 preB13 preB13)); exact rfl; exact rfl; exact rfl; (try dsimp only [SV.ren, C.ren, C.ren.all, tRen, GB.ren, calF, upOf, List.cons_append, List.nil_append, Nat.reduceAdd]))
    | (apply c4 1; exact callK1 (θ := [_, _]) (hD := (followXA_ok _ _ _ _ preB13 preB13 preB13)); exact rfl; exact rfl; exact rfl; (try dsimp only [SV.ren, C.ren, C.ren.all, tRen, GB.ren, calF, upOf, List.cons_append, List.nil_append, Nat.reduceAdd]))
    | (apply c4 0; exact callK1 (θ := [_, _, _, _]) (hD := (followNA_ok _ _ _ preB13)); exact rfl; exact rfl; exact rfl; (try dsimp only [SV.ren, C.ren, C.ren.all, tRen, GB.ren, calF, upOf, List.cons_append, List.nil_append, Nat.reduceAdd]))
    | (apply c4 0; exact callK1 (θ := [_, _, _, _, _, _]) (hD := (followW_ok _ _ _ preB13 preB13 preB13 _ _ preB13)); exact rfl; exact rfl; exact rfl; (try dsimp only [SV.ren, C.ren, C.ren.all, tRen, GB.ren, calF, upOf, List.cons_append, List.nil_append, Nat.reduceAdd]))
    | (apply c4 0; exact callK1 (θ := [_, _, _, _, _, _]) (hD := (followWA_ok _ _ preB13)); exact rfl; exact rfl; exact rfl; (try dsimp only [SV.ren, C.ren, C.ren.all, tRen, GB.ren, calF, upOf, List.cons_append, List.nil_append, Nat.reduceAdd]))
    | (apply c4 0; exact callK1 (θ := [_]) (hD := (followM_ok _ _ _ _ preB13 preB13 preB13 preB13 preB13 preB13 _ preB13)); exact rfl; exact rfl; exact rfl; (try dsimp only [SV.ren, C.ren, C.ren.all, tRen, GB.ren, calF, upOf, List.cons_append, List.nil_append, Nat.reduceAdd]))
    | (apply c4 0; exact callK1 (θ := [_]) (hD := (followMA_ok _ _ _ preB13)); exact rfl; exact rfl; exact rfl; (try dsimp only [SV.ren, C.ren, C.ren.all, tRen, GB.ren, calF, upOf, List.cons_append, List.nil_append, Nat.reduceAdd]))
    | (apply g_drN okM [[], [], [1], [1, 2], [], [4], [4, 5], [4, 5, 6], [0, 1, 2, 3, 4, 5, 6, 7], [0, 1, 2, 3, 4, 5, 6, 7, 8], [0, 1, 2, 3, 4, 5, 6, 7, 8, 9]] [([0], []), ([], []), ([], []), ([1], []), ([], []), ([], []), ([], []), ([2], []), ([], []), ([3], []), ([], [])] 4; (focus (all_goals (apply d_uE (i := 0) (fs := []) (u := [21, 22, 23, 24, 25, 26, 27]) (o := [(true, 1), (true, 2)]); (first | exact atN 0 (fun _ => a_mkMapE mII)); exact rfl; kernel_rfl; kernel_rfl; kernel_rfl; exact dst_some rfl; exact rfl; exact rfl); all_goals (apply d_pN (i := 1) (fs := [false]) (u := [20, 24, 25, 26, 27]) (o := [(true, 0), (true, 2)]); (first | exact a_pure (sv := .one _) rfl); exact rfl; kernel_rfl; kernel_rfl; kernel_rfl; exact rfl; exact rfl); all_goals (apply d_pN (i := 2) (fs := [true, false]) (u := [20, 24, 25, 26, 27]) (o := [(true, 0), (true, 2)]); (first | exact a_pure (sv := .one _) rfl | exact a_pure (sv := .agg _) rfl | exact a_ld_rowI rfl rfl rfl (fC rfl) bnd); exact rfl; kernel_rfl; kernel_rfl; kernel_rfl; exact rfl; exact rfl); all_goals (apply d_uE (i := 3) (fs := [true, true, false]) (u := [20, 24, 25, 26, 27]) (o := [(true, 0), (true, 2)]); (first | exact atN 1 (fun _ => a_make (fE rfl) (fZ rfl) (fP rfl) (by decide) rfl rfl (by omega) rfl (by omega) (by omega) (rows_rep eI 0 _))); exact rfl; kernel_rfl; kernel_rfl; kernel_rfl; exact dst_some rfl; exact rfl; exact rfl); all_goals (apply d_pN (i := 4) (fs := [false, false, false, false]) (u := [20, 21, 22, 23]) (o := [(true, 0), (true, 1)]); (first | exact a_pure (sv := .one _) rfl); exact rfl; kernel_rfl; kernel_rfl; kernel_rfl; exact rfl; exact rfl); all_goals (apply d_pN (i := 5) (fs := [true, false, false, false, false]) (u := [20, 21, 22, 23]) (o := [(true, 0), (true, 1)]); (first | exact a_pure (sv := .one _) rfl | exact a_pure (sv := .agg _) rfl | exact a_ld_rowI rfl rfl rfl (fC rfl) bnd); exact rfl; kernel_rfl; kernel_rfl; kernel_rfl; exact rfl; exact rfl); all_goals (apply d_pN (i := 6) (fs := [true, true, false, false, false, false]) (u := [20, 21, 22, 23]) (o := [(true, 0), (true, 1)]); (first | exact a_lenE rfl rfl (fS rfl) (by exact rfl) | exact a_pure (sv := .one _) rfl | exact a_len_str rfl (fT rfl)); exact rfl; kernel_rfl; kernel_rfl; kernel_rfl; exact rfl; exact rfl); all_goals (apply d_uE (i := 7) (fs := [true, true, true, false, false, false, false]) (u := [20, 21, 22, 23]) (o := [(true, 0), (true, 1)]); (first | exact atN 2 (fun _ => a_make (fE rfl) (fZ rfl) (fP rfl) (by decide) rfl rfl (by omega) rfl (by omega) (by omega) (rows_rep eI 0 _))); exact rfl; kernel_rfl; kernel_rfl; kernel_rfl; exact dst_some rfl; exact rfl; exact rfl); all_goals (apply d_pN (i := 8) (fs := [true, true, true, true, true, true, true, true]) (u := []) (o := []); (first | exact a_pure (sv := .agg _) rfl); exact rfl; kernel_rfl; kernel_rfl; kernel_rfl; exact rfl; exact rfl); all_goals (apply d_uE (i := 9) (fs := [true, true, true, true, true, true, true, true, true]) (u := []) (o := []); (first | exact atN 3 (fun _ => a_new (gb := .bx _) rfl)); exact rfl; kernel_rfl; kernel_rfl; kernel_rfl; exact dst_some rfl; exact rfl; exact rfl); all_goals (apply d_pN (i := 10) (fs := [true, true, true, true, true, true, true, true, true, true]) (u := []) (o := []); (first | exact a_pure (sv := .one _) rfl | exact a_pure (sv := .agg _) rfl | exact a_pure (sv := .tup _) rfl); exact rfl; kernel_rfl; kernel_rfl; kernel_rfl; exact rfl; exact rfl); all_goals (refine d_nil ?_; dsimp only [selT, selH, trues, SV.ren, C.ren, C.ren.all, tRen, GB.ren, calF, upOf, List.cons_append, List.nil_append, Nat.reduceAdd, setRow, List.map_cons, List.map_nil, scC, List.set_cons_zero, List.set_cons_succ, List.take_succ_cons, List.take_zero, List.drop_succ_cons, List.drop_zero]))); any_goals kernel_rfl)
    | (refine o_gs rfl rfl (fun hc => ?_) (fun hc => ?_) <;> (try simp only [decide_eq_true_eq, decide_eq_false_iff_not, Bool.not_eq_true', Bool.not_eq_false', Bool.not_eq_true, Bool.not_eq_false, Bool.and_eq_true, Bool.or_eq_false_iff, Bool.not_not] at hc) <;> (try (exfalso; omega)))
    | (refine g_cond rfl (fun hc => ?_) (fun hc => ?_) <;> (try simp only [decide_eq_true_eq, decide_eq_false_iff_not, Bool.not_eq_true', Bool.not_eq_false', Bool.not_eq_true, Bool.not_eq_false, Bool.and_eq_true, Bool.or_eq_false_iff, Bool.not_not] at hc) <;> (try (exfalso; omega)))
  repeat (first | refine g_ret ?_ | refine q_sr ?_ | refine q_br ?_ | refine q_lr ?_ | refine q_cr ?_)
  refine ends_id ?_
  exact endK [_, _, _, _] (h2 := (by first | (with_reducible exact SVLe.refl) | exact SVLe.any | exact SVLe.one (.sh rfl) | exact SVLe.one (.nil (by decide)) | (refine SVLe.agg ?_; repeat (first | exact CsLe.nil | refine CsLe.cons ?_ ?_ | exact CLe.refl | exact CLe.sh rfl | exact CLe.nil (by decide) | (refine cle_i ?_; rfl) | (refine cle_b ?_; rfl))) | (refine SVLe.tup ?_; repeat (first | exact TLe.nil | refine TLe.cons ?_ ?_ | exact CsLe.nil | refine CsLe.cons ?_ ?_ | exact CLe.refl | exact CLe.sh rfl | exact CLe.nil (by decide) | (refine cle_i ?_; rfl) | (refine cle_b ?_; rfl))) | exact SVLe.refl | (refine sle_i ?_; rfl) | (refine sle_b ?_; rfl))) (h3 := (by repeat (first | exact trivial | refine And.intro ?_ ?_ | exact Or.inl rfl | exact Or.inr rfl | (refine Or.inr (row_eq ?_); rfl) | (refine Or.inr (bx_eq rfl rfl ?_); (try dsimp only [C.ren, C.ren.all]); rfl))))
theorem run_inv {σ : Type} {m : Mach} {fc : Conf → Int → σ → σ} {fs : Conf → Int → Rule' → σ → σ} (Q : σ → Prop) (hc : ∀ c hd x, Q x → Q (fc c hd x)) (hs : ∀ c hd x, Q x → Q (fs c hd (ruAt m c) x)) : ∀ (k : Nat) (n : Int) (c : Conf) (hd : Int) (x : σ), Q x → Q (runG m fc fs k n c hd x).x := by
  intro k
  induction k with
  | zero =>
    intro n c hd x h
    unfold runG
    split
    · exact hc _ _ _ h
    · exact hc _ _ _ h
  | succ k ih =>
    intro n c hd x h
    unfold runG
    split
    · exact hc _ _ _ h
    · dsimp only
      split
      · exact ih _ _ _ _ (hs _ _ _ (hc _ _ _ h))
      · exact hs _ _ _ (hc _ _ _ h)
theorem wk_lens (m : Mach) (c : Conf) (at' b : Int) : (wkRun m c at' b).x.sts.length = m.st.toNat ∧ (wkRun m c at' b).x.rls.length = m.ru.length := by
  unfold wkRun
  refine run_inv (fun x : Wk => x.sts.length = m.st.toNat ∧ x.rls.length = m.ru.length) (fun c hd x h => ?_) (fun c hd x h => ?_) _ _ _ _ _ ⟨by simp, by simp⟩
  · unfold wC; exact ⟨by dsimp only; rw [bump_len]; exact h.1, h.2⟩
  · unfold wS; exact ⟨h.1, by dsimp only; rw [bump_len]; exact h.2⟩
theorem wk_ask {m : Mach} {c : Conf} {b : Int} (h : wkCode m c b = 0) : askC m c b = 0 := by
  unfold wkCode at h
  split at h
  · assumption
  · rename_i hn; exact absurd h hn
end Go.Proofs.Ytncccjpbaeaafaa
