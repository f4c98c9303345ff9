/- The normal form of a machine: the reference's answer. -/
import Derived.Test.YtncccjpbaeaafaaB17
set_option linter.unusedVariables false
set_option linter.unusedSimpArgs false
set_option maxRecDepth 100000
set_option maxHeartbeats 4000000
namespace Go.Proofs.Ytncccjpbaeaafaa
open Go Foot
--HIDE l30Normal_ok
theorem preB18 {p : Prop} (h : p := by first | with_reducible assumption | omega | (simp only [List.length_append, List.length_cons, List.length_nil, List.length_set, List.length_replicate, List.length_take, List.length_drop, List.length_tail, List.length_dropLast, List.length_reverse] at *; omega) | (with_reducible refine Int.le_trans (Int.ofNat_le.2 (trimR_len _)) ?_; simp only [List.length_cons, List.length_tail]; omega) | (exact (ruAt_ok (by assumption) (by assumption) (by assumption)).2.1) | (exact (ruAt_ok (by assumption) (by assumption) (by assumption)).2.1) | (have := vMach_bd (by assumption); omega) | (with_reducible refine Int.le_trans (Int.ofNat_le.2 (pushL_len _ _)) ?_; simp only [List.length_dropLast]; omega) | exact (ask_ok (by assumption)).1 | exact (ask_ok (by assumption)).2.1 | exact (ask_ok (by assumption)).2.2.1 | exact (ask_ok (by assumption)).2.2.2 | (simp only [mC_ch, mC_tu]; omega) | trivial) : p := h
theorem l30NormalA_ok (m : Mach) (b : Int) (hm : vMach m = true) (hb : 1 ≤ b) (hb2 : b ≤ 20000) : Does Try.prog 48 [.one (maB m), .one (int b)] [] (.tup [(true, [int (if (nmRun m b).full then 0 else m.sy), int (if (nmRun m b).full then 0 else m.st), .gv 0]), (false, [boo (!(nmRun m b).full)])]) [.row 3 (rows eR (if (nmRun m b).full then [] else (nmRun m b).x.ru))] := l30Normal_ok m b hm hb hb2 _ (by unfold nmRun; rfl)
theorem ask0 (m : Mach) (b : Int) : askC m c0 b = if vMach m = true then if 1 ≤ b ∧ b ≤ 20000 then 0 else 2 else 1 := by
  unfold askC
  by_cases h : vMach m = true
  · rw [if_pos ⟨h, vConf0 h⟩, if_pos h]
  · rw [if_neg (fun e => h e.1), if_neg h]
theorem sNormalOf_ok (m : Mach) (b : Int) (hm : (m.ru.length : Int) ≤ 16777216) : Does Try.prog 12 [.agg (maC m), .one (int b)] [] (.tup [(true, [int (nrM m b).sy, int (nrM m b).st, .gv 0]), (false, [int (nrCode m b)])]) [.row 3 (rows eR (nrM m b).ru)] := by
  have hcode : nrCode m b = if askC m c0 b = 0 then if (nmRun m b).full then 5 else 0 else askC m c0 b := by unfold nrCode; rfl
  have hres : nrM m b = if nrCode m b = 0 then ⟨m.sy, m.st, (nmRun m b).x.ru⟩ else ⟨0, 0, []⟩ := by unfold nrM; rfl
  have hask := ask0 m b
  refine does_of (k := 0) Try.func12 rfl Try.ntmps12 rfl rfl fun w F0 S0 ρ0 => ?_
  dsimp only [argT, argH]
  repeat' first
    | refine g_seq ?_
    | refine g_skip ?_
    | refine g_exit ?_
    | refine g_block ?_
    | refine g_reg ?_
    | refine g_if_t rfl ?_
    | refine g_if_f rfl ?_
    | refine o_nil ?_
    | refine q_s ?_
    | refine q_se ?_
    | refine q_b ?_
    | refine q_be rfl ?_
    | refine q_bn rfl ?_
    | refine q_le ?_
    | refine q_ce ?_
    | (apply n3; (first | exact a_new (gb := .bx _) rfl); exact rfl; (try dsimp only [List.map_cons, List.map_nil, scC, Nat.reduceAdd]))
    | (apply p3; (first | exact a_pure (sv := .one _) rfl | exact a_pure (sv := .agg _) rfl | exact a_pure (sv := .tup _) rfl | exact a_ld_rowI rfl rfl rfl (fC rfl) bnd); exact rfl)
    | (apply w3; (first | exact a_st_bx rfl rfl rfl rfl (fN rfl rfl) (Nat.le_of_ble_eq_true rfl) rfl); exact rfl; (try dsimp only [setRow, List.map_cons, List.map_nil, scC, List.set_cons_zero, List.set_cons_succ, List.take_succ_cons, List.take_zero, List.drop_succ_cons, List.drop_zero, Nat.reduceAdd]))
    | (apply c4 0; exact callK1 (θ := []) (hD := (l05Is_ok _ preB18)); exact rfl; exact rfl; exact rfl; (try dsimp only [SV.ren, C.ren, C.ren.all, tRen, GB.ren, calF, upOf, List.cons_append, List.nil_append, Nat.reduceAdd]))
    | (apply c4 0; exact callK1 (θ := []) (hD := (l05Budget_ok _)); exact rfl; exact rfl; exact rfl; (try dsimp only [SV.ren, C.ren, C.ren.all, tRen, GB.ren, calF, upOf, List.cons_append, List.nil_append, Nat.reduceAdd]))
    | (apply c4 1; exact callK1 (θ := []) (hD := (l30NormalA_ok _ _ preB18 preB18 preB18)); exact rfl; exact rfl; exact rfl; (try dsimp only [SV.ren, C.ren, C.ren.all, tRen, GB.ren, calF, upOf, List.cons_append, List.nil_append, Nat.reduceAdd]))
    | (refine o_gs rfl rfl (fun hc => ?_) (fun hc => ?_) <;> (try simp only [decide_eq_true_eq, decide_eq_false_iff_not, Bool.not_eq_true', Bool.not_eq_false', Bool.not_eq_true, Bool.not_eq_false, Bool.and_eq_true, Bool.or_eq_false_iff, Bool.not_not] at hc) <;> (try (exfalso; omega)))
    | (refine g_cond rfl (fun hc => ?_) (fun hc => ?_) <;> (try simp only [decide_eq_true_eq, decide_eq_false_iff_not, Bool.not_eq_true', Bool.not_eq_false', Bool.not_eq_true, Bool.not_eq_false, Bool.and_eq_true, Bool.or_eq_false_iff, Bool.not_not] at hc) <;> (try (exfalso; omega)))
  · have hC : nrCode m b = 1 := by simp_all
    have hM : nrM m b = ⟨0, 0, []⟩ := by rw [hres, hC]; rfl
    rw [hM, hC]
    refine g_conv (t_nilB (i := 1) (k := 2) (z := 3) rfl rfl rfl (by decide)) ?_
    try dsimp only [setRow, List.map_cons, List.map_nil, scC, List.set_cons_zero, List.set_cons_succ]
    repeat (first | refine g_ret ?_ | refine q_sr ?_ | refine q_br ?_ | refine q_lr ?_ | refine q_cr ?_)
    refine ends_id ?_
    exact endK [_] (h2 := (by first | (with_reducible exact SVLe.refl) | exact SVLe.any | exact SVLe.one (.sh rfl) | exact SVLe.one (.nil (by decide)) | (refine SVLe.agg ?_; repeat (first | exact CsLe.nil | refine CsLe.cons ?_ ?_ | exact CLe.refl | exact CLe.sh rfl | exact CLe.nil (by decide) | (refine cle_i ?_; rfl) | (refine cle_b ?_; rfl))) | (refine SVLe.tup ?_; repeat (first | exact TLe.nil | refine TLe.cons ?_ ?_ | exact CsLe.nil | refine CsLe.cons ?_ ?_ | exact CLe.refl | exact CLe.sh rfl | exact CLe.nil (by decide) | (refine cle_i ?_; rfl) | (refine cle_b ?_; rfl))) | exact SVLe.refl | (refine sle_i ?_; rfl) | (refine sle_b ?_; rfl))) (h3 := (by repeat (first | exact trivial | refine And.intro ?_ ?_ | exact Or.inl rfl | exact Or.inr rfl | (refine Or.inr (row_eq ?_); rfl) | (refine Or.inr (bx_eq rfl rfl ?_); (try dsimp only [C.ren, C.ren.all]); rfl))))
  · have hC : nrCode m b = 2 := by simp_all
    have hM : nrM m b = ⟨0, 0, []⟩ := by rw [hres, hC]; rfl
    rw [hM, hC]
    refine g_conv (t_nilB (i := 1) (k := 2) (z := 3) rfl rfl rfl (by decide)) ?_
    try dsimp only [setRow, List.map_cons, List.map_nil, scC, List.set_cons_zero, List.set_cons_succ]
    repeat (first | refine g_ret ?_ | refine q_sr ?_ | refine q_br ?_ | refine q_lr ?_ | refine q_cr ?_)
    refine ends_id ?_
    exact endK [_] (h2 := (by first | (with_reducible exact SVLe.refl) | exact SVLe.any | exact SVLe.one (.sh rfl) | exact SVLe.one (.nil (by decide)) | (refine SVLe.agg ?_; repeat (first | exact CsLe.nil | refine CsLe.cons ?_ ?_ | exact CLe.refl | exact CLe.sh rfl | exact CLe.nil (by decide) | (refine cle_i ?_; rfl) | (refine cle_b ?_; rfl))) | (refine SVLe.tup ?_; repeat (first | exact TLe.nil | refine TLe.cons ?_ ?_ | exact CsLe.nil | refine CsLe.cons ?_ ?_ | exact CLe.refl | exact CLe.sh rfl | exact CLe.nil (by decide) | (refine cle_i ?_; rfl) | (refine cle_b ?_; rfl))) | exact SVLe.refl | (refine sle_i ?_; rfl) | (refine sle_b ?_; rfl))) (h3 := (by repeat (first | exact trivial | refine And.intro ?_ ?_ | exact Or.inl rfl | exact Or.inr rfl | (refine Or.inr (row_eq ?_); rfl) | (refine Or.inr (bx_eq rfl rfl ?_); (try dsimp only [C.ren, C.ren.all]); rfl))))
  · have hf : (nmRun m b).full = true := by simp_all
    have hC : nrCode m b = 5 := by simp_all
    have hM : nrM m b = ⟨0, 0, []⟩ := by rw [hres, hC]; rfl
    rw [hM, hC]
    refine g_conv (t_nilB (i := 1) (k := 2) (z := 3) rfl rfl rfl (by decide)) ?_
    try dsimp only [setRow, List.map_cons, List.map_nil, scC, List.set_cons_zero, List.set_cons_succ]
    repeat (first | refine g_ret ?_ | refine q_sr ?_ | refine q_br ?_ | refine q_lr ?_ | refine q_cr ?_)
    refine ends_id ?_
    exact endK [_] (h2 := (by first | (with_reducible exact SVLe.refl) | exact SVLe.any | exact SVLe.one (.sh rfl) | exact SVLe.one (.nil (by decide)) | (refine SVLe.agg ?_; repeat (first | exact CsLe.nil | refine CsLe.cons ?_ ?_ | exact CLe.refl | exact CLe.sh rfl | exact CLe.nil (by decide) | (refine cle_i ?_; rfl) | (refine cle_b ?_; rfl))) | (refine SVLe.tup ?_; repeat (first | exact TLe.nil | refine TLe.cons ?_ ?_ | exact CsLe.nil | refine CsLe.cons ?_ ?_ | exact CLe.refl | exact CLe.sh rfl | exact CLe.nil (by decide) | (refine cle_i ?_; rfl) | (refine cle_b ?_; rfl))) | exact SVLe.refl | (refine sle_i ?_; rfl) | (refine sle_b ?_; rfl))) (h3 := (by repeat (first | exact trivial | refine And.intro ?_ ?_ | exact Or.inl rfl | exact Or.inr rfl | (refine Or.inr (row_eq ?_); rfl) | (refine Or.inr (bx_eq rfl rfl ?_); (try dsimp only [C.ren, C.ren.all]); rfl))))
  · have hf : (nmRun m b).full = false := by simp_all
    have hC : nrCode m b = 0 := by simp_all
    have hM : nrM m b = ⟨m.sy, m.st, (nmRun m b).x.ru⟩ := by rw [hres, hC]; rfl
    rw [hM, hC]
    repeat (first | refine g_ret ?_ | refine q_sr ?_ | refine q_br ?_ | refine q_lr ?_ | refine q_cr ?_)
    refine ends_id ?_
    exact endK [_] (h2 := (by first | (with_reducible exact SVLe.refl) | exact SVLe.any | exact SVLe.one (.sh rfl) | exact SVLe.one (.nil (by decide)) | (refine SVLe.agg ?_; repeat (first | exact CsLe.nil | refine CsLe.cons ?_ ?_ | exact CLe.refl | exact CLe.sh rfl | exact CLe.nil (by decide) | (refine cle_i ?_; (simp [hf])) | (refine cle_b ?_; (simp [hf])))) | (refine SVLe.tup ?_; repeat (first | exact TLe.nil | refine TLe.cons ?_ ?_ | exact CsLe.nil | refine CsLe.cons ?_ ?_ | exact CLe.refl | exact CLe.sh rfl | exact CLe.nil (by decide) | (refine cle_i ?_; (simp [hf])) | (refine cle_b ?_; (simp [hf])))) | exact SVLe.refl | (refine sle_i ?_; (simp [hf])) | (refine sle_b ?_; (simp [hf])))) (h3 := (by repeat (first | exact trivial | refine And.intro ?_ ?_ | exact Or.inl rfl | exact Or.inr rfl | (refine Or.inr (row_eq ?_); (simp [hf])) | (refine Or.inr (bx_eq rfl rfl ?_); (try dsimp only [C.ren, C.ren.all]); (simp [hf])))))
theorem run_mem {σ : Type} {m : Mach} {fc : Conf → Int → σ → σ} {fs : Conf → Int → Rule' → σ → σ} (Q : σ → Prop) (hc : ∀ c hd x, Q x → Q (fc c hd x)) (hs : ∀ c hd x, Q x → Q (fs c hd (ruAt m c) x)) : ∀ (k : Nat) (n : Int) (c : Conf) (hd : Int) (x : σ), Q x → Q (runG m fc fs k n c hd x).x := by
  intro k
  induction k with
  | zero =>
    intro n c hd x h
    unfold runG
    split
    · exact hc _ _ _ h
    · exact hc _ _ _ h
  | succ k ih =>
    intro n c hd x h
    unfold runG
    split
    · exact hc _ _ _ h
    · dsimp only
      split
      · exact ih _ _ _ _ (hs _ _ _ (hc _ _ _ h))
      · exact hs _ _ _ (hc _ _ _ h)
theorem nrM_len (m : Mach) (b : Int) : ((nrM m b).ru.length : Int) ≤ 6000 := by
  unfold nrM
  split
  · rename_i h
    have ha : askC m c0 b = 0 := by
      unfold nrCode at h
      split at h
      · assumption
      · rename_i hn; exact absurd h hn
    have hv := vMach_bd (ask_ok ha).1
    have hp : m.st * m.sy ≤ 1000 * 6 := Int.mul_le_mul (by omega) (by omega) (by omega) (by omega)
    have := run_mem (m := m) (fc := idC) (fs := nmS m) (fun x : Nm => x.ru.length = (m.st * m.sy).toNat) (fun _ _ _ h => h) (fun c hd x h => by unfold nmS; dsimp only; rw [List.length_set]; exact h) b.toNat 0 c0 0 (nm0 m) (by simp)
    unfold nmRun
    dsimp only
    rw [this]
    omega
  · simp
end Go.Proofs.Ytncccjpbaeaafaa
