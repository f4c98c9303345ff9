/- The measures of a run: the reference's and the program's. -/
import Derived.Test.YtncccjpbaeaafaaB9
set_option linter.unusedVariables false
set_option linter.unusedSimpArgs false
set_option maxRecDepth 100000
set_option maxHeartbeats 4000000
namespace Go.Proofs.Ytncccjpbaeaafaa
open Go Foot
section
variable {σ τ : Type} {m : Mach} {fc : Conf → Int → σ → σ} {fs : Conf → Int → Rule' → σ → σ} {fc' : Conf → Int → τ → τ} {fs' : Conf → Int → Rule' → τ → τ}
/-- Two that watch the same run. -/
theorem run_two (R : Conf → Int → σ → τ → Prop) (hs : ∀ c hd x y, R c hd x y → ¬ ruAt m c = noR → roomS (stepS (ruAt m c) c) = true → R (stepS (ruAt m c) c) (hd + (ruAt m c).m) (fs c hd (ruAt m c) (fc c hd x)) (fs' c hd (ruAt m c) (fc' c hd y))) :
    ∀ (k : Nat) (n : Int) (c : Conf) (hd : Int) (x : σ) (y : τ), R c hd x y → ∃ x' y', (runG m fc fs k n c hd x).n = (runG m fc' fs' k n c hd y).n ∧ (runG m fc fs k n c hd x).c = (runG m fc' fs' k n c hd y).c ∧ (runG m fc fs k n c hd x).halts = (runG m fc' fs' k n c hd y).halts ∧ (runG m fc fs k n c hd x).full = (runG m fc' fs' k n c hd y).full ∧ (runG m fc fs k n c hd x).hd = (runG m fc' fs' k n c hd y).hd ∧
      ((runG m fc fs k n c hd x).full = false → R (runG m fc fs k n c hd x).c (runG m fc fs k n c hd x).hd x' y' ∧ (runG m fc fs k n c hd x).x = fc (runG m fc fs k n c hd x).c (runG m fc fs k n c hd x).hd x' ∧ (runG m fc' fs' k n c hd y).x = fc' (runG m fc fs k n c hd x).c (runG m fc fs k n c hd x).hd y') := by
  intro k
  induction k with
  | zero =>
    intro n c hd x y h
    unfold runG
    split
    · exact ⟨x, y, rfl, rfl, rfl, rfl, rfl, fun _ => ⟨h, rfl, rfl⟩⟩
    · exact ⟨x, y, rfl, rfl, rfl, rfl, rfl, fun _ => ⟨h, rfl, rfl⟩⟩
  | succ k ih =>
    intro n c hd x y h
    unfold runG
    split
    · exact ⟨x, y, rfl, rfl, rfl, rfl, rfl, fun _ => ⟨h, rfl, rfl⟩⟩
    · rename_i hn
      dsimp only
      split
      · rename_i hr
        exact ih _ _ _ _ _ (hs c hd x y h hn hr)
      · exact ⟨x, y, rfl, rfl, rfl, rfl, rfl, fun h => by cases h⟩
end
structure Meas where
  n : Int
  ha : Bool
  sp : Int
  le : Int
  gr : Int
  ch : Int
  tu : Int
  ma : Int
abbrev measC (x : Meas) : List C := [int x.n, boo x.ha, int x.sp, int x.le, int x.gr, int x.ch, int x.tu, int x.ma]
/-- The run that is measured. -/
@[irreducible] def wkRun (m : Mach) (c : Conf) (at' b : Int) : Out Wk := runG m wC (wS m at') b.toNat 0 c 0 (w0 m)
@[irreducible] def measOf (m : Mach) (c : Conf) (b : Int) : Meas :=
  if askC m c b = 0 ∧ (wkRun m c 0 b).full = false then ⟨(wkRun m c 0 b).n, (wkRun m c 0 b).halts, (wkRun m c 0 b).x.sp, (wkRun m c 0 b).x.le, (wkRun m c 0 b).x.gr, (wkRun m c 0 b).x.ch, (wkRun m c 0 b).x.tu, marksC (wkRun m c 0 b).c⟩ else ⟨0, false, 0, 0, 0, 0, 0, 0⟩
@[irreducible] def wkCode (m : Mach) (c : Conf) (b : Int) : Int := if askC m c b = 0 then if (wkRun m c 0 b).full then 5 else 0 else askC m c b
theorem ask_ok {m : Mach} {c : Conf} {b : Int} (h : askC m c b = 0) : vMach m = true ∧ vConf m c = true ∧ 1 ≤ b ∧ b ≤ 20000 := by
  unfold askC at h
  split at h
  · rename_i h1
    split at h
    · rename_i h2; exact ⟨h1.1, h1.2, h2.1, h2.2⟩
    · cases h
  · cases h
--PRE exact (ask_ok (by assumption)).1
--PRE exact (ask_ok (by assumption)).2.1
--PRE exact (ask_ok (by assumption)).2.2.1
--PRE exact (ask_ok (by assumption)).2.2.2
--HIDE l20Run_ok
theorem preB10 {p : Prop} (h : p := by first | with_reducible assumption | omega | (simp only [List.length_append, List.length_cons, List.length_nil, List.length_set, List.length_replicate, List.length_take, List.length_drop, List.length_tail, List.length_dropLast, List.length_reverse] at *; omega) | (with_reducible refine Int.le_trans (Int.ofNat_le.2 (trimR_len _)) ?_; simp only [List.length_cons, List.length_tail]; omega) | (have := vMach_bd (by assumption); omega) | (with_reducible refine Int.le_trans (Int.ofNat_le.2 (pushL_len _ _)) ?_; simp only [List.length_dropLast]; omega) | (simp only [mC_ch, mC_tu]; omega) | exact (ask_ok (by assumption)).1 | exact (ask_ok (by assumption)).2.1 | exact (ask_ok (by assumption)).2.2.1 | exact (ask_ok (by assumption)).2.2.2 | trivial) : p := h
theorem l20RunA_ok (m : Mach) (c : Conf) (at' b : Int) (ha : askC m c b = 0) (hat : -100000 ≤ at' ∧ at' ≤ 100000) : Does Try.prog 59 [.one (maB m), .one (coB c), .one (int at'), .one (int b)] [] (.one (.gv 0)) [wkJx (wkRun m c at' b).n (wkRun m c at' b).halts (wkRun m c at' b).x (if (wkRun m c at' b).full then 0 else marksC (wkRun m c at' b).c) 1 2 3 4 (wkRun m c at' b).full, roI (wkRun m c at' b).x.vis, roI (wkRun m c at' b).x.sts, roI (wkRun m c at' b).x.rls, roI (wkRun m c at' b).x.crs] := by
  obtain ⟨h1, h2, h3, h4⟩ := ask_ok ha
  exact l20Run_ok m c at' b h1 h2 h3 h4 hat _ (by unfold wkRun; rfl)
theorem sMeasureRun_ok (m : Mach) (c : Conf) (b : Int) (hm : (m.ru.length : Int) ≤ 16777216) (hx : (c.le.length : Int) ≤ 16777216) (hy : (c.ri.length : Int) ≤ 16777216) : Does Try.prog 19 [.agg (maC m), .agg (coC c), .one (int b)] [] (.tup [(true, measC (measOf m c b)), (false, [int (wkCode m c b)])]) [] := by
  refine does_of (k := 0) Try.func19 rfl Try.ntmps19 rfl rfl fun w F0 S0 ρ0 => ?_
  dsimp only [argT, argH]
  repeat' first
    | refine g_seq ?_
    | refine g_skip ?_
    | refine g_exit ?_
    | refine g_block ?_
    | refine g_reg ?_
    | refine g_if_t rfl ?_
    | refine g_if_f rfl ?_
    | refine o_nil ?_
    | refine q_s ?_
    | refine q_se ?_
    | refine q_b ?_
    | refine q_be rfl ?_
    | refine q_bn rfl ?_
    | refine q_le ?_
    | refine q_ce ?_
    | (apply n3; (first | exact a_new (gb := .bx _) rfl); exact rfl; (try dsimp only [List.map_cons, List.map_nil, scC, Nat.reduceAdd]))
    | (apply p3; (first | exact a_pure (sv := .one _) rfl | exact a_pure (sv := .agg _) rfl | exact a_pure (sv := .tup _) rfl | exact a_ne rfl rfl | exact a_neS rfl rfl rfl | exact a_ld_rowI rfl rfl rfl (fC rfl) bnd); exact rfl)
    | (apply w3; (first | exact a_st_bx rfl rfl rfl rfl (fN rfl rfl) (Nat.le_of_ble_eq_true rfl) rfl); exact rfl; (try dsimp only [setRow, List.map_cons, List.map_nil, scC, List.set_cons_zero, List.set_cons_succ, List.take_succ_cons, List.take_zero, List.drop_succ_cons, List.drop_zero, Nat.reduceAdd]))
    | (apply c4 0; exact callK1 (θ := []) (hD := (l20Ask_ok _ _ _ preB10 preB10 preB10)); exact rfl; exact rfl; exact rfl; (try dsimp only [SV.ren, C.ren, C.ren.all, tRen, GB.ren, calF, upOf, List.cons_append, List.nil_append, Nat.reduceAdd]))
    | (apply c4 5; exact callK1 (θ := []) (hD := (l20RunA_ok _ _ _ _ preB10 preB10)); exact rfl; exact rfl; exact rfl; (try dsimp only [SV.ren, C.ren, C.ren.all, tRen, GB.ren, calF, upOf, List.cons_append, List.nil_append, Nat.reduceAdd]))
    | (refine o_gs rfl rfl (fun hc => ?_) (fun hc => ?_) <;> (try simp only [decide_eq_true_eq, decide_eq_false_iff_not, Bool.not_eq_true', Bool.not_eq_false', Bool.not_eq_true, Bool.not_eq_false, Bool.and_eq_true, Bool.or_eq_false_iff, Bool.not_not] at hc) <;> (try (exfalso; omega)))
    | (refine g_cond rfl (fun hc => ?_) (fun hc => ?_) <;> (try simp only [decide_eq_true_eq, decide_eq_false_iff_not, Bool.not_eq_true', Bool.not_eq_false', Bool.not_eq_true, Bool.not_eq_false, Bool.and_eq_true, Bool.or_eq_false_iff, Bool.not_not] at hc) <;> (try (exfalso; omega)))
  all_goals
    repeat (first | refine g_ret ?_ | refine q_sr ?_ | refine q_br ?_ | refine q_lr ?_ | refine q_cr ?_)
    refine ends_id ?_
    exact endK [] (h2 := (by first | (with_reducible exact SVLe.refl) | exact SVLe.any | exact SVLe.one (.sh rfl) | exact SVLe.one (.nil (by decide)) | (refine SVLe.agg ?_; repeat (first | exact CsLe.nil | refine CsLe.cons ?_ ?_ | exact CLe.refl | exact CLe.sh rfl | exact CLe.nil (by decide) | (refine cle_i ?_; ((first | unfold measOf | unfold wkCode | skip); simp [*])) | (refine cle_b ?_; ((first | unfold measOf | unfold wkCode | skip); simp [*])))) | (refine SVLe.tup ?_; repeat (first | exact TLe.nil | refine TLe.cons ?_ ?_ | exact CsLe.nil | refine CsLe.cons ?_ ?_ | exact CLe.refl | exact CLe.sh rfl | exact CLe.nil (by decide) | (refine cle_i ?_; ((first | unfold measOf | unfold wkCode | skip); simp [*])) | (refine cle_b ?_; ((first | unfold measOf | unfold wkCode | skip); simp [*])))) | exact SVLe.refl | (refine sle_i ?_; ((first | unfold measOf | unfold wkCode | skip); simp [*])) | (refine sle_b ?_; ((first | unfold measOf | unfold wkCode | skip); simp [*])))) (h3 := (by repeat (first | exact trivial | refine And.intro ?_ ?_ | exact Or.inl rfl | exact Or.inr rfl | (refine Or.inr (row_eq ?_); ((first | unfold measOf | unfold wkCode | skip); simp [*])) | (refine Or.inr (bx_eq rfl rfl ?_); (try dsimp only [C.ren, C.ren.all]); ((first | unfold measOf | unfold wkCode | skip); simp [*])))))
/-- What the two measure. -/
structure MeaR (hd : Int) (x : Mea) (y : Wk) : Prop where
  sp : x.sp = y.sp
  le : y.le = min x.le hd
  gr : y.gr = max x.gr hd
  ch : x.ch = y.ch
  tu : x.tu = y.tu
  la : x.la = y.la
theorem meaR_step {m : Mach} {c : Conf} {hd : Int} {x : Mea} {y : Wk} (h : MeaR hd x y) (u : Rule') : MeaR (hd + u.m) (mS c hd u (mC c hd x)) (wS m 0 c hd u (wC c hd y)) := by
  unfold mS mC wS wC
  exact ⟨by dsimp only; rw [h.sp], by dsimp only; rw [h.le], by dsimp only; rw [h.gr], by dsimp only; rw [h.ch], by dsimp only; rw [h.tu, h.la], rfl⟩
abbrev me0 : Mea := ⟨0, 0, 0, 0, 0, 0, 0⟩
@[irreducible] def meRun (m : Mach) (c : Conf) (b : Int) : Out Mea := runG m mC mS b.toNat 0 c 0 me0
theorem me_wk (m : Mach) (c : Conf) (b : Int) : (meRun m c b).n = (wkRun m c 0 b).n ∧ (meRun m c b).halts = (wkRun m c 0 b).halts ∧ (meRun m c b).full = (wkRun m c 0 b).full ∧ ((wkRun m c 0 b).full = false → (meRun m c b).x.sp = (wkRun m c 0 b).x.sp ∧ (meRun m c b).x.le = (wkRun m c 0 b).x.le ∧ (meRun m c b).x.gr = (wkRun m c 0 b).x.gr ∧ (meRun m c b).x.ch = (wkRun m c 0 b).x.ch ∧ (meRun m c b).x.tu = (wkRun m c 0 b).x.tu ∧ (meRun m c b).x.ma = marksC (wkRun m c 0 b).c) := by
  unfold meRun wkRun
  obtain ⟨x', y', h1, h2, h3, h4, h5, h6⟩ := run_two (m := m) (fc := mC) (fs := mS) (fc' := wC) (fs' := wS m 0) (fun _ hd x y => MeaR hd x y) (fun c hd x y h _ _ => meaR_step h _) b.toNat 0 c 0 me0 (w0 m) ⟨rfl, rfl, rfl, rfl, rfl, rfl⟩
  generalize runG m mC mS b.toNat 0 c 0 me0 = O1 at *
  generalize runG m wC (wS m 0) b.toNat 0 c 0 (w0 m) = O2 at *
  refine ⟨h1, h3, h4, fun hf => ?_⟩
  obtain ⟨r, e1, e2⟩ := h6 (h4.trans hf)
  rw [e1, e2, ← h2]
  unfold mC wC
  exact ⟨by dsimp only; rw [r.sp], by dsimp only; exact r.le.symm, by dsimp only; exact r.gr.symm, by dsimp only; exact r.ch, by dsimp only; exact r.tu, rfl⟩
--HIDE followM_ok
theorem followMA_ok (m : Mach) (c : Conf) (b : Int) (ha : askC m c b = 0) : Does Try.prog 53 [.agg (maC m), .agg (coC c), .one (int b), .one (.ifc 98 false [.gv 0])] [meBx me0] (.tup [(false, [int (if (meRun m c b).full then 0 else (meRun m c b).n)]), (false, [boo (meRun m c b).halts]), (false, [int (if (meRun m c b).full then 5 else 0)])]) [meBx (meRun m c b).x] := by
  obtain ⟨h1, h2, h3, h4⟩ := ask_ok ha
  exact followM_ok m c b me0 h1 h2 h3 h4 rfl rfl _ (by unfold meRun; rfl)
theorem iMeasureRun_ok (m : Mach) (c : Conf) (b : Int) (hm : (m.ru.length : Int) ≤ 16777216) (hx : (c.le.length : Int) ≤ 16777216) (hy : (c.ri.length : Int) ≤ 16777216) : Does Try.prog 21 [.agg (maC m), .agg (coC c), .one (int b)] [] (.tup [(true, measC (measOf m c b)), (false, [int (wkCode m c b)])]) [] := by
  obtain ⟨e1, e2, e3, e4⟩ := me_wk m c b
  refine does_of (k := 0) Try.func21 rfl Try.ntmps21 rfl rfl fun w F0 S0 ρ0 => ?_
  dsimp only [argT, argH]
  repeat' first
    | refine g_seq ?_
    | refine g_skip ?_
    | refine g_exit ?_
    | refine g_block ?_
    | refine g_reg ?_
    | refine g_if_t rfl ?_
    | refine g_if_f rfl ?_
    | refine o_nil ?_
    | refine q_s ?_
    | refine q_se ?_
    | refine q_b ?_
    | refine q_be rfl ?_
    | refine q_bn rfl ?_
    | refine q_le ?_
    | refine q_ce ?_
    | (apply n3; (first | exact a_new (gb := .bx _) rfl); exact rfl; (try dsimp only [List.map_cons, List.map_nil, scC, Nat.reduceAdd]))
    | (apply p3; (first | exact a_pure (sv := .one _) rfl | exact a_pure (sv := .agg _) rfl | exact a_ld_rowI rfl rfl rfl (fC rfl) bnd | exact a_pure (sv := .tup _) rfl | exact a_ne rfl rfl | exact a_neS rfl rfl rfl); exact rfl)
    | (apply w3; (first | exact a_st_bx rfl rfl rfl rfl (fN rfl rfl) (Nat.le_of_ble_eq_true rfl) rfl | exact a_st_rowI rfl rfl rfl rfl (fN rfl rfl) bnd | exact a_stE (E := eI) _ rfl rfl rfl rfl (fN rfl rfl) bnd (by exact rfl)); exact rfl; (try dsimp only [setRow, List.map_cons, List.map_nil, scC, List.set_cons_zero, List.set_cons_succ, List.take_succ_cons, List.take_zero, List.drop_succ_cons, List.drop_zero, Nat.reduceAdd]))
    | (apply c4 0; exact callK1 (θ := []) (hD := (runCode_ok _ _ _ preB10 preB10 preB10)); exact rfl; exact rfl; exact rfl; (try dsimp only [SV.ren, C.ren, C.ren.all, tRen, GB.ren, calF, upOf, List.cons_append, List.nil_append, Nat.reduceAdd]))
    | (apply c4 0; exact callK1 (θ := [_]) (hD := (followMA_ok _ _ _ preB10)); exact rfl; exact rfl; exact rfl; (try dsimp only [SV.ren, C.ren, C.ren.all, tRen, GB.ren, calF, upOf, List.cons_append, List.nil_append, Nat.reduceAdd]))
    | (apply c4 1; exact callK1 (θ := [_, _]) (hD := (followX_ok _ _ _ _ preB10 preB10 preB10 preB10 preB10 preB10 _ preB10)); exact rfl; exact rfl; exact rfl; (try dsimp only [SV.ren, C.ren, C.ren.all, tRen, GB.ren, calF, upOf, List.cons_append, List.nil_append, Nat.reduceAdd]))
    | (apply c4 1; exact callK1 (θ := [_, _]) (hD := (followXA_ok _ _ _ _ preB10 preB10 preB10)); exact rfl; exact rfl; exact rfl; (try dsimp only [SV.ren, C.ren, C.ren.all, tRen, GB.ren, calF, upOf, List.cons_append, List.nil_append, Nat.reduceAdd]))
    | (apply c4 0; exact callK1 (θ := [_, _, _, _]) (hD := (followN_ok _ _ _ _ preB10 preB10 preB10 preB10 _ _ preB10)); exact rfl; exact rfl; exact rfl; (try dsimp only [SV.ren, C.ren, C.ren.all, tRen, GB.ren, calF, upOf, List.cons_append, List.nil_append, Nat.reduceAdd]))
    | (apply c4 0; exact callK1 (θ := [_, _, _, _]) (hD := (followNA_ok _ _ _ preB10)); exact rfl; exact rfl; exact rfl; (try dsimp only [SV.ren, C.ren, C.ren.all, tRen, GB.ren, calF, upOf, List.cons_append, List.nil_append, Nat.reduceAdd]))
    | (refine o_gs rfl rfl (fun hc => ?_) (fun hc => ?_) <;> (try simp only [decide_eq_true_eq, decide_eq_false_iff_not, Bool.not_eq_true', Bool.not_eq_false', Bool.not_eq_true, Bool.not_eq_false, Bool.and_eq_true, Bool.or_eq_false_iff, Bool.not_not] at hc) <;> (try (exfalso; omega)))
    | (refine g_cond rfl (fun hc => ?_) (fun hc => ?_) <;> (try simp only [decide_eq_true_eq, decide_eq_false_iff_not, Bool.not_eq_true', Bool.not_eq_false', Bool.not_eq_true, Bool.not_eq_false, Bool.and_eq_true, Bool.or_eq_false_iff, Bool.not_not] at hc) <;> (try (exfalso; omega)))
  all_goals (simp only [e1, e2, e3] at *)
  · repeat (first | refine g_ret ?_ | refine q_sr ?_ | refine q_br ?_ | refine q_lr ?_ | refine q_cr ?_)
    refine ends_id ?_
    exact endK [] (h2 := (by first | (with_reducible exact SVLe.refl) | exact SVLe.any | exact SVLe.one (.sh rfl) | exact SVLe.one (.nil (by decide)) | (refine SVLe.agg ?_; repeat (first | exact CsLe.nil | refine CsLe.cons ?_ ?_ | exact CLe.refl | exact CLe.sh rfl | exact CLe.nil (by decide) | (refine cle_i ?_; ((first | unfold measOf | unfold wkCode | skip); simp [*])) | (refine cle_b ?_; ((first | unfold measOf | unfold wkCode | skip); simp [*])))) | (refine SVLe.tup ?_; repeat (first | exact TLe.nil | refine TLe.cons ?_ ?_ | exact CsLe.nil | refine CsLe.cons ?_ ?_ | exact CLe.refl | exact CLe.sh rfl | exact CLe.nil (by decide) | (refine cle_i ?_; ((first | unfold measOf | unfold wkCode | skip); simp [*])) | (refine cle_b ?_; ((first | unfold measOf | unfold wkCode | skip); simp [*])))) | exact SVLe.refl | (refine sle_i ?_; ((first | unfold measOf | unfold wkCode | skip); simp [*])) | (refine sle_b ?_; ((first | unfold measOf | unfold wkCode | skip); simp [*])))) (h3 := (by repeat (first | exact trivial | refine And.intro ?_ ?_ | exact Or.inl rfl | exact Or.inr rfl | (refine Or.inr (row_eq ?_); ((first | unfold measOf | unfold wkCode | skip); simp [*])) | (refine Or.inr (bx_eq rfl rfl ?_); (try dsimp only [C.ren, C.ren.all]); ((first | unfold measOf | unfold wkCode | skip); simp [*])))))
  · repeat (first | refine g_ret ?_ | refine q_sr ?_ | refine q_br ?_ | refine q_lr ?_ | refine q_cr ?_)
    refine ends_id ?_
    exact endK [] (h2 := (by first | (with_reducible exact SVLe.refl) | exact SVLe.any | exact SVLe.one (.sh rfl) | exact SVLe.one (.nil (by decide)) | (refine SVLe.agg ?_; repeat (first | exact CsLe.nil | refine CsLe.cons ?_ ?_ | exact CLe.refl | exact CLe.sh rfl | exact CLe.nil (by decide) | (refine cle_i ?_; ((first | unfold measOf | unfold wkCode | skip); simp_all)) | (refine cle_b ?_; ((first | unfold measOf | unfold wkCode | skip); simp_all)))) | (refine SVLe.tup ?_; repeat (first | exact TLe.nil | refine TLe.cons ?_ ?_ | exact CsLe.nil | refine CsLe.cons ?_ ?_ | exact CLe.refl | exact CLe.sh rfl | exact CLe.nil (by decide) | (refine cle_i ?_; ((first | unfold measOf | unfold wkCode | skip); simp_all)) | (refine cle_b ?_; ((first | unfold measOf | unfold wkCode | skip); simp_all)))) | exact SVLe.refl | (refine sle_i ?_; ((first | unfold measOf | unfold wkCode | skip); simp_all)) | (refine sle_b ?_; ((first | unfold measOf | unfold wkCode | skip); simp_all)))) (h3 := (by repeat (first | exact trivial | refine And.intro ?_ ?_ | exact Or.inl rfl | exact Or.inr rfl | (refine Or.inr (row_eq ?_); ((first | unfold measOf | unfold wkCode | skip); simp_all)) | (refine Or.inr (bx_eq rfl rfl ?_); (try dsimp only [C.ren, C.ren.all]); ((first | unfold measOf | unfold wkCode | skip); simp_all)))))
  · have hf : (wkRun m c 0 b).full = false := by simpa using hc
    obtain ⟨f1, f2, f3, f4, f5, f6⟩ := e4 hf
    repeat (first | refine g_ret ?_ | refine q_sr ?_ | refine q_br ?_ | refine q_lr ?_ | refine q_cr ?_)
    refine ends_id ?_
    exact endK [] (h2 := (by first | (with_reducible exact SVLe.refl) | exact SVLe.any | exact SVLe.one (.sh rfl) | exact SVLe.one (.nil (by decide)) | (refine SVLe.agg ?_; repeat (first | exact CsLe.nil | refine CsLe.cons ?_ ?_ | exact CLe.refl | exact CLe.sh rfl | exact CLe.nil (by decide) | (refine cle_i ?_; ((first | unfold measOf | unfold wkCode | skip); simp_all)) | (refine cle_b ?_; ((first | unfold measOf | unfold wkCode | skip); simp_all)))) | (refine SVLe.tup ?_; repeat (first | exact TLe.nil | refine TLe.cons ?_ ?_ | exact CsLe.nil | refine CsLe.cons ?_ ?_ | exact CLe.refl | exact CLe.sh rfl | exact CLe.nil (by decide) | (refine cle_i ?_; ((first | unfold measOf | unfold wkCode | skip); simp_all)) | (refine cle_b ?_; ((first | unfold measOf | unfold wkCode | skip); simp_all)))) | exact SVLe.refl | (refine sle_i ?_; ((first | unfold measOf | unfold wkCode | skip); simp_all)) | (refine sle_b ?_; ((first | unfold measOf | unfold wkCode | skip); simp_all)))) (h3 := (by repeat (first | exact trivial | refine And.intro ?_ ?_ | exact Or.inl rfl | exact Or.inr rfl | (refine Or.inr (row_eq ?_); ((first | unfold measOf | unfold wkCode | skip); simp_all)) | (refine Or.inr (bx_eq rfl rfl ?_); (try dsimp only [C.ren, C.ren.all]); ((first | unfold measOf | unfold wkCode | skip); simp_all)))))
end Go.Proofs.Ytncccjpbaeaafaa
