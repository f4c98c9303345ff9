/- A run that is watched, in plain words; the contract of follow for the measuring observer. -/
import Derived.Test.YtncccjpbaeaafaaB7
set_option linter.unusedVariables false
set_option linter.unusedSimpArgs false
set_option maxRecDepth 100000
set_option maxHeartbeats 4000000
namespace Go.Proofs.Ytncccjpbaeaafaa
open Go Foot
/-- What a run that is watched comes to. -/
structure Out (σ : Type) where
  x : σ
  n : Int
  c : Conf
  hd : Int
  halts : Bool
  full : Bool
/-- A run that is watched, from a configuration on: fc sees the configurations, fs the steps. -/
def runG {σ : Type} (m : Mach) (fc : Conf → Int → σ → σ) (fs : Conf → Int → Rule' → σ → σ) : Nat → Int → Conf → Int → σ → Out σ
  | k, n, c, hd, x =>
    if ruAt m c = noR then ⟨fc c hd x, n, c, hd, true, false⟩ else
    match k with
    | 0 => ⟨fc c hd x, n, c, hd, false, false⟩
    | k + 1 => if roomS (stepS (ruAt m c) c) then runG m fc fs k (n + 1) (stepS (ruAt m c) c) (hd + (ruAt m c).m) (fs c hd (ruAt m c) (fc c hd x)) else ⟨fs c hd (ruAt m c) (fc c hd x), n, c, hd, false, true⟩
section
variable {σ : Type} {m : Mach} {fc : Conf → Int → σ → σ} {fs : Conf → Int → Rule' → σ → σ} {b n hd : Int} {c : Conf} {x : σ} {O : Out σ}
theorem run_halt {k : Nat} (h : ruAt m c = noR) (hO : runG m fc fs k n c hd x = O) : O = ⟨fc c hd x, n, c, hd, true, false⟩ := by
  rw [← hO]; unfold runG; rw [if_pos h]
theorem run_end (h : ¬ ruAt m c = noR) (hn : n = b) (hO : runG m fc fs (b - n).toNat n c hd x = O) : O = ⟨fc c hd x, n, c, hd, false, false⟩ := by
  subst hn
  rw [← hO, show (n - n).toNat = 0 by omega]; unfold runG; rw [if_neg h]
theorem run_full (h : ¬ ruAt m c = noR) (hn : n < b) (hr : roomS (stepS (ruAt m c) c) = false) (hO : runG m fc fs (b - n).toNat n c hd x = O) : O = ⟨fs c hd (ruAt m c) (fc c hd x), n, c, hd, false, true⟩ := by
  rw [← hO, show (b - n).toNat = (b - (n + 1)).toNat + 1 by omega]; unfold runG; rw [if_neg h]; simp [hr]
theorem run_next (h : ¬ ruAt m c = noR) (hn : n < b) (hr : roomS (stepS (ruAt m c) c) = true) (hO : runG m fc fs (b - n).toNat n c hd x = O) : runG m fc fs (b - (n + 1)).toNat (n + 1) (stepS (ruAt m c) c) (hd + (ruAt m c).m) (fs c hd (ruAt m c) (fc c hd x)) = O := by
  rw [← hO, show (b - n).toNat = (b - (n + 1)).toNat + 1 by omega]; conv => rhs; unfold runG
  rw [if_neg h]; simp [hr]
end
@[irreducible] def marksC (c : Conf) : Int := c.le.length + c.ri.length - (c.le.count 0 : Nat) - (c.ri.count 0 : Nat)
@[irreducible] def mC (c : Conf) (hd : Int) (x : Mea) : Mea := { x with sp := max x.sp (c.le.length + c.ri.length), le := min x.le hd, gr := max x.gr hd, ma := marksC c }
@[irreducible] def mS (c : Conf) (hd : Int) (u : Rule') (x : Mea) : Mea := { x with ch := x.ch + (if u.w = c.ri.headD 0 then 0 else 1), tu := x.tu + (if x.la ≠ 0 ∧ u.m ≠ x.la then 1 else 0), la := u.m }
theorem mC_ch (c : Conf) (hd : Int) (x : Mea) : (mC c hd x).ch = x.ch := by unfold mC; rfl
theorem mC_tu (c : Conf) (hd : Int) (x : Mea) : (mC c hd x).tu = x.tu := by unfold mC; rfl
theorem mS_bd (c : Conf) (hd : Int) (u : Rule') (x : Mea) : (x.ch ≤ (mS c hd u x).ch ∧ (mS c hd u x).ch ≤ x.ch + 1) ∧ x.tu ≤ (mS c hd u x).tu ∧ (mS c hd u x).tu ≤ x.tu + 1 := by unfold mS; dsimp only; constructor <;> split <;> omega
--PRE (simp only [mC_ch, mC_tu]; omega)
theorem preB8 {p : Prop} (h : p := by first | with_reducible assumption | omega | (simp only [List.length_append, List.length_cons, List.length_nil, List.length_set, List.length_replicate, List.length_take, List.length_drop, List.length_tail, List.length_dropLast, List.length_reverse] at *; omega) | (with_reducible refine Int.le_trans (Int.ofNat_le.2 (trimR_len _)) ?_; simp only [List.length_cons, List.length_tail]; omega) | (have := vMach_bd (by assumption); omega) | (with_reducible refine Int.le_trans (Int.ofNat_le.2 (pushL_len _ _)) ?_; simp only [List.length_dropLast]; omega) | (simp only [mC_ch, mC_tu]; omega) | trivial) : p := h
theorem mconfigC_ok (x : Mea) (m : Mach) (c : Conf) (hd : Int) (hx : (c.le.length : Int) ≤ 1000) (hy : (c.ri.length : Int) ≤ 1000) : Does Try.prog 180 [.one (.gv 0), .one (ruD m c.st c.le.reverse c.ri.reverse), .one (int hd)] [meBx x] .any [meBx (mC c hd x)] := by
  have := mconfig_ok x m c.st c.le.reverse c.ri.reverse hd (by simpa using hx) (by simpa using hy)
  unfold marksO at this
  rw [List.length_reverse, List.length_reverse, List.count_reverse, List.count_reverse] at this
  unfold mC
  unfold marksC
  exact this
theorem mstepC_ok (x : Mea) (m : Mach) (c : Conf) (hd : Int) (u : Rule') (hy : (c.ri.length : Int) ≤ 1000) (h1 : -1000000 ≤ x.ch) (h2 : x.ch ≤ 1000000) (h3 : -1000000 ≤ x.tu) (h4 : x.tu ≤ 1000000) : Does Try.prog 181 [.one (.gv 0), .one (ruD m c.st c.le.reverse c.ri.reverse), .one (int hd), .agg (ruC u)] [meBx x] .any [meBx (mS c hd u x)] := by
  have := mstep_ok x m c.st c.le.reverse c.ri.reverse hd u (by simpa using hy) h1 h2 h3 h4
  rw [getLastD_rev] at this
  unfold mS
  exact this
theorem followM_ok (m : Mach) (c : Conf) (b : Int) (x : Mea) (hm : vMach m = true) (hc : vConf m c = true) (hb : 1 ≤ b) (hb2 : b ≤ 20000) (h0 : x.ch = 0) (h1 : x.tu = 0) (O : Out Mea) (hO : runG m mC mS b.toNat 0 c 0 x = O) : Does Try.prog 53 [.agg (maC m), .agg (coC c), .one (int b), .one (.ifc 98 false [.gv 0])] [meBx x] (.tup [(false, [int (if O.full then 0 else O.n)]), (false, [boo O.halts]), (false, [int (if O.full then 5 else 0)])]) [meBx O.x] := by
  have hbd := at_bd hm hc
  refine does_of (k := 1) Try.func53 rfl Try.ntmps53 rfl rfl fun w F0 S0 ρ0 => ?_
  dsimp only [argT, argH]
  repeat' first
    | refine g_seq ?_
    | refine g_skip ?_
    | refine g_exit ?_
    | refine g_block ?_
    | refine g_reg ?_
    | refine g_if_t rfl ?_
    | refine g_if_f rfl ?_
    | refine o_nil ?_
    | refine q_s ?_
    | refine q_se ?_
    | refine q_b ?_
    | refine q_be rfl ?_
    | refine q_bn rfl ?_
    | refine q_le ?_
    | refine q_ce ?_
    | (apply n3; (first | exact a_new (gb := .bx _) rfl); exact rfl; (try dsimp only [List.map_cons, List.map_nil, scC, Nat.reduceAdd]))
    | (apply p3; (first | exact a_pure (sv := .one _) rfl | exact a_pure (sv := .agg _) rfl | exact a_ld_rowI rfl rfl rfl (fC rfl) bnd | exact a_pure (sv := .tup _) rfl | exact a_cmp rfl rfl rfl trivial rfl | exact a_eqS rfl rfl rfl | exact a_add rfl rfl (by omega) (by omega)); exact rfl)
    | (apply w3; (first | exact a_st_bx rfl rfl rfl rfl (fN rfl rfl) (Nat.le_of_ble_eq_true rfl) rfl | exact a_stE (E := eR) ⟨_, _, _⟩ rfl rfl rfl rfl (fN rfl rfl) bnd (by exact rfl)); exact rfl; (try dsimp only [setRow, List.map_cons, List.map_nil, scC, List.set_cons_zero, List.set_cons_succ, List.take_succ_cons, List.take_zero, List.drop_succ_cons, List.drop_zero, Nat.reduceAdd]))
    | (apply c4 3; exact callK0 (θ := []) (hD := (runnerOf_ok _ _ preB8 preB8)); exact rfl; exact rfl; exact rfl; (try dsimp only [SV.ren, C.ren, C.ren.all, tRen, GB.ren, calF, upOf, List.cons_append, List.nil_append, Nat.reduceAdd]))
    | (apply c4 0; exact callM (θ := [_]) (hD := (mconfigC_ok _ _ _ _ preB8 preB8)); exact rfl; exact rfl; exact rfl; (try dsimp only [SV.ren, C.ren, C.ren.all, tRen, GB.ren, calF, upOf, List.cons_append, List.nil_append, Nat.reduceAdd]))
    | (apply c4 0; exact callK1 (θ := []) (hD := (haltsC_ok _ _ preB8 preB8)); exact rfl; exact rfl; exact rfl; (try dsimp only [SV.ren, C.ren, C.ren.all, tRen, GB.ren, calF, upOf, List.cons_append, List.nil_append, Nat.reduceAdd]))
    | (apply c4 0; exact callK1 (θ := []) (hD := (ruleC_ok _ _ preB8 preB8)); exact rfl; exact rfl; exact rfl; (try dsimp only [SV.ren, C.ren, C.ren.all, tRen, GB.ren, calF, upOf, List.cons_append, List.nil_append, Nat.reduceAdd]))
    | (apply c4 0; exact callM (θ := [_]) (hD := (mstepC_ok _ _ _ _ _ preB8 preB8 preB8 preB8 preB8)); exact rfl; exact rfl; exact rfl; (try dsimp only [SV.ren, C.ren, C.ren.all, tRen, GB.ren, calF, upOf, List.cons_append, List.nil_append, Nat.reduceAdd]))
    | (apply c4 2; exact callK0 (θ := [_, _, _]) (hD := (stepC_ok _ _ preB8 preB8)); exact rfl; exact rfl; exact rfl; (try dsimp only [SV.ren, C.ren, C.ren.all, tRen, GB.ren, calF, upOf, List.cons_append, List.nil_append, Nat.reduceAdd]))
    | refine o_no rfl rfl rfl rfl ?_
    | refine o_noN rfl rfl rfl ?_
    | (apply py3; exact rfl; exact rfl; (first | exact a_pure (sv := .one _) rfl | exact a_pure (sv := .agg _) rfl | exact a_ld_rowI rfl rfl rfl (fC rfl) bnd | exact a_pure (sv := .tup _) rfl | exact a_cmp rfl rfl rfl trivial rfl | exact a_eqS rfl rfl rfl | exact a_add rfl rfl (by omega) (by omega)); exact rfl; exact rfl)
    | (apply ny3; exact rfl; exact rfl; (first | exact a_new (gb := .bx _) rfl); exact rfl; exact rfl)
    | (apply cy4 3; exact rfl; exact rfl; exact callK0 (θ := []) (hD := (runnerOf_ok _ _ preB8 preB8)); exact rfl; exact rfl; exact rfl; exact rfl; (try dsimp only [SV.ren, C.ren, C.ren.all, tRen, GB.ren, calF, upOf, List.cons_append, List.nil_append, Nat.reduceAdd]))
    | (apply cy4 0; exact rfl; exact rfl; exact callM (θ := [_]) (hD := (mconfigC_ok _ _ _ _ preB8 preB8)); exact rfl; exact rfl; exact rfl; exact rfl; (try dsimp only [SV.ren, C.ren, C.ren.all, tRen, GB.ren, calF, upOf, List.cons_append, List.nil_append, Nat.reduceAdd]))
    | (apply cy4 0; exact rfl; exact rfl; exact callK1 (θ := []) (hD := (haltsC_ok _ _ preB8 preB8)); exact rfl; exact rfl; exact rfl; exact rfl; (try dsimp only [SV.ren, C.ren, C.ren.all, tRen, GB.ren, calF, upOf, List.cons_append, List.nil_append, Nat.reduceAdd]))
    | (apply cy4 0; exact rfl; exact rfl; exact callK1 (θ := []) (hD := (ruleC_ok _ _ preB8 preB8)); exact rfl; exact rfl; exact rfl; exact rfl; (try dsimp only [SV.ren, C.ren, C.ren.all, tRen, GB.ren, calF, upOf, List.cons_append, List.nil_append, Nat.reduceAdd]))
    | (apply cy4 0; exact rfl; exact rfl; exact callM (θ := [_]) (hD := (mstepC_ok _ _ _ _ _ preB8 preB8 preB8 preB8 preB8)); exact rfl; exact rfl; exact rfl; exact rfl; (try dsimp only [SV.ren, C.ren, C.ren.all, tRen, GB.ren, calF, upOf, List.cons_append, List.nil_append, Nat.reduceAdd]))
    | (apply cy4 2; exact rfl; exact rfl; exact callK0 (θ := [_, _, _]) (hD := (stepC_ok _ _ preB8 preB8)); exact rfl; exact rfl; exact rfl; exact rfl; (try dsimp only [SV.ren, C.ren, C.ren.all, tRen, GB.ren, calF, upOf, List.cons_append, List.nil_append, Nat.reduceAdd]))
    | (refine o_gs rfl rfl (fun hc => ?_) (fun hc => ?_) <;> (try simp only [decide_eq_true_eq, decide_eq_false_iff_not, Bool.not_eq_true', Bool.not_eq_false', Bool.not_eq_true, Bool.not_eq_false, Bool.and_eq_true, Bool.or_eq_false_iff, Bool.not_not] at hc) <;> (try (exfalso; omega)))
    | (refine g_cond rfl (fun hc => ?_) (fun hc => ?_) <;> (try simp only [decide_eq_true_eq, decide_eq_false_iff_not, Bool.not_eq_true', Bool.not_eq_false', Bool.not_eq_true, Bool.not_eq_false, Bool.and_eq_true, Bool.or_eq_false_iff, Bool.not_not] at hc) <;> (try (exfalso; omega)))
  refine g_loop_id ?_
  refine loopK [2, 3, 8, 9, 10, 11] [0, 3, 4, 5] (fun y : Int × Conf × Int × Mea => 0 ≤ y.1 ∧ y.1 ≤ b ∧ vConf m y.2.1 = true ∧ -y.1 ≤ y.2.2.1 ∧ y.2.2.1 ≤ y.1 ∧ 0 ≤ y.2.2.2.ch ∧ y.2.2.2.ch ≤ y.1 ∧ 0 ≤ y.2.2.2.tu ∧ y.2.2.2.tu ≤ y.1 ∧ runG m mC mS (b - y.1).toNat y.1 y.2.1 y.2.2.1 y.2.2.2 = O) (fun y => [(13, .one (int y.1)), (12, .one (int y.2.2.1))]) (fun y => [(3, ruBx m y.2.1.st 4 5), (4, roI y.2.1.le.reverse), (5, roI y.2.1.ri.reverse), (0, meBx y.2.2.2)]) (fun y => (b - y.1).toNat) ((0 : Int), c, (0 : Int), x) [0, 1, 2, 3, 4, 5] (hI := ?_) (hr := ?_)
  · exact ⟨by simp, by dsimp only; omega, hc, by simp, by simp, by dsimp only; omega, by dsimp only; omega, by dsimp only; omega, by dsimp only; omega, by rw [← hO]; congr 1; dsimp only; omega⟩
  · rintro ⟨n, c, hd, x⟩ ⟨i1, i2, i3, i4, i5, i6, i7, i8, i9, i10⟩
    dsimp only [List.cons_append, List.nil_append] at *
    skip
    have hbd := at_bd hm i3; have hok := ruAt_ok hm i3
    repeat' first
      | refine g_seq ?_
      | refine g_skip ?_
      | refine g_exit ?_
      | refine g_block ?_
      | refine g_reg ?_
      | refine g_if_t rfl ?_
      | refine g_if_f rfl ?_
      | refine o_nil ?_
      | refine q_s ?_
      | refine q_se ?_
      | refine q_b ?_
      | refine q_be rfl ?_
      | refine q_bn rfl ?_
      | refine q_le ?_
      | refine q_ce ?_
      | (apply n3; (first | exact a_new (gb := .bx _) rfl); exact rfl; (try dsimp only [List.map_cons, List.map_nil, scC, Nat.reduceAdd]))
      | (apply p3; (first | exact a_pure (sv := .one _) rfl | exact a_pure (sv := .agg _) rfl | exact a_pure (sv := .tup _) rfl | exact a_cmp rfl rfl rfl trivial rfl | exact a_eqS rfl rfl rfl | exact a_ld_rowI rfl rfl rfl (fC rfl) bnd | exact a_add rfl rfl (by omega) (by omega)); exact rfl)
      | (apply w3; (first | exact a_st_bx rfl rfl rfl rfl (fN rfl rfl) (Nat.le_of_ble_eq_true rfl) rfl | exact a_stE (E := eR) ⟨_, _, _⟩ rfl rfl rfl rfl (fN rfl rfl) bnd (by exact rfl)); exact rfl; (try dsimp only [setRow, List.map_cons, List.map_nil, scC, List.set_cons_zero, List.set_cons_succ, List.take_succ_cons, List.take_zero, List.drop_succ_cons, List.drop_zero, Nat.reduceAdd]))
      | (apply c4 0; exact callM (θ := [_]) (hD := (mconfigC_ok _ _ _ _ preB8 preB8)); exact rfl; exact rfl; exact rfl; (try dsimp only [SV.ren, C.ren, C.ren.all, tRen, GB.ren, calF, upOf, List.cons_append, List.nil_append, Nat.reduceAdd]))
      | (apply c4 0; exact callK1 (θ := []) (hD := (haltsC_ok _ _ preB8 preB8)); exact rfl; exact rfl; exact rfl; (try dsimp only [SV.ren, C.ren, C.ren.all, tRen, GB.ren, calF, upOf, List.cons_append, List.nil_append, Nat.reduceAdd]))
      | (apply c4 0; exact callK1 (θ := []) (hD := (ruleC_ok _ _ preB8 preB8)); exact rfl; exact rfl; exact rfl; (try dsimp only [SV.ren, C.ren, C.ren.all, tRen, GB.ren, calF, upOf, List.cons_append, List.nil_append, Nat.reduceAdd]))
      | (apply c4 0; exact callM (θ := [_]) (hD := (mstepC_ok _ _ _ _ _ preB8 preB8 preB8 preB8 preB8)); exact rfl; exact rfl; exact rfl; (try dsimp only [SV.ren, C.ren, C.ren.all, tRen, GB.ren, calF, upOf, List.cons_append, List.nil_append, Nat.reduceAdd]))
      | (apply c4 2; exact callK0 (θ := [_, _, _]) (hD := (stepC_ok _ _ preB8 preB8)); exact rfl; exact rfl; exact rfl; (try dsimp only [SV.ren, C.ren, C.ren.all, tRen, GB.ren, calF, upOf, List.cons_append, List.nil_append, Nat.reduceAdd]))
      | refine o_no rfl rfl rfl rfl ?_
      | refine o_noN rfl rfl rfl ?_
      | (apply py3; exact rfl; exact rfl; (first | exact a_pure (sv := .one _) rfl | exact a_pure (sv := .agg _) rfl | exact a_pure (sv := .tup _) rfl | exact a_cmp rfl rfl rfl trivial rfl | exact a_eqS rfl rfl rfl | exact a_ld_rowI rfl rfl rfl (fC rfl) bnd | exact a_add rfl rfl (by omega) (by omega)); exact rfl; exact rfl)
      | (apply ny3; exact rfl; exact rfl; (first | exact a_new (gb := .bx _) rfl); exact rfl; exact rfl)
      | (apply cy4 0; exact rfl; exact rfl; exact callM (θ := [_]) (hD := (mconfigC_ok _ _ _ _ preB8 preB8)); exact rfl; exact rfl; exact rfl; exact rfl; (try dsimp only [SV.ren, C.ren, C.ren.all, tRen, GB.ren, calF, upOf, List.cons_append, List.nil_append, Nat.reduceAdd]))
      | (apply cy4 0; exact rfl; exact rfl; exact callK1 (θ := []) (hD := (haltsC_ok _ _ preB8 preB8)); exact rfl; exact rfl; exact rfl; exact rfl; (try dsimp only [SV.ren, C.ren, C.ren.all, tRen, GB.ren, calF, upOf, List.cons_append, List.nil_append, Nat.reduceAdd]))
      | (apply cy4 0; exact rfl; exact rfl; exact callK1 (θ := []) (hD := (ruleC_ok _ _ preB8 preB8)); exact rfl; exact rfl; exact rfl; exact rfl; (try dsimp only [SV.ren, C.ren, C.ren.all, tRen, GB.ren, calF, upOf, List.cons_append, List.nil_append, Nat.reduceAdd]))
      | (apply cy4 0; exact rfl; exact rfl; exact callM (θ := [_]) (hD := (mstepC_ok _ _ _ _ _ preB8 preB8 preB8 preB8 preB8)); exact rfl; exact rfl; exact rfl; exact rfl; (try dsimp only [SV.ren, C.ren, C.ren.all, tRen, GB.ren, calF, upOf, List.cons_append, List.nil_append, Nat.reduceAdd]))
      | (apply cy4 2; exact rfl; exact rfl; exact callK0 (θ := [_, _, _]) (hD := (stepC_ok _ _ preB8 preB8)); exact rfl; exact rfl; exact rfl; exact rfl; (try dsimp only [SV.ren, C.ren, C.ren.all, tRen, GB.ren, calF, upOf, List.cons_append, List.nil_append, Nat.reduceAdd]))
      | (refine o_gs rfl rfl (fun hc => ?_) (fun hc => ?_) <;> (try simp only [decide_eq_true_eq, decide_eq_false_iff_not, Bool.not_eq_true', Bool.not_eq_false', Bool.not_eq_true, Bool.not_eq_false, Bool.and_eq_true, Bool.or_eq_false_iff, Bool.not_not] at hc) <;> (try (exfalso; omega)))
      | (refine g_cond rfl (fun hc => ?_) (fun hc => ?_) <;> (try simp only [decide_eq_true_eq, decide_eq_false_iff_not, Bool.not_eq_true', Bool.not_eq_false', Bool.not_eq_true, Bool.not_eq_false, Bool.and_eq_true, Bool.or_eq_false_iff, Bool.not_not] at hc) <;> (try (exfalso; omega)))
    · by_cases hr : ruAt m c = noR
      · obtain rfl := run_halt hr i10
        repeat (first | refine g_ret ?_ | refine q_sr ?_ | refine q_br ?_ | refine q_lr ?_ | refine q_cr ?_)
        refine ends_id ?_
        exact endK [] (h2 := (by first | (with_reducible exact SVLe.refl) | exact SVLe.any | exact SVLe.one (.sh rfl) | exact SVLe.one (.nil (by decide)) | (refine SVLe.agg ?_; repeat (first | exact CsLe.nil | refine CsLe.cons ?_ ?_ | exact CLe.refl | exact CLe.sh rfl | exact CLe.nil (by decide) | (refine cle_i ?_; simp [hr]) | (refine cle_b ?_; simp [hr]))) | (refine SVLe.tup ?_; repeat (first | exact TLe.nil | refine TLe.cons ?_ ?_ | exact CsLe.nil | refine CsLe.cons ?_ ?_ | exact CLe.refl | exact CLe.sh rfl | exact CLe.nil (by decide) | (refine cle_i ?_; simp [hr]) | (refine cle_b ?_; simp [hr]))) | exact SVLe.refl | (refine sle_i ?_; simp [hr]) | (refine sle_b ?_; simp [hr]))) (h3 := (by repeat (first | exact trivial | refine And.intro ?_ ?_ | exact Or.inl rfl | exact Or.inr rfl | (refine Or.inr (row_eq ?_); simp [hr]) | (refine Or.inr (bx_eq rfl rfl ?_); (try dsimp only [C.ren, C.ren.all]); simp [hr]))))
      · obtain rfl := run_end hr hc i10
        repeat (first | refine g_ret ?_ | refine q_sr ?_ | refine q_br ?_ | refine q_lr ?_ | refine q_cr ?_)
        refine ends_id ?_
        exact endK [] (h2 := (by first | (with_reducible exact SVLe.refl) | exact SVLe.any | exact SVLe.one (.sh rfl) | exact SVLe.one (.nil (by decide)) | (refine SVLe.agg ?_; repeat (first | exact CsLe.nil | refine CsLe.cons ?_ ?_ | exact CLe.refl | exact CLe.sh rfl | exact CLe.nil (by decide) | (refine cle_i ?_; simp [hr]) | (refine cle_b ?_; simp [hr]))) | (refine SVLe.tup ?_; repeat (first | exact TLe.nil | refine TLe.cons ?_ ?_ | exact CsLe.nil | refine CsLe.cons ?_ ?_ | exact CLe.refl | exact CLe.sh rfl | exact CLe.nil (by decide) | (refine cle_i ?_; simp [hr]) | (refine cle_b ?_; simp [hr]))) | exact SVLe.refl | (refine sle_i ?_; simp [hr]) | (refine sle_b ?_; simp [hr]))) (h3 := (by repeat (first | exact trivial | refine And.intro ?_ ?_ | exact Or.inl rfl | exact Or.inr rfl | (refine Or.inr (row_eq ?_); simp [hr]) | (refine Or.inr (bx_eq rfl rfl ?_); (try dsimp only [C.ren, C.ren.all]); simp [hr]))))
    · obtain rfl := run_halt hc i10
      repeat (first | refine g_ret ?_ | refine q_sr ?_ | refine q_br ?_ | refine q_lr ?_ | refine q_cr ?_)
      refine ends_id ?_
      exact endK [] (h2 := (by first | (with_reducible exact SVLe.refl) | exact SVLe.any | exact SVLe.one (.sh rfl) | exact SVLe.one (.nil (by decide)) | (refine SVLe.agg ?_; repeat (first | exact CsLe.nil | refine CsLe.cons ?_ ?_ | exact CLe.refl | exact CLe.sh rfl | exact CLe.nil (by decide) | (refine cle_i ?_; simp [hc]) | (refine cle_b ?_; simp [hc]))) | (refine SVLe.tup ?_; repeat (first | exact TLe.nil | refine TLe.cons ?_ ?_ | exact CsLe.nil | refine CsLe.cons ?_ ?_ | exact CLe.refl | exact CLe.sh rfl | exact CLe.nil (by decide) | (refine cle_i ?_; simp [hc]) | (refine cle_b ?_; simp [hc]))) | exact SVLe.refl | (refine sle_i ?_; simp [hc]) | (refine sle_b ?_; simp [hc]))) (h3 := (by repeat (first | exact trivial | refine And.intro ?_ ?_ | exact Or.inl rfl | exact Or.inr rfl | (refine Or.inr (row_eq ?_); simp [hc]) | (refine Or.inr (bx_eq rfl rfl ?_); (try dsimp only [C.ren, C.ren.all]); simp [hc]))))
    · rename_i hn hr
      obtain rfl := run_full hr (by omega) hc i10
      repeat (first | refine g_ret ?_ | refine q_sr ?_ | refine q_br ?_ | refine q_lr ?_ | refine q_cr ?_)
      refine ends_id ?_
      exact endK [] (h2 := (by first | (with_reducible exact SVLe.refl) | exact SVLe.any | exact SVLe.one (.sh rfl) | exact SVLe.one (.nil (by decide)) | (refine SVLe.agg ?_; repeat (first | exact CsLe.nil | refine CsLe.cons ?_ ?_ | exact CLe.refl | exact CLe.sh rfl | exact CLe.nil (by decide) | (refine cle_i ?_; simp) | (refine cle_b ?_; simp))) | (refine SVLe.tup ?_; repeat (first | exact TLe.nil | refine TLe.cons ?_ ?_ | exact CsLe.nil | refine CsLe.cons ?_ ?_ | exact CLe.refl | exact CLe.sh rfl | exact CLe.nil (by decide) | (refine cle_i ?_; simp) | (refine cle_b ?_; simp))) | exact SVLe.refl | (refine sle_i ?_; simp) | (refine sle_b ?_; simp))) (h3 := (by repeat (first | exact trivial | refine And.intro ?_ ?_ | exact Or.inl rfl | exact Or.inr rfl | (refine Or.inr (row_eq ?_); simp) | (refine Or.inr (bx_eq rfl rfl ?_); (try dsimp only [C.ren, C.ren.all]); simp))))
    · rename_i hn hr
      have hok := hok hr
      have hS := mS_bd c hd (ruAt m c) (mC c hd x)
      rw [mC_ch, mC_tu] at hS
      repeat' first
        | refine g_seq ?_
        | refine g_skip ?_
        | refine g_exit ?_
        | refine g_block ?_
        | refine g_reg ?_
        | refine g_if_t rfl ?_
        | refine g_if_f rfl ?_
        | refine o_nil ?_
        | refine q_s ?_
        | refine q_se ?_
        | refine q_b ?_
        | refine q_be rfl ?_
        | refine q_bn rfl ?_
        | refine q_le ?_
        | refine q_ce ?_
        | (apply n3; (first | exact a_new (gb := .bx _) rfl); exact rfl; (try dsimp only [List.map_cons, List.map_nil, scC, Nat.reduceAdd]))
        | (apply p3; (first | exact a_pure (sv := .one _) rfl | exact a_pure (sv := .agg _) rfl | exact a_pure (sv := .tup _) rfl | exact a_cmp rfl rfl rfl trivial rfl | exact a_eqS rfl rfl rfl | exact a_ld_rowI rfl rfl rfl (fC rfl) bnd | exact a_add rfl rfl (by omega) (by omega)); exact rfl)
        | (apply w3; (first | exact a_st_bx rfl rfl rfl rfl (fN rfl rfl) (Nat.le_of_ble_eq_true rfl) rfl | exact a_stE (E := eR) ⟨_, _, _⟩ rfl rfl rfl rfl (fN rfl rfl) bnd (by exact rfl)); exact rfl; (try dsimp only [setRow, List.map_cons, List.map_nil, scC, List.set_cons_zero, List.set_cons_succ, List.take_succ_cons, List.take_zero, List.drop_succ_cons, List.drop_zero, Nat.reduceAdd]))
        | (apply c4 0; exact callM (θ := [_]) (hD := (mconfigC_ok _ _ _ _ preB8 preB8)); exact rfl; exact rfl; exact rfl; (try dsimp only [SV.ren, C.ren, C.ren.all, tRen, GB.ren, calF, upOf, List.cons_append, List.nil_append, Nat.reduceAdd]))
        | (apply c4 0; exact callK1 (θ := []) (hD := (haltsC_ok _ _ preB8 preB8)); exact rfl; exact rfl; exact rfl; (try dsimp only [SV.ren, C.ren, C.ren.all, tRen, GB.ren, calF, upOf, List.cons_append, List.nil_append, Nat.reduceAdd]))
        | (apply c4 0; exact callK1 (θ := []) (hD := (ruleC_ok _ _ preB8 preB8)); exact rfl; exact rfl; exact rfl; (try dsimp only [SV.ren, C.ren, C.ren.all, tRen, GB.ren, calF, upOf, List.cons_append, List.nil_append, Nat.reduceAdd]))
        | (apply c4 0; exact callM (θ := [_]) (hD := (mstepC_ok _ _ _ _ _ preB8 preB8 preB8 preB8 preB8)); exact rfl; exact rfl; exact rfl; (try dsimp only [SV.ren, C.ren, C.ren.all, tRen, GB.ren, calF, upOf, List.cons_append, List.nil_append, Nat.reduceAdd]))
        | (apply c4 2; exact callK0 (θ := [_, _, _]) (hD := (stepC_ok _ _ preB8 preB8)); exact rfl; exact rfl; exact rfl; (try dsimp only [SV.ren, C.ren, C.ren.all, tRen, GB.ren, calF, upOf, List.cons_append, List.nil_append, Nat.reduceAdd]))
        | refine o_no rfl rfl rfl rfl ?_
        | refine o_noN rfl rfl rfl ?_
        | (apply py3; exact rfl; exact rfl; (first | exact a_pure (sv := .one _) rfl | exact a_pure (sv := .agg _) rfl | exact a_pure (sv := .tup _) rfl | exact a_cmp rfl rfl rfl trivial rfl | exact a_eqS rfl rfl rfl | exact a_ld_rowI rfl rfl rfl (fC rfl) bnd | exact a_add rfl rfl (by omega) (by omega)); exact rfl; exact rfl)
        | (apply ny3; exact rfl; exact rfl; (first | exact a_new (gb := .bx _) rfl); exact rfl; exact rfl)
        | (apply cy4 0; exact rfl; exact rfl; exact callM (θ := [_]) (hD := (mconfigC_ok _ _ _ _ preB8 preB8)); exact rfl; exact rfl; exact rfl; exact rfl; (try dsimp only [SV.ren, C.ren, C.ren.all, tRen, GB.ren, calF, upOf, List.cons_append, List.nil_append, Nat.reduceAdd]))
        | (apply cy4 0; exact rfl; exact rfl; exact callK1 (θ := []) (hD := (haltsC_ok _ _ preB8 preB8)); exact rfl; exact rfl; exact rfl; exact rfl; (try dsimp only [SV.ren, C.ren, C.ren.all, tRen, GB.ren, calF, upOf, List.cons_append, List.nil_append, Nat.reduceAdd]))
        | (apply cy4 0; exact rfl; exact rfl; exact callK1 (θ := []) (hD := (ruleC_ok _ _ preB8 preB8)); exact rfl; exact rfl; exact rfl; exact rfl; (try dsimp only [SV.ren, C.ren, C.ren.all, tRen, GB.ren, calF, upOf, List.cons_append, List.nil_append, Nat.reduceAdd]))
        | (apply cy4 0; exact rfl; exact rfl; exact callM (θ := [_]) (hD := (mstepC_ok _ _ _ _ _ preB8 preB8 preB8 preB8 preB8)); exact rfl; exact rfl; exact rfl; exact rfl; (try dsimp only [SV.ren, C.ren, C.ren.all, tRen, GB.ren, calF, upOf, List.cons_append, List.nil_append, Nat.reduceAdd]))
        | (apply cy4 2; exact rfl; exact rfl; exact callK0 (θ := [_, _, _]) (hD := (stepC_ok _ _ preB8 preB8)); exact rfl; exact rfl; exact rfl; exact rfl; (try dsimp only [SV.ren, C.ren, C.ren.all, tRen, GB.ren, calF, upOf, List.cons_append, List.nil_append, Nat.reduceAdd]))
        | (refine o_gs rfl rfl (fun hc => ?_) (fun hc => ?_) <;> (try simp only [decide_eq_true_eq, decide_eq_false_iff_not, Bool.not_eq_true', Bool.not_eq_false', Bool.not_eq_true, Bool.not_eq_false, Bool.and_eq_true, Bool.or_eq_false_iff, Bool.not_not] at hc) <;> (try (exfalso; omega)))
        | (refine g_cond rfl (fun hc => ?_) (fun hc => ?_) <;> (try simp only [decide_eq_true_eq, decide_eq_false_iff_not, Bool.not_eq_true', Bool.not_eq_false', Bool.not_eq_true, Bool.not_eq_false, Bool.and_eq_true, Bool.or_eq_false_iff, Bool.not_not] at hc) <;> (try (exfalso; omega)))
      refine q_again (n + 1, stepS (ruAt m c) c, hd + (ruAt m c).m, mS c hd (ruAt m c) (mC c hd x)) [0, 1, 2, 3, 7, 8] (by exact stk) ?_ ?_
      · exact ⟨by dsimp only; omega, by dsimp only; omega, stepS_ok hm i3 hr hc, by dsimp only; omega, by dsimp only; omega, by dsimp only; omega, by dsimp only; omega, by dsimp only; omega, by dsimp only; omega, run_next hr (by omega) hc i10⟩
      · dsimp only; omega
end Go.Proofs.Ytncccjpbaeaafaa
