/- The contract of the reference's run that is measured. -/
import Derived.Test.YtncccjpbaeaafaaB8
set_option linter.unusedVariables false
set_option linter.unusedSimpArgs false
set_option maxRecDepth 100000
set_option maxHeartbeats 4000000
namespace Go.Proofs.Ytncccjpbaeaafaa
open Go Foot
@[irreducible] def marksC (c : Conf) : Int := c.le.length + c.ri.length - (c.le.count 0 : Nat) - (c.ri.count 0 : Nat)
/-- What the reference measures. -/
structure Wk where
  sp : Int
  le : Int
  gr : Int
  ch : Int
  tu : Int
  la : Int
  vis : List Int
  sts : List Int
  rls : List Int
  crs : List Int
abbrev wkBx (m : Mach) (n : Int) (ha : Bool) (x : Wk) (ma : Int) (a b c d : Nat) (fu : Bool) : GB := .bx [maB m, int n, boo ha, int x.sp, int x.le, int x.gr, int x.ch, int x.tu, int ma, .gv a, .gv b, .gv c, .gv d, boo fu]
--UNF wkBx
abbrev wkJx (n : Int) (ha : Bool) (x : Wk) (ma : Int) (a b c d : Nat) (fu : Bool) : GB := .bx [.d .junk, int n, boo ha, int x.sp, int x.le, int x.gr, int x.ch, int x.tu, int ma, .gv a, .gv b, .gv c, .gv d, boo fu]
/-- A number more at a place. -/
@[irreducible] def bump (l : List Int) (k : Int) : List Int := l.set k.toNat (l.getD k.toNat 0 + 1)
theorem bump_set (l : List Int) (k : Int) (h : k.toNat < l.length) : l.set k.toNat (l[k.toNat] + 1) = bump l k := by unfold bump; rw [List.getD_eq_getElem?_getD, List.getElem?_eq_getElem h]; rfl
theorem bump_len (l : List Int) (k : Int) : (bump l k).length = l.length := by unfold bump; simp
@[irreducible] def wC (c : Conf) (hd : Int) (x : Wk) : Wk := { x with sp := max x.sp (c.le.length + c.ri.length), sts := bump x.sts c.st }
@[irreducible] def crsOf (at' : Int) (hd : Int) (u : Rule') (l : List Int) : List Int := if u.m = 1 ∧ hd + 1 = at' ∨ u.m = -1 ∧ hd = at' then l ++ [u.n] else l
@[irreducible] def visOf (cell le gr : Int) (l : List Int) : List Int := if cell < le then 0 :: l else if cell > gr then l ++ [0] else l
@[irreducible] def wS (m : Mach) (at' : Int) (c : Conf) (hd : Int) (u : Rule') (x : Wk) : Wk :=
  { x with rls := bump x.rls (c.st * m.sy + c.ri.headD 0), ch := x.ch + (if u.w = c.ri.headD 0 then 0 else 1), tu := x.tu + (if x.la ≠ 0 ∧ u.m ≠ x.la then 1 else 0), la := u.m, crs := crsOf at' hd u x.crs,
           le := min x.le (hd + u.m), gr := max x.gr (hd + u.m), vis := bump (visOf (hd + u.m) x.le x.gr x.vis) (hd + u.m - min x.le (hd + u.m)) }
/-- What holds of what is measured. -/
structure WkOk (m : Mach) (n hd : Int) (x : Wk) : Prop where
  h_n0 : 0 ≤ n
  h_sp : 0 ≤ x.sp ∧ x.sp ≤ 100000
  h_hd : -n ≤ hd ∧ hd ≤ n
  h_le : -n ≤ x.le ∧ x.le ≤ hd ∧ x.le ≤ 0
  h_gr : x.gr ≤ n ∧ hd ≤ x.gr ∧ 0 ≤ x.gr
  h_ch : 0 ≤ x.ch ∧ x.ch ≤ n
  h_tu : 0 ≤ x.tu ∧ x.tu ≤ n
  h_vis : (x.vis.length : Int) = x.gr - x.le + 1
  h_sts : (x.sts.length : Int) = m.st
  h_rls : x.rls.length = m.ru.length
  h_crs : (x.crs.length : Int) ≤ n
  h_vb : ∀ v ∈ x.vis, 0 ≤ v ∧ v ≤ n + 1
  h_sb : ∀ v ∈ x.sts, 0 ≤ v ∧ v ≤ n
  h_rb : ∀ v ∈ x.rls, 0 ≤ v ∧ v ≤ n
theorem visOf_len {cell le gr : Int} {l : List Int} (h1 : le - 1 ≤ cell) (h2 : cell ≤ gr + 1) (h3 : le ≤ gr) (hl : (l.length : Int) = gr - le + 1) : ((visOf cell le gr l).length : Int) = max gr cell - min le cell + 1 := by
  unfold visOf
  split
  · simp only [List.length_cons]; omega
  · split
    · simp only [List.length_append, List.length_singleton]; omega
    · omega
theorem visOf_mem {cell le gr x : Int} {l : List Int} (h : x ∈ visOf cell le gr l) : x = 0 ∨ x ∈ l := by
  unfold visOf at h
  split at h
  · simpa using h
  · split at h
    · simpa [or_comm] using h
    · exact .inr h
theorem bump_mem {l : List Int} {k v n : Int} (hl : ∀ v ∈ l, 0 ≤ v ∧ v ≤ n) (hn : 0 ≤ n) (h : v ∈ bump l k) : 0 ≤ v ∧ v ≤ n + 1 := by
  unfold bump at h
  rcases List.mem_or_eq_of_mem_set h with h | rfl
  · have := hl v h; omega
  · by_cases hk : k.toNat < l.length
    · rw [List.getD_eq_getElem?_getD, List.getElem?_eq_getElem hk]
      have := hl _ (List.getElem_mem hk)
      simp only [Option.getD_some]
      omega
    · rw [List.getD_eq_getElem?_getD, List.getElem?_eq_none (by omega)]
      simp; omega
theorem crsOf_len (at' hd : Int) (u : Rule') (l : List Int) : ((crsOf at' hd u l).length : Int) ≤ l.length + 1 := by
  unfold crsOf
  split
  · simp
  · omega
abbrev w0 (m : Mach) : Wk := ⟨0, 0, 0, 0, 0, 0, [1], List.replicate m.st.toNat 0, List.replicate m.ru.length 0, []⟩
theorem preB9 {p : Prop} (h : p := by first | with_reducible assumption | omega | (simp only [List.length_append, List.length_cons, List.length_nil, List.length_set, List.length_replicate, List.length_take, List.length_drop, List.length_tail, List.length_dropLast, List.length_reverse] at *; omega) | (with_reducible refine Int.le_trans (Int.ofNat_le.2 (trimR_len _)) ?_; simp only [List.length_cons, List.length_tail]; omega) | (have := vMach_bd (by assumption); omega) | (with_reducible refine Int.le_trans (Int.ofNat_le.2 (pushL_len _ _)) ?_; simp only [List.length_dropLast]; omega) | exact (ask_ok (by assumption)).1 | exact (ask_ok (by assumption)).2.1 | exact (ask_ok (by assumption)).2.2.1 | exact (ask_ok (by assumption)).2.2.2 | trivial) : p := h
theorem l20Run_ok (m : Mach) (c : Conf) (at' b : Int) (hm : vMach m = true) (hc : vConf m c = true) (hb : 1 ≤ b) (hb2 : b ≤ 20000) (hat : -100000 ≤ at' ∧ at' ≤ 100000) (O : Out Wk) (hO : runG m wC (wS m at') b.toNat 0 c 0 (w0 m) = O) : Does Try.prog 59 [.one (maB m), .one (coB c), .one (int at'), .one (int b)] [] (.one (.gv 0)) [wkJx O.n O.halts O.x (if O.full then 0 else marksC O.c) 1 2 3 4 O.full, roI O.x.vis, roI O.x.sts, roI O.x.rls, roI O.x.crs] := by
  have hbd := at_bd hm hc
  have hv := vMach_bd hm
  refine does_of (k := 0) Try.func59 rfl Try.ntmps59 rfl rfl fun w F0 S0 ρ0 => ?_
  dsimp only [argT, argH]
  repeat' first
    | refine g_seq ?_
    | refine g_skip ?_
    | refine g_exit ?_
    | refine g_block ?_
    | refine g_reg ?_
    | refine g_if_t rfl ?_
    | refine g_if_f rfl ?_
    | refine o_nil ?_
    | refine q_s ?_
    | refine q_se ?_
    | refine q_b ?_
    | refine q_be rfl ?_
    | refine q_bn rfl ?_
    | refine q_le ?_
    | refine q_ce ?_
    | (apply n3; (first | exact a_new (gb := .bx _) rfl | exact a_litE eI [_] rfl rfl rfl rfl rfl rfl rfl rfl | exact a_appN (fP rfl) rfl rfl rfl nowR (by first | omega | (simp; omega)) (by decide) (by exact rfl)); exact rfl; (try dsimp only [List.map_cons, List.map_nil, scC, Nat.reduceAdd]))
    | (apply p3; (first | exact a_pure (sv := .one _) rfl | exact a_pure (sv := .agg _) rfl | exact a_pure (sv := .tup _) rfl | exact a_ld_rowI rfl rfl rfl (fC rfl) bnd | exact a_cmp rfl rfl rfl trivial rfl | exact a_eqS rfl rfl rfl | exact a_iaE rfl rfl rfl (fS rfl) (by omega) bnd (by exact rfl) | exact a_iaO1 rfl rfl rfl (fS rfl) (by omega) bnd | exact a_iaO rfl rfl rfl (fS rfl) (by omega) bnd (by exact rfl) | exact a_add rfl rfl (by omega) (by omega) | exact a_ne rfl rfl | exact a_neS rfl rfl rfl | exact a_lenE rfl rfl (fS rfl) (by exact rfl) | exact a_len_str rfl (fT rfl)); exact rfl)
    | (apply s3; (first | exact a_appE (fP rfl) rfl rfl rfl rfl nowR (by first | omega | (simp; omega)) (by decide) (by decide) (by exact rfl)); exact rfl; exact rfl)
    | (apply w3; (first | exact a_st_bx rfl rfl rfl rfl (fN rfl rfl) (Nat.le_of_ble_eq_true rfl) rfl | exact a_stF (E := eR) ⟨_, _, _⟩ rfl rfl rfl rfl (fN rfl rfl) (Nat.le_of_ble_eq_true rfl) (Nat.le_of_ble_eq_true rfl) (by first | exact List.getElem?_set_self bnd | exact List.getElem?_eq_getElem bnd) (by (try dsimp only [setRow, List.set_cons_succ, List.set_cons_zero]); first | done | exact rfl) rfl | exact a_stE (E := eR) ⟨_, _, _⟩ rfl rfl rfl rfl (fN rfl rfl) bnd (by exact rfl) | exact a_st_rowI rfl rfl rfl rfl (fN rfl rfl) bnd | exact a_stE (E := eI) _ rfl rfl rfl rfl (fN rfl rfl) bnd (by exact rfl)); exact rfl; (try dsimp only [setRow, List.map_cons, List.map_nil, scC, List.set_cons_zero, List.set_cons_succ, List.take_succ_cons, List.take_zero, List.drop_succ_cons, List.drop_zero, Nat.reduceAdd]))
    | (apply c4 2; exact callK1 (θ := []) (hD := (l05OwnConfig_ok _ preB9 preB9)); exact rfl; exact rfl; exact rfl; (try dsimp only [SV.ren, C.ren, C.ren.all, tRen, GB.ren, calF, upOf, List.cons_append, List.nil_append, Nat.reduceAdd]))
    | (apply c4 0; exact callK1 (θ := []) (hD := (l05HaltsC_ok _ _ preB9 preB9)); exact rfl; exact rfl; exact rfl; (try dsimp only [SV.ren, C.ren, C.ren.all, tRen, GB.ren, calF, upOf, List.cons_append, List.nil_append, Nat.reduceAdd]))
    | (apply c4 0; exact callK1 (θ := []) (hD := (l05AtC_ok _ _ preB9 preB9)); exact rfl; exact rfl; exact rfl; (try dsimp only [SV.ren, C.ren, C.ren.all, tRen, GB.ren, calF, upOf, List.cons_append, List.nil_append, Nat.reduceAdd]))
    | (apply c4 2; exact callK1 (θ := []) (hD := (l05StepC_ok _ _ preB9 preB9)); exact rfl; exact rfl; exact rfl; (try dsimp only [SV.ren, C.ren, C.ren.all, tRen, GB.ren, calF, upOf, List.cons_append, List.nil_append, Nat.reduceAdd]))
    | refine o_no rfl rfl rfl rfl ?_
    | refine o_noN rfl rfl rfl ?_
    | (apply py3; exact rfl; exact rfl; (first | exact a_pure (sv := .one _) rfl | exact a_pure (sv := .agg _) rfl | exact a_pure (sv := .tup _) rfl | exact a_ld_rowI rfl rfl rfl (fC rfl) bnd | exact a_cmp rfl rfl rfl trivial rfl | exact a_eqS rfl rfl rfl | exact a_iaE rfl rfl rfl (fS rfl) (by omega) bnd (by exact rfl) | exact a_iaO1 rfl rfl rfl (fS rfl) (by omega) bnd | exact a_iaO rfl rfl rfl (fS rfl) (by omega) bnd (by exact rfl) | exact a_add rfl rfl (by omega) (by omega) | exact a_ne rfl rfl | exact a_neS rfl rfl rfl | exact a_lenE rfl rfl (fS rfl) (by exact rfl) | exact a_len_str rfl (fT rfl)); exact rfl; exact rfl)
    | (apply ny3; exact rfl; exact rfl; (first | exact a_new (gb := .bx _) rfl | exact a_litE eI [_] rfl rfl rfl rfl rfl rfl rfl rfl | exact a_appN (fP rfl) rfl rfl rfl nowR (by first | omega | (simp; omega)) (by decide) (by exact rfl)); exact rfl; exact rfl)
    | (apply cy4 2; exact rfl; exact rfl; exact callK1 (θ := []) (hD := (l05OwnConfig_ok _ preB9 preB9)); exact rfl; exact rfl; exact rfl; exact rfl; (try dsimp only [SV.ren, C.ren, C.ren.all, tRen, GB.ren, calF, upOf, List.cons_append, List.nil_append, Nat.reduceAdd]))
    | (apply cy4 0; exact rfl; exact rfl; exact callK1 (θ := []) (hD := (l05HaltsC_ok _ _ preB9 preB9)); exact rfl; exact rfl; exact rfl; exact rfl; (try dsimp only [SV.ren, C.ren, C.ren.all, tRen, GB.ren, calF, upOf, List.cons_append, List.nil_append, Nat.reduceAdd]))
    | (apply cy4 0; exact rfl; exact rfl; exact callK1 (θ := []) (hD := (l05AtC_ok _ _ preB9 preB9)); exact rfl; exact rfl; exact rfl; exact rfl; (try dsimp only [SV.ren, C.ren, C.ren.all, tRen, GB.ren, calF, upOf, List.cons_append, List.nil_append, Nat.reduceAdd]))
    | (apply cy4 2; exact rfl; exact rfl; exact callK1 (θ := []) (hD := (l05StepC_ok _ _ preB9 preB9)); exact rfl; exact rfl; exact rfl; exact rfl; (try dsimp only [SV.ren, C.ren, C.ren.all, tRen, GB.ren, calF, upOf, List.cons_append, List.nil_append, Nat.reduceAdd]))
    | (apply g_drN okM [[], [], [], [2], [2, 3], [2, 3, 4], [2, 3, 4, 5], [], [7], [7, 8], [7, 8, 9], [7, 8, 9, 10], [7, 8, 9, 10, 11], [], [0, 1, 2, 3, 4, 5, 6, 7, 8, 9, 10, 11, 12, 13], [0, 1, 2, 3, 4, 5, 6, 7, 8, 9, 10, 11, 12, 13, 14], [0, 1, 2, 3, 4, 5, 6, 7, 8, 9, 10, 11, 12, 13, 14, 15]] [([], []), ([0], []), ([], []), ([], []), ([], []), ([], []), ([1], []), ([], []), ([], []), ([], []), ([], []), ([], []), ([2], []), ([3], []), ([], []), ([4], []), ([], [])] 5; (focus (all_goals (apply d_pN (i := 0) (fs := []) (u := [20, 21, 22, 23, 24, 25, 26, 27, 28, 29, 30, 31, 32]) (o := [(true, 0), (true, 1), (true, 2), (true, 3)]); (first | exact a_pure (sv := .one _) rfl | exact a_pure (sv := .agg _) rfl | exact a_pure (sv := .tup _) rfl); exact rfl; kernel_rfl; kernel_rfl; kernel_rfl; exact rfl; exact rfl); all_goals (apply d_uE (i := 1) (fs := [false]) (u := [19, 21, 22, 23, 24, 25, 26, 27, 28, 29, 30, 31, 32]) (o := [(true, 1), (true, 2), (true, 3)]); (first | exact atN 0 (fun _ => a_litE eI [_] rfl rfl rfl rfl rfl rfl rfl rfl)); exact rfl; kernel_rfl; kernel_rfl; kernel_rfl; exact dst_some rfl; exact rfl; exact rfl); all_goals (apply d_pN (i := 2) (fs := [false, false]) (u := [19, 20, 26, 27, 28, 29, 30, 31, 32]) (o := [(true, 0), (true, 2), (true, 3)]); (first | exact a_pure (sv := .one _) rfl | exact a_pure (sv := .agg _) rfl | exact a_pure (sv := .tup _) rfl); exact rfl; kernel_rfl; kernel_rfl; kernel_rfl; exact rfl; exact rfl); all_goals (apply d_pN (i := 3) (fs := [true, false, false]) (u := [19, 20, 26, 27, 28, 29, 30, 31, 32]) (o := [(true, 0), (true, 2), (true, 3)]); (first | exact a_pure (sv := .one _) rfl); exact rfl; kernel_rfl; kernel_rfl; kernel_rfl; exact rfl; exact rfl); all_goals (apply d_pN (i := 4) (fs := [true, true, false, false]) (u := [19, 20, 26, 27, 28, 29, 30, 31, 32]) (o := [(true, 0), (true, 2), (true, 3)]); (first | exact a_pure (sv := .one _) rfl); exact rfl; kernel_rfl; kernel_rfl; kernel_rfl; exact rfl; exact rfl); all_goals (apply d_pN (i := 5) (fs := [true, true, true, false, false]) (u := [19, 20, 26, 27, 28, 29, 30, 31, 32]) (o := [(true, 0), (true, 2), (true, 3)]); (first | exact a_pure (sv := .one _) rfl | exact a_pure (sv := .agg _) rfl | exact a_ld_rowI rfl rfl rfl (fC rfl) bnd); exact rfl; kernel_rfl; kernel_rfl; kernel_rfl; exact rfl; exact rfl); all_goals (apply d_uE (i := 6) (fs := [true, true, true, true, false, false]) (u := [19, 20, 26, 27, 28, 29, 30, 31, 32]) (o := [(true, 0), (true, 2), (true, 3)]); (first | exact atN 1 (fun _ => a_make (fE rfl) (fZ rfl) (fP rfl) (by decide) rfl rfl (by omega) rfl (by omega) (by omega) (rows_rep eI 0 _))); exact rfl; kernel_rfl; kernel_rfl; kernel_rfl; exact dst_some rfl; exact rfl; exact rfl); all_goals (apply d_pN (i := 7) (fs := [false, false, false, false, false, false, false]) (u := [19, 20, 21, 22, 23, 24, 25, 32]) (o := [(true, 0), (true, 1), (true, 3)]); (first | exact a_pure (sv := .one _) rfl | exact a_pure (sv := .agg _) rfl | exact a_pure (sv := .tup _) rfl); exact rfl; kernel_rfl; kernel_rfl; kernel_rfl; exact rfl; exact rfl); all_goals (apply d_pN (i := 8) (fs := [true, false, false, false, false, false, false, false]) (u := [19, 20, 21, 22, 23, 24, 25, 32]) (o := [(true, 0), (true, 1), (true, 3)]); (first | exact a_pure (sv := .one _) rfl); exact rfl; kernel_rfl; kernel_rfl; kernel_rfl; exact rfl; exact rfl); all_goals (apply d_pN (i := 9) (fs := [true, true, false, false, false, false, false, false, false]) (u := [19, 20, 21, 22, 23, 24, 25, 32]) (o := [(true, 0), (true, 1), (true, 3)]); (first | exact a_pure (sv := .one _) rfl); exact rfl; kernel_rfl; kernel_rfl; kernel_rfl; exact rfl; exact rfl); all_goals (apply d_pN (i := 10) (fs := [true, true, true, false, false, false, false, false, false, false]) (u := [19, 20, 21, 22, 23, 24, 25, 32]) (o := [(true, 0), (true, 1), (true, 3)]); (first | exact a_pure (sv := .one _) rfl | exact a_pure (sv := .agg _) rfl | exact a_ld_rowI rfl rfl rfl (fC rfl) bnd); exact rfl; kernel_rfl; kernel_rfl; kernel_rfl; exact rfl; exact rfl); all_goals (apply d_pN (i := 11) (fs := [true, true, true, true, false, false, false, false, false, false, false]) (u := [19, 20, 21, 22, 23, 24, 25, 32]) (o := [(true, 0), (true, 1), (true, 3)]); (first | exact a_lenE rfl rfl (fS rfl) (by exact rfl) | exact a_pure (sv := .one _) rfl | exact a_len_str rfl (fT rfl)); exact rfl; kernel_rfl; kernel_rfl; kernel_rfl; exact rfl; exact rfl); all_goals (apply d_uE (i := 12) (fs := [true, true, true, true, true, false, false, false, false, false, false, false]) (u := [19, 20, 21, 22, 23, 24, 25, 32]) (o := [(true, 0), (true, 1), (true, 3)]); (first | exact atN 2 (fun _ => a_make (fE rfl) (fZ rfl) (fP rfl) (by decide) rfl rfl (by omega) rfl (by omega) (by omega) (rows_rep eI 0 _))); exact rfl; kernel_rfl; kernel_rfl; kernel_rfl; exact dst_some rfl; exact rfl; exact rfl); all_goals (apply d_uE (i := 13) (fs := [false, false, false, false, false, false, false, false, false, false, false, false, false]) (u := [19, 20, 21, 22, 23, 24, 25, 26, 27, 28, 29, 30, 31]) (o := [(true, 0), (true, 1), (true, 2)]); (first | exact atN 3 (fun _ => a_litE eI [] rfl rfl rfl rfl rfl rfl rfl rfl)); exact rfl; kernel_rfl; kernel_rfl; kernel_rfl; exact dst_some rfl; exact rfl; exact rfl); all_goals (apply d_pN (i := 14) (fs := [true, true, true, true, true, true, true, true, true, true, true, true, true, true]) (u := []) (o := []); (first | exact a_pure (sv := .agg _) rfl); exact rfl; kernel_rfl; kernel_rfl; kernel_rfl; exact rfl; exact rfl); all_goals (apply d_uE (i := 15) (fs := [true, true, true, true, true, true, true, true, true, true, true, true, true, true, true]) (u := []) (o := []); (first | exact atN 4 (fun _ => a_new (gb := .bx _) rfl)); exact rfl; kernel_rfl; kernel_rfl; kernel_rfl; exact dst_some rfl; exact rfl; exact rfl); all_goals (apply d_pN (i := 16) (fs := [true, true, true, true, true, true, true, true, true, true, true, true, true, true, true, true]) (u := []) (o := []); (first | exact a_pure (sv := .one _) rfl | exact a_pure (sv := .agg _) rfl | exact a_pure (sv := .tup _) rfl); exact rfl; kernel_rfl; kernel_rfl; kernel_rfl; exact rfl; exact rfl); all_goals (refine d_nil ?_; dsimp only [selT, selH, trues, SV.ren, C.ren, C.ren.all, tRen, GB.ren, calF, upOf, List.cons_append, List.nil_append, Nat.reduceAdd, setRow, List.map_cons, List.map_nil, scC, List.set_cons_zero, List.set_cons_succ, List.take_succ_cons, List.take_zero, List.drop_succ_cons, List.drop_zero]))); any_goals kernel_rfl)
    | (apply g_drN okM [[], [], [1], [1, 2], [1, 2, 3], [1, 2, 3, 4], [], [1, 2, 3, 4, 5, 6], [0, 1, 2, 3, 4, 5, 6, 7], [0, 1, 2, 3, 4, 5, 6, 7, 8], [0, 1, 2, 3, 4, 5, 6, 7, 8, 9], [0, 1, 2, 3, 4, 5, 6, 7, 8, 9, 10]] [([], []), ([], []), ([], []), ([], []), ([], []), ([], []), ([], []), ([], []), ([], []), ([], []), ([], []), ([], [4])] 0; (focus (all_goals (apply d_pN (i := 0) (fs := []) (u := [38, 39, 40, 41, 42, 43, 44]) (o := []); (first | exact a_pure (sv := .one _) rfl | exact a_pure (sv := .agg _) rfl | exact a_pure (sv := .tup _) rfl); exact rfl; kernel_rfl; kernel_rfl; kernel_rfl; exact rfl; exact rfl); all_goals (apply d_pN (i := 1) (fs := [false]) (u := [37, 43]) (o := []); (first | exact a_pure (sv := .one _) rfl | exact a_pure (sv := .agg _) rfl | exact a_pure (sv := .tup _) rfl); exact rfl; kernel_rfl; kernel_rfl; kernel_rfl; exact rfl; exact rfl); all_goals (apply d_pN (i := 2) (fs := [true, false]) (u := [37, 43]) (o := []); (first | exact a_pure (sv := .one _) rfl); exact rfl; kernel_rfl; kernel_rfl; kernel_rfl; exact rfl; exact rfl); all_goals (apply d_pN (i := 3) (fs := [true, true, false]) (u := [37, 43]) (o := []); (first | exact a_pure (sv := .one _) rfl); exact rfl; kernel_rfl; kernel_rfl; kernel_rfl; exact rfl; exact rfl); all_goals (apply d_pN (i := 4) (fs := [true, true, true, false]) (u := [37, 43]) (o := []); (first | exact a_pure (sv := .one _) rfl); exact rfl; kernel_rfl; kernel_rfl; kernel_rfl; exact rfl; exact rfl); all_goals (apply d_pN (i := 5) (fs := [true, true, true, true, false]) (u := [37, 43]) (o := []); (first | exact a_pure (sv := .one _) rfl | exact a_pure (sv := .agg _) rfl | exact a_ld_rowI rfl rfl rfl (fC rfl) bnd); exact rfl; kernel_rfl; kernel_rfl; kernel_rfl; exact rfl; exact rfl); all_goals (apply d_pN (i := 6) (fs := [false, false, false, false, false, false]) (u := [37, 38, 39, 40, 41, 42]) (o := []); (first | exact callD1 (n := _) 0 (θ := []) (hD := (l20Space_ok _ preB9 preB9))); exact rfl; kernel_rfl; kernel_rfl; kernel_rfl; exact rfl; exact rfl); all_goals (apply d_pN (i := 7) (fs := [true, true, true, true, true, true, false]) (u := [37]) (o := []); (first | exact callD1 (n := _) 0 (θ := []) (hD := (l00Max_ok _ _))); exact rfl; kernel_rfl; kernel_rfl; kernel_rfl; exact rfl; exact rfl); all_goals (apply d_pN (i := 8) (fs := [true, true, true, true, true, true, true, true]) (u := []) (o := []); (first | exact a_pure (sv := .one _) rfl); exact rfl; kernel_rfl; kernel_rfl; kernel_rfl; exact rfl; exact rfl); all_goals (apply d_pN (i := 9) (fs := [true, true, true, true, true, true, true, true, true]) (u := []) (o := []); (first | exact a_pure (sv := .one _) rfl); exact rfl; kernel_rfl; kernel_rfl; kernel_rfl; exact rfl; exact rfl); all_goals (apply d_pN (i := 10) (fs := [true, true, true, true, true, true, true, true, true, true]) (u := []) (o := []); (first | exact a_pure (sv := .one _) rfl); exact rfl; kernel_rfl; kernel_rfl; kernel_rfl; exact rfl; exact rfl); all_goals (apply d_uE (i := 11) (fs := [true, true, true, true, true, true, true, true, true, true, true]) (u := []) (o := []); (first | exact a_st_bx rfl rfl rfl rfl (fN rfl rfl) (Nat.le_of_ble_eq_true rfl) rfl | exact a_st_rowI rfl rfl rfl rfl (fN rfl rfl) bnd | exact a_stE (E := eI) _ rfl rfl rfl rfl (fN rfl rfl) bnd (by exact rfl) | exact a_stF (E := eR) ⟨_, _, _⟩ rfl rfl rfl rfl (fN rfl rfl) (Nat.le_of_ble_eq_true rfl) (Nat.le_of_ble_eq_true rfl) (by first | exact List.getElem?_set_self bnd | exact List.getElem?_eq_getElem bnd) (by (try dsimp only [setRow, List.set_cons_succ, List.set_cons_zero]); first | done | exact rfl) rfl); exact rfl; kernel_rfl; kernel_rfl; kernel_rfl; exact dst_none; exact rfl; exact rfl); all_goals (refine d_nil ?_; dsimp only [selT, selH, trues, SV.ren, C.ren, C.ren.all, tRen, GB.ren, calF, upOf, List.cons_append, List.nil_append, Nat.reduceAdd, setRow, List.map_cons, List.map_nil, scC, List.set_cons_zero, List.set_cons_succ, List.take_succ_cons, List.take_zero, List.drop_succ_cons, List.drop_zero]))); any_goals kernel_rfl)
    | (apply g_drN okM [[], [0], [0, 1], [0, 1, 2], [], [4], [0, 1, 2, 3, 4, 5], [0, 1, 2, 3, 4, 5, 6], [0, 1, 2, 3, 4, 5, 6, 7], [0, 1, 2, 3, 4, 5, 6, 7, 8], [0, 1, 2, 3, 4, 5, 6, 7, 8, 9]] [([], []), ([], []), ([], []), ([], []), ([], []), ([], []), ([], []), ([], []), ([], []), ([], []), ([], [_])] 0; (focus (all_goals (apply d_pN (i := 0) (fs := []) (u := [52, 53]) (o := []); (first | exact a_pure (sv := .one _) rfl | exact a_pure (sv := .agg _) rfl | exact a_pure (sv := .tup _) rfl); exact rfl; kernel_rfl; kernel_rfl; kernel_rfl; exact rfl; exact rfl); all_goals (apply d_pN (i := 1) (fs := [true]) (u := [52, 53]) (o := []); (first | exact a_pure (sv := .one _) rfl); exact rfl; kernel_rfl; kernel_rfl; kernel_rfl; exact rfl; exact rfl); all_goals (apply d_pN (i := 2) (fs := [true, true]) (u := [52, 53]) (o := []); (first | exact a_pure (sv := .one _) rfl); exact rfl; kernel_rfl; kernel_rfl; kernel_rfl; exact rfl; exact rfl); all_goals (apply d_pN (i := 3) (fs := [true, true, true]) (u := [52, 53]) (o := []); (first | exact a_pure (sv := .one _) rfl | exact a_pure (sv := .agg _) rfl | exact a_ld_rowI rfl rfl rfl (fC rfl) bnd); exact rfl; kernel_rfl; kernel_rfl; kernel_rfl; exact rfl; exact rfl); all_goals (apply d_pN (i := 4) (fs := [false, false, false, false]) (u := [48, 49, 50, 51]) (o := []); (first | exact a_pure (sv := .one _) rfl); exact rfl; kernel_rfl; kernel_rfl; kernel_rfl; exact rfl; exact rfl); all_goals (apply d_pN (i := 5) (fs := [true, false, false, false, false]) (u := [48, 49, 50, 51]) (o := []); (first | exact a_pure (sv := .one _) rfl | exact a_pure (sv := .agg _) rfl | exact a_ld_rowI rfl rfl rfl (fC rfl) bnd); exact rfl; kernel_rfl; kernel_rfl; kernel_rfl; exact rfl; exact rfl); all_goals (apply d_pN (i := 6) (fs := [true, true, true, true, true, true]) (u := []) (o := []); (first | exact a_iaE rfl rfl rfl (fS rfl) (by omega) bnd (by exact rfl) | exact a_iaO1 rfl rfl rfl (fS rfl) (by omega) bnd | exact a_iaO rfl rfl rfl (fS rfl) (by omega) bnd (by exact rfl)); exact rfl; kernel_rfl; kernel_rfl; kernel_rfl; exact rfl; exact rfl); all_goals (apply d_pN (i := 7) (fs := [true, true, true, true, true, true, true]) (u := []) (o := []); (first | exact a_pure (sv := .one _) rfl | exact a_pure (sv := .agg _) rfl | exact a_ld_rowI rfl rfl rfl (fC rfl) bnd); exact rfl; kernel_rfl; kernel_rfl; kernel_rfl; exact rfl; exact rfl); all_goals (apply d_pN (i := 8) (fs := [true, true, true, true, true, true, true, true]) (u := []) (o := []); (first | exact a_add rfl rfl (by omega) (by omega)); exact rfl; kernel_rfl; kernel_rfl; kernel_rfl; exact rfl; exact rfl); all_goals (apply d_pN (i := 9) (fs := [true, true, true, true, true, true, true, true, true]) (u := []) (o := []); (first | exact a_iaE rfl rfl rfl (fS rfl) (by omega) bnd (by exact rfl) | exact a_iaO1 rfl rfl rfl (fS rfl) (by omega) bnd | exact a_iaO rfl rfl rfl (fS rfl) (by omega) bnd (by exact rfl)); exact rfl; kernel_rfl; kernel_rfl; kernel_rfl; exact rfl; exact rfl); all_goals (apply d_uE (i := 10) (fs := [true, true, true, true, true, true, true, true, true, true]) (u := []) (o := []); (first | exact a_st_bx rfl rfl rfl rfl (fN rfl rfl) (Nat.le_of_ble_eq_true rfl) rfl | exact a_st_rowI rfl rfl rfl rfl (fN rfl rfl) bnd | exact a_stE (E := eI) _ rfl rfl rfl rfl (fN rfl rfl) bnd (by exact rfl) | exact a_stF (E := eR) ⟨_, _, _⟩ rfl rfl rfl rfl (fN rfl rfl) (Nat.le_of_ble_eq_true rfl) (Nat.le_of_ble_eq_true rfl) (by first | exact List.getElem?_set_self bnd | exact List.getElem?_eq_getElem bnd) (by (try dsimp only [setRow, List.set_cons_succ, List.set_cons_zero]); first | done | exact rfl) rfl); exact rfl; kernel_rfl; kernel_rfl; kernel_rfl; exact dst_none; exact rfl; exact rfl); all_goals (refine d_nil ?_; dsimp only [selT, selH, trues, SV.ren, C.ren, C.ren.all, tRen, GB.ren, calF, upOf, List.cons_append, List.nil_append, Nat.reduceAdd, setRow, List.map_cons, List.map_nil, scC, List.set_cons_zero, List.set_cons_succ, List.take_succ_cons, List.take_zero, List.drop_succ_cons, List.drop_zero]))); any_goals kernel_rfl)
    | (apply g_drN okM [[], [0], [], [0, 1, 2]] [([], []), ([], []), ([], []), ([], [])] 0; (focus (all_goals (apply d_pN (i := 0) (fs := []) (u := [98]) (o := []); (first | exact a_pure (sv := .one _) rfl); exact rfl; kernel_rfl; kernel_rfl; kernel_rfl; exact rfl; exact rfl); all_goals (apply d_pN (i := 1) (fs := [true]) (u := [98]) (o := []); (first | exact a_pure (sv := .one _) rfl | exact a_pure (sv := .agg _) rfl | exact a_ld_rowI rfl rfl rfl (fC rfl) bnd); exact rfl; kernel_rfl; kernel_rfl; kernel_rfl; exact rfl; exact rfl); all_goals (apply d_pN (i := 2) (fs := [false, false]) (u := [96, 97]) (o := []); (first | exact callD1 (n := _) 0 (θ := []) (hD := (l05Head_ok _ preB9))); exact rfl; kernel_rfl; kernel_rfl; kernel_rfl; exact rfl; exact rfl); all_goals (apply d_pN (i := 3) (fs := [true, true, true]) (u := []) (o := []); (first | exact a_ne rfl rfl | exact a_neS rfl rfl rfl); exact rfl; kernel_rfl; kernel_rfl; kernel_rfl; exact rfl; exact rfl); all_goals (refine d_nil ?_; dsimp only [selT, selH, trues, SV.ren, C.ren, C.ren.all, tRen, GB.ren, calF, upOf, List.cons_append, List.nil_append, Nat.reduceAdd, setRow, List.map_cons, List.map_nil, scC, List.set_cons_zero, List.set_cons_succ, List.take_succ_cons, List.take_zero, List.drop_succ_cons, List.drop_zero]))); any_goals kernel_rfl)
    | (apply g_drN okM [[], [], [1], [1, 2], [1, 2, 3], [], [5], [5, 6], [1, 2, 3, 4, 5, 6, 7], [0, 1, 2, 3, 4, 5, 6, 7, 8], [0, 1, 2, 3, 4, 5, 6, 7, 8, 9], [0, 1, 2, 3, 4, 5, 6, 7, 8, 9, 10]] [([], []), ([], []), ([], []), ([], []), ([], []), ([], []), ([], []), ([0], []), ([1], [3]), ([], []), ([], []), ([], [4])] 2; (focus (all_goals (apply d_pN (i := 0) (fs := []) (u := [148, 149, 150, 151, 152, 153, 154, 155]) (o := [(true, 0), (true, 1), (false, 3)]); (first | exact a_pure (sv := .one _) rfl | exact a_pure (sv := .agg _) rfl | exact a_pure (sv := .tup _) rfl); exact rfl; kernel_rfl; kernel_rfl; kernel_rfl; exact rfl; exact rfl); all_goals (apply d_pN (i := 1) (fs := [false]) (u := [147, 152, 153, 154]) (o := [(true, 0)]); (first | exact a_pure (sv := .one _) rfl | exact a_pure (sv := .agg _) rfl | exact a_pure (sv := .tup _) rfl); exact rfl; kernel_rfl; kernel_rfl; kernel_rfl; exact rfl; exact rfl); all_goals (apply d_pN (i := 2) (fs := [true, false]) (u := [147, 152, 153, 154]) (o := [(true, 0)]); (first | exact a_pure (sv := .one _) rfl); exact rfl; kernel_rfl; kernel_rfl; kernel_rfl; exact rfl; exact rfl); all_goals (apply d_pN (i := 3) (fs := [true, true, false]) (u := [147, 152, 153, 154]) (o := [(true, 0)]); (first | exact a_pure (sv := .one _) rfl); exact rfl; kernel_rfl; kernel_rfl; kernel_rfl; exact rfl; exact rfl); all_goals (apply d_pN (i := 4) (fs := [true, true, true, false]) (u := [147, 152, 153, 154]) (o := [(true, 0)]); (first | exact a_pure (sv := .one _) rfl | exact a_pure (sv := .agg _) rfl | exact a_ld_rowI rfl rfl rfl (fC rfl) bnd); exact rfl; kernel_rfl; kernel_rfl; kernel_rfl; exact rfl; exact rfl); all_goals (apply d_pN (i := 5) (fs := [false, false, false, false, false]) (u := [147, 148, 149, 150, 151]) (o := []); (first | exact a_pure (sv := .one _) rfl); exact rfl; kernel_rfl; kernel_rfl; kernel_rfl; exact rfl; exact rfl); all_goals (apply d_pN (i := 6) (fs := [true, false, false, false, false, false]) (u := [147, 148, 149, 150, 151]) (o := []); (first | exact a_pure (sv := .one _) rfl | exact a_pure (sv := .agg _) rfl | exact a_ld_rowI rfl rfl rfl (fC rfl) bnd); exact rfl; kernel_rfl; kernel_rfl; kernel_rfl; exact rfl; exact rfl); all_goals (apply d_uE (i := 7) (fs := [true, true, false, false, false, false, false]) (u := [147, 148, 149, 150, 151]) (o := []); (first | exact atN 0 (fun _ => a_litE eI [_] rfl rfl rfl rfl rfl rfl rfl rfl)); exact rfl; kernel_rfl; kernel_rfl; kernel_rfl; exact dst_some rfl; exact rfl; exact rfl); all_goals (apply d_uE (i := 8) (fs := [true, true, true, true, true, true, true, false]) (u := [147]) (o := []); (first | exact atS 1 (fun _ hj => a_appE (fP rfl) rfl rfl rfl rfl nowR (by first | omega | (simp; omega)) (by decide) hj (by exact rfl)) (by decide)); exact rfl; kernel_rfl; kernel_rfl; kernel_rfl; exact dst_some rfl; exact rfl; exact rfl); all_goals (apply d_pN (i := 9) (fs := [true, true, true, true, true, true, true, true, true]) (u := []) (o := []); (first | exact a_pure (sv := .one _) rfl); exact rfl; kernel_rfl; kernel_rfl; kernel_rfl; exact rfl; exact rfl); all_goals (apply d_pN (i := 10) (fs := [true, true, true, true, true, true, true, true, true, true]) (u := []) (o := []); (first | exact a_pure (sv := .one _) rfl); exact rfl; kernel_rfl; kernel_rfl; kernel_rfl; exact rfl; exact rfl); all_goals (apply d_uE (i := 11) (fs := [true, true, true, true, true, true, true, true, true, true, true]) (u := []) (o := []); (first | exact a_st_bx rfl rfl rfl rfl (fN rfl rfl) (Nat.le_of_ble_eq_true rfl) rfl | exact a_stF (E := eR) ⟨_, _, _⟩ rfl rfl rfl rfl (fN rfl rfl) (Nat.le_of_ble_eq_true rfl) (Nat.le_of_ble_eq_true rfl) (by first | exact List.getElem?_set_self bnd | exact List.getElem?_eq_getElem bnd) (by (try dsimp only [setRow, List.set_cons_succ, List.set_cons_zero]); first | done | exact rfl) rfl); exact rfl; kernel_rfl; kernel_rfl; kernel_rfl; exact dst_none; exact rfl; exact rfl); all_goals (refine d_nil ?_; dsimp only [selT, selH, trues, SV.ren, C.ren, C.ren.all, tRen, GB.ren, calF, upOf, List.cons_append, List.nil_append, Nat.reduceAdd, setRow, List.map_cons, List.map_nil, scC, List.set_cons_zero, List.set_cons_succ, List.take_succ_cons, List.take_zero, List.drop_succ_cons, List.drop_zero]))); any_goals kernel_rfl)
    | (apply g_drN okM [[], [0], [0, 1], [0, 1, 2], [], [], [5], [5, 6], [5, 6, 7], [5, 6, 7, 8], [4, 5, 6, 7, 8, 9], [0, 1, 2, 3, 4, 5, 6, 7, 8, 9, 10], [0, 1, 2, 3, 4, 5, 6, 7, 8, 9, 10, 11], [0, 1, 2, 3, 4, 5, 6, 7, 8, 9, 10, 11, 12], [0, 1, 2, 3, 4, 5, 6, 7, 8, 9, 10, 11, 12, 13], [0, 1, 2, 3, 4, 5, 6, 7, 8, 9, 10, 11, 12, 13, 14]] [([], []), ([], []), ([], []), ([], []), ([], []), ([], []), ([], []), ([], []), ([], []), ([], []), ([], []), ([], []), ([], []), ([], []), ([], []), ([], [_])] 0; (focus (all_goals (apply d_pN (i := 0) (fs := []) (u := [208, 209, 210, 211, 212, 213, 214]) (o := []); (first | exact a_pure (sv := .one _) rfl | exact a_pure (sv := .agg _) rfl | exact a_pure (sv := .tup _) rfl); exact rfl; kernel_rfl; kernel_rfl; kernel_rfl; exact rfl; exact rfl); all_goals (apply d_pN (i := 1) (fs := [true]) (u := [208, 209, 210, 211, 212, 213, 214]) (o := []); (first | exact a_pure (sv := .one _) rfl); exact rfl; kernel_rfl; kernel_rfl; kernel_rfl; exact rfl; exact rfl); all_goals (apply d_pN (i := 2) (fs := [true, true]) (u := [208, 209, 210, 211, 212, 213, 214]) (o := []); (first | exact a_pure (sv := .one _) rfl); exact rfl; kernel_rfl; kernel_rfl; kernel_rfl; exact rfl; exact rfl); all_goals (apply d_pN (i := 3) (fs := [true, true, true]) (u := [208, 209, 210, 211, 212, 213, 214]) (o := []); (first | exact a_pure (sv := .one _) rfl | exact a_pure (sv := .agg _) rfl | exact a_ld_rowI rfl rfl rfl (fC rfl) bnd); exact rfl; kernel_rfl; kernel_rfl; kernel_rfl; exact rfl; exact rfl); all_goals (apply d_pN (i := 4) (fs := [false, false, false, false]) (u := [204, 205, 206, 207, 209, 210, 211, 212, 213]) (o := []); (first | exact a_pure (sv := .one _) rfl | exact a_pure (sv := .agg _) rfl | exact a_pure (sv := .tup _) rfl); exact rfl; kernel_rfl; kernel_rfl; kernel_rfl; exact rfl; exact rfl); all_goals (apply d_pN (i := 5) (fs := [false, false, false, false, false]) (u := [204, 205, 206, 207, 208]) (o := []); (first | exact a_pure (sv := .one _) rfl | exact a_pure (sv := .agg _) rfl | exact a_pure (sv := .tup _) rfl); exact rfl; kernel_rfl; kernel_rfl; kernel_rfl; exact rfl; exact rfl); all_goals (apply d_pN (i := 6) (fs := [true, false, false, false, false, false]) (u := [204, 205, 206, 207, 208]) (o := []); (first | exact a_pure (sv := .one _) rfl); exact rfl; kernel_rfl; kernel_rfl; kernel_rfl; exact rfl; exact rfl); all_goals (apply d_pN (i := 7) (fs := [true, true, false, false, false, false, false]) (u := [204, 205, 206, 207, 208]) (o := []); (first | exact a_pure (sv := .one _) rfl); exact rfl; kernel_rfl; kernel_rfl; kernel_rfl; exact rfl; exact rfl); all_goals (apply d_pN (i := 8) (fs := [true, true, true, false, false, false, false, false]) (u := [204, 205, 206, 207, 208]) (o := []); (first | exact a_pure (sv := .one _) rfl); exact rfl; kernel_rfl; kernel_rfl; kernel_rfl; exact rfl; exact rfl); all_goals (apply d_pN (i := 9) (fs := [true, true, true, true, false, false, false, false, false]) (u := [204, 205, 206, 207, 208]) (o := []); (first | exact a_pure (sv := .one _) rfl | exact a_pure (sv := .agg _) rfl | exact a_ld_rowI rfl rfl rfl (fC rfl) bnd); exact rfl; kernel_rfl; kernel_rfl; kernel_rfl; exact rfl; exact rfl); all_goals (apply d_pN (i := 10) (fs := [true, true, true, true, true, true, false, false, false, false]) (u := [204, 205, 206, 207]) (o := []); (first | exact a_sub rfl rfl (by omega) (by omega)); exact rfl; kernel_rfl; kernel_rfl; kernel_rfl; exact rfl; exact rfl); all_goals (apply d_pN (i := 11) (fs := [true, true, true, true, true, true, true, true, true, true, true]) (u := []) (o := []); (first | exact a_iaE rfl rfl rfl (fS rfl) (by omega) bnd (by exact rfl) | exact a_iaO1 rfl rfl rfl (fS rfl) (by omega) bnd | exact a_iaO rfl rfl rfl (fS rfl) (by omega) bnd (by exact rfl)); exact rfl; kernel_rfl; kernel_rfl; kernel_rfl; exact rfl; exact rfl); all_goals (apply d_pN (i := 12) (fs := [true, true, true, true, true, true, true, true, true, true, true, true]) (u := []) (o := []); (first | exact a_pure (sv := .one _) rfl | exact a_pure (sv := .agg _) rfl | exact a_ld_rowI rfl rfl rfl (fC rfl) bnd); exact rfl; kernel_rfl; kernel_rfl; kernel_rfl; exact rfl; exact rfl); all_goals (apply d_pN (i := 13) (fs := [true, true, true, true, true, true, true, true, true, true, true, true, true]) (u := []) (o := []); (first | exact a_add rfl rfl (by omega) (by omega)); exact rfl; kernel_rfl; kernel_rfl; kernel_rfl; exact rfl; exact rfl); all_goals (apply d_pN (i := 14) (fs := [true, true, true, true, true, true, true, true, true, true, true, true, true, true]) (u := []) (o := []); (first | exact a_iaE rfl rfl rfl (fS rfl) (by omega) bnd (by exact rfl) | exact a_iaO1 rfl rfl rfl (fS rfl) (by omega) bnd | exact a_iaO rfl rfl rfl (fS rfl) (by omega) bnd (by exact rfl)); exact rfl; kernel_rfl; kernel_rfl; kernel_rfl; exact rfl; exact rfl); all_goals (apply d_uE (i := 15) (fs := [true, true, true, true, true, true, true, true, true, true, true, true, true, true, true]) (u := []) (o := []); (first | exact a_st_bx rfl rfl rfl rfl (fN rfl rfl) (Nat.le_of_ble_eq_true rfl) rfl | exact a_st_rowI rfl rfl rfl rfl (fN rfl rfl) bnd | exact a_stE (E := eI) _ rfl rfl rfl rfl (fN rfl rfl) bnd (by exact rfl) | exact a_stF (E := eR) ⟨_, _, _⟩ rfl rfl rfl rfl (fN rfl rfl) (Nat.le_of_ble_eq_true rfl) (Nat.le_of_ble_eq_true rfl) (by first | exact List.getElem?_set_self bnd | exact List.getElem?_eq_getElem bnd) (by (try dsimp only [setRow, List.set_cons_succ, List.set_cons_zero]); first | done | exact rfl) rfl); exact rfl; kernel_rfl; kernel_rfl; kernel_rfl; exact dst_none; exact rfl; exact rfl); all_goals (refine d_nil ?_; dsimp only [selT, selH, trues, SV.ren, C.ren, C.ren.all, tRen, GB.ren, calF, upOf, List.cons_append, List.nil_append, Nat.reduceAdd, setRow, List.map_cons, List.map_nil, scC, List.set_cons_zero, List.set_cons_succ, List.take_succ_cons, List.take_zero, List.drop_succ_cons, List.drop_zero]))); any_goals kernel_rfl)
    | (apply g_drN okM [[], [0], [0, 1], [], [3], [0, 1, 2, 3, 4], [0, 1, 2, 3, 4, 5]] [([], []), ([], []), ([0], []), ([], []), ([], []), ([1], [_]), ([], [])] 2; (focus (all_goals (apply d_pN (i := 0) (fs := []) (u := [243, 244]) (o := []); (first | exact a_pure (sv := .one _) rfl); exact rfl; kernel_rfl; kernel_rfl; kernel_rfl; exact rfl; exact rfl); all_goals (apply d_pN (i := 1) (fs := [true]) (u := [243, 244]) (o := []); (first | exact a_pure (sv := .one _) rfl | exact a_pure (sv := .agg _) rfl | exact a_ld_rowI rfl rfl rfl (fC rfl) bnd); exact rfl; kernel_rfl; kernel_rfl; kernel_rfl; exact rfl; exact rfl); all_goals (apply d_uN (i := 2) (fs := [true, true]) (u := [243, 244]) (o := []); (first | exact callD1 (n := _) 0 (θ := []) (hD := (l00Own_ok _ preB9))); exact rfl; kernel_rfl; kernel_rfl; kernel_rfl; exact dst_some rfl; exact rfl; exact rfl); all_goals (apply d_pN (i := 3) (fs := [false, false, false]) (u := [240, 241, 242]) (o := [(true, 0)]); (first | exact a_pure (sv := .one _) rfl); exact rfl; kernel_rfl; kernel_rfl; kernel_rfl; exact rfl; exact rfl); all_goals (apply d_pN (i := 4) (fs := [true, false, false, false]) (u := [240, 241, 242]) (o := [(true, 0)]); (first | exact a_pure (sv := .one _) rfl | exact a_pure (sv := .agg _) rfl | exact a_ld_rowI rfl rfl rfl (fC rfl) bnd); exact rfl; kernel_rfl; kernel_rfl; kernel_rfl; exact rfl; exact rfl); all_goals (apply d_uE (i := 5) (fs := [true, true, true, true, true]) (u := []) (o := []); (first | exact atS 1 (fun _ hj => a_appE (fP rfl) rfl rfl rfl rfl nowR (by first | omega | (simp; omega)) (by decide) hj (by exact rfl)) (by decide)); exact rfl; kernel_rfl; kernel_rfl; kernel_rfl; exact dst_some rfl; exact rfl; exact rfl); all_goals (apply d_pN (i := 6) (fs := [true, true, true, true, true, true]) (u := []) (o := []); (first | exact a_pure (sv := .one _) rfl | exact a_pure (sv := .agg _) rfl | exact a_pure (sv := .tup _) rfl); exact rfl; kernel_rfl; kernel_rfl; kernel_rfl; exact rfl; exact rfl); all_goals (refine d_nil ?_; dsimp only [selT, selH, trues, SV.ren, C.ren, C.ren.all, tRen, GB.ren, calF, upOf, List.cons_append, List.nil_append, Nat.reduceAdd, setRow, List.map_cons, List.map_nil, scC, List.set_cons_zero, List.set_cons_succ, List.take_succ_cons, List.take_zero, List.drop_succ_cons, List.drop_zero]))); any_goals kernel_rfl)
    | (refine o_gs rfl rfl (fun hc => ?_) (fun hc => ?_) <;> (try simp only [decide_eq_true_eq, decide_eq_false_iff_not, Bool.not_eq_true', Bool.not_eq_false', Bool.not_eq_true, Bool.not_eq_false, Bool.and_eq_true, Bool.or_eq_false_iff, Bool.not_not] at hc) <;> (try (exfalso; omega)))
    | (refine g_cond rfl (fun hc => ?_) (fun hc => ?_) <;> (try simp only [decide_eq_true_eq, decide_eq_false_iff_not, Bool.not_eq_true', Bool.not_eq_false', Bool.not_eq_true, Bool.not_eq_false, Bool.and_eq_true, Bool.or_eq_false_iff, Bool.not_not] at hc) <;> (try (exfalso; omega)))
  refine g_loop_id ?_
  refine loopK [0, 2, 3, 8, 9, 10] [0, 1, 2, 3, 4, 5, 6, 7] (fun y : Int × Conf × Int × Wk => y.1 ≤ b ∧ vConf m y.2.1 = true ∧ WkOk m y.1 y.2.2.1 y.2.2.2 ∧ runG m wC (wS m at') (b - y.1).toNat y.1 y.2.1 y.2.2.1 y.2.2.2 = O) (fun y => [(11, .one (int y.2.2.1)), (12, .one (int y.2.2.2.la))]) (fun y => [(4, wkBx m y.1 false y.2.2.2 0 0 1 2 3 false), (0, roI y.2.2.2.vis), (1, roI y.2.2.2.sts), (2, roI y.2.2.2.rls), (3, roI y.2.2.2.crs), (5, roI y.2.1.le), (6, roI y.2.1.ri), (7, .bx [int y.2.1.st, .gv 5, .gv 6])]) (fun y => (b - y.1).toNat) ((0 : Int), c, (0 : Int), w0 m) [0, 1, 2, 3, 4, 5, 6, 7] (hI := ?_) (hr := ?_)
  · refine ⟨by dsimp only; omega, hc, ?_, by rw [← hO]; congr 1; dsimp only; omega⟩
    have hz : ∀ (k : Nat), ∀ v ∈ List.replicate k (0 : Int), 0 ≤ v ∧ v ≤ 0 := by
      intro k v hv
      have := (List.mem_replicate.1 hv).2
      omega
    exact ⟨by simp, by simp, by simp, by simp, by simp, by simp, by simp, by simp, by simp; omega, by simp, by simp, by simp, hz _, hz _⟩
  · rintro ⟨n, c, hd, x⟩ ⟨i2, i3, i4, i10⟩
    dsimp only [List.cons_append, List.nil_append] at *
    try dsimp only [wkBx]
    skip
    have hbd := at_bd hm i3; have hok := ruAt_ok hm i3; have hcb := (vConf_bd i3).1; obtain ⟨j0, j1, j2, j3, j4, j5, j6, j7, j8, j9, j10, j11, j12, j13⟩ := id i4; have e1 := j12 _ (List.getElem_mem (show c.st.toNat < x.sts.length by omega)); have e2 := j13 _ (List.getElem_mem (show (c.st * m.sy + c.ri.headD 0).toNat < x.rls.length by omega))
    repeat' first
      | refine g_seq ?_
      | refine g_skip ?_
      | refine g_exit ?_
      | refine g_block ?_
      | refine g_reg ?_
      | refine g_if_t rfl ?_
      | refine g_if_f rfl ?_
      | refine o_nil ?_
      | refine q_s ?_
      | refine q_se ?_
      | refine q_b ?_
      | refine q_be rfl ?_
      | refine q_bn rfl ?_
      | refine q_le ?_
      | refine q_ce ?_
      | (apply n3; (first | exact a_new (gb := .bx _) rfl); exact rfl; (try dsimp only [List.map_cons, List.map_nil, scC, Nat.reduceAdd]))
      | (apply p3; (first | exact a_pure (sv := .one _) rfl | exact a_pure (sv := .agg _) rfl | exact a_pure (sv := .tup _) rfl | exact a_ld_rowI rfl rfl rfl (fC rfl) bnd | exact a_cmp rfl rfl rfl trivial rfl | exact a_eqS rfl rfl rfl | exact a_iaE rfl rfl rfl (fS rfl) (by omega) bnd (by exact rfl) | exact a_iaO1 rfl rfl rfl (fS rfl) (by omega) bnd | exact a_iaO rfl rfl rfl (fS rfl) (by omega) bnd (by exact rfl) | exact a_add rfl rfl (by omega) (by omega) | exact a_lenE rfl rfl (fS rfl) (by exact rfl) | exact a_len_str rfl (fT rfl) | exact a_ne rfl rfl | exact a_neS rfl rfl rfl); exact rfl)
      | (apply w3; (first | exact a_st_bx rfl rfl rfl rfl (fN rfl rfl) (Nat.le_of_ble_eq_true rfl) rfl | exact a_stF (E := eR) ⟨_, _, _⟩ rfl rfl rfl rfl (fN rfl rfl) (Nat.le_of_ble_eq_true rfl) (Nat.le_of_ble_eq_true rfl) (by first | exact List.getElem?_set_self bnd | exact List.getElem?_eq_getElem bnd) (by (try dsimp only [setRow, List.set_cons_succ, List.set_cons_zero]); first | done | exact rfl) rfl | exact a_stE (E := eR) ⟨_, _, _⟩ rfl rfl rfl rfl (fN rfl rfl) bnd (by exact rfl) | exact a_st_rowI rfl rfl rfl rfl (fN rfl rfl) bnd | exact a_stE (E := eI) _ rfl rfl rfl rfl (fN rfl rfl) bnd (by exact rfl)); exact rfl; (try dsimp only [setRow, List.map_cons, List.map_nil, scC, List.set_cons_zero, List.set_cons_succ, List.take_succ_cons, List.take_zero, List.drop_succ_cons, List.drop_zero, Nat.reduceAdd]))
      | (apply c4 0; exact callK1 (θ := []) (hD := (l05HaltsC_ok _ _ preB9 preB9)); exact rfl; exact rfl; exact rfl; (try dsimp only [SV.ren, C.ren, C.ren.all, tRen, GB.ren, calF, upOf, List.cons_append, List.nil_append, Nat.reduceAdd]))
      | (apply c4 0; exact callK1 (θ := []) (hD := (l05AtC_ok _ _ preB9 preB9)); exact rfl; exact rfl; exact rfl; (try dsimp only [SV.ren, C.ren, C.ren.all, tRen, GB.ren, calF, upOf, List.cons_append, List.nil_append, Nat.reduceAdd]))
      | refine o_no rfl rfl rfl rfl ?_
      | refine o_noN rfl rfl rfl ?_
      | (apply py3; exact rfl; exact rfl; (first | exact a_pure (sv := .one _) rfl | exact a_pure (sv := .agg _) rfl | exact a_pure (sv := .tup _) rfl | exact a_ld_rowI rfl rfl rfl (fC rfl) bnd | exact a_cmp rfl rfl rfl trivial rfl | exact a_eqS rfl rfl rfl | exact a_iaE rfl rfl rfl (fS rfl) (by omega) bnd (by exact rfl) | exact a_iaO1 rfl rfl rfl (fS rfl) (by omega) bnd | exact a_iaO rfl rfl rfl (fS rfl) (by omega) bnd (by exact rfl) | exact a_add rfl rfl (by omega) (by omega) | exact a_lenE rfl rfl (fS rfl) (by exact rfl) | exact a_len_str rfl (fT rfl) | exact a_ne rfl rfl | exact a_neS rfl rfl rfl); exact rfl; exact rfl)
      | (apply ny3; exact rfl; exact rfl; (first | exact a_new (gb := .bx _) rfl); exact rfl; exact rfl)
      | (apply cy4 0; exact rfl; exact rfl; exact callK1 (θ := []) (hD := (l05HaltsC_ok _ _ preB9 preB9)); exact rfl; exact rfl; exact rfl; exact rfl; (try dsimp only [SV.ren, C.ren, C.ren.all, tRen, GB.ren, calF, upOf, List.cons_append, List.nil_append, Nat.reduceAdd]))
      | (apply cy4 0; exact rfl; exact rfl; exact callK1 (θ := []) (hD := (l05AtC_ok _ _ preB9 preB9)); exact rfl; exact rfl; exact rfl; exact rfl; (try dsimp only [SV.ren, C.ren, C.ren.all, tRen, GB.ren, calF, upOf, List.cons_append, List.nil_append, Nat.reduceAdd]))
      | (apply g_drN okM [[], [], [1], [1, 2], [1, 2, 3], [1, 2, 3, 4], [], [1, 2, 3, 4, 5, 6], [0, 1, 2, 3, 4, 5, 6, 7], [0, 1, 2, 3, 4, 5, 6, 7, 8], [0, 1, 2, 3, 4, 5, 6, 7, 8, 9], [0, 1, 2, 3, 4, 5, 6, 7, 8, 9, 10]] [([], []), ([], []), ([], []), ([], []), ([], []), ([], []), ([], []), ([], []), ([], []), ([], []), ([], []), ([], [4])] 0; (focus (all_goals (apply d_pN (i := 0) (fs := []) (u := [38, 39, 40, 41, 42, 43, 44]) (o := []); (first | exact a_pure (sv := .one _) rfl | exact a_pure (sv := .agg _) rfl | exact a_pure (sv := .tup _) rfl); exact rfl; kernel_rfl; kernel_rfl; kernel_rfl; exact rfl; exact rfl); all_goals (apply d_pN (i := 1) (fs := [false]) (u := [37, 43]) (o := []); (first | exact a_pure (sv := .one _) rfl | exact a_pure (sv := .agg _) rfl | exact a_pure (sv := .tup _) rfl); exact rfl; kernel_rfl; kernel_rfl; kernel_rfl; exact rfl; exact rfl); all_goals (apply d_pN (i := 2) (fs := [true, false]) (u := [37, 43]) (o := []); (first | exact a_pure (sv := .one _) rfl); exact rfl; kernel_rfl; kernel_rfl; kernel_rfl; exact rfl; exact rfl); all_goals (apply d_pN (i := 3) (fs := [true, true, false]) (u := [37, 43]) (o := []); (first | exact a_pure (sv := .one _) rfl); exact rfl; kernel_rfl; kernel_rfl; kernel_rfl; exact rfl; exact rfl); all_goals (apply d_pN (i := 4) (fs := [true, true, true, false]) (u := [37, 43]) (o := []); (first | exact a_pure (sv := .one _) rfl); exact rfl; kernel_rfl; kernel_rfl; kernel_rfl; exact rfl; exact rfl); all_goals (apply d_pN (i := 5) (fs := [true, true, true, true, false]) (u := [37, 43]) (o := []); (first | exact a_pure (sv := .one _) rfl | exact a_pure (sv := .agg _) rfl | exact a_ld_rowI rfl rfl rfl (fC rfl) bnd); exact rfl; kernel_rfl; kernel_rfl; kernel_rfl; exact rfl; exact rfl); all_goals (apply d_pN (i := 6) (fs := [false, false, false, false, false, false]) (u := [37, 38, 39, 40, 41, 42]) (o := []); (first | exact callD1 (n := _) 0 (θ := []) (hD := (l20Space_ok _ preB9 preB9))); exact rfl; kernel_rfl; kernel_rfl; kernel_rfl; exact rfl; exact rfl); all_goals (apply d_pN (i := 7) (fs := [true, true, true, true, true, true, false]) (u := [37]) (o := []); (first | exact callD1 (n := _) 0 (θ := []) (hD := (l00Max_ok _ _))); exact rfl; kernel_rfl; kernel_rfl; kernel_rfl; exact rfl; exact rfl); all_goals (apply d_pN (i := 8) (fs := [true, true, true, true, true, true, true, true]) (u := []) (o := []); (first | exact a_pure (sv := .one _) rfl); exact rfl; kernel_rfl; kernel_rfl; kernel_rfl; exact rfl; exact rfl); all_goals (apply d_pN (i := 9) (fs := [true, true, true, true, true, true, true, true, true]) (u := []) (o := []); (first | exact a_pure (sv := .one _) rfl); exact rfl; kernel_rfl; kernel_rfl; kernel_rfl; exact rfl; exact rfl); all_goals (apply d_pN (i := 10) (fs := [true, true, true, true, true, true, true, true, true, true]) (u := []) (o := []); (first | exact a_pure (sv := .one _) rfl); exact rfl; kernel_rfl; kernel_rfl; kernel_rfl; exact rfl; exact rfl); all_goals (apply d_uE (i := 11) (fs := [true, true, true, true, true, true, true, true, true, true, true]) (u := []) (o := []); (first | exact a_st_bx rfl rfl rfl rfl (fN rfl rfl) (Nat.le_of_ble_eq_true rfl) rfl | exact a_st_rowI rfl rfl rfl rfl (fN rfl rfl) bnd | exact a_stE (E := eI) _ rfl rfl rfl rfl (fN rfl rfl) bnd (by exact rfl) | exact a_stF (E := eR) ⟨_, _, _⟩ rfl rfl rfl rfl (fN rfl rfl) (Nat.le_of_ble_eq_true rfl) (Nat.le_of_ble_eq_true rfl) (by first | exact List.getElem?_set_self bnd | exact List.getElem?_eq_getElem bnd) (by (try dsimp only [setRow, List.set_cons_succ, List.set_cons_zero]); first | done | exact rfl) rfl); exact rfl; kernel_rfl; kernel_rfl; kernel_rfl; exact dst_none; exact rfl; exact rfl); all_goals (refine d_nil ?_; dsimp only [selT, selH, trues, SV.ren, C.ren, C.ren.all, tRen, GB.ren, calF, upOf, List.cons_append, List.nil_append, Nat.reduceAdd, setRow, List.map_cons, List.map_nil, scC, List.set_cons_zero, List.set_cons_succ, List.take_succ_cons, List.take_zero, List.drop_succ_cons, List.drop_zero]))); any_goals kernel_rfl)
      | (apply g_drN okM [[], [0], [0, 1], [0, 1, 2], [], [4], [0, 1, 2, 3, 4, 5], [0, 1, 2, 3, 4, 5, 6], [0, 1, 2, 3, 4, 5, 6, 7], [0, 1, 2, 3, 4, 5, 6, 7, 8], [0, 1, 2, 3, 4, 5, 6, 7, 8, 9]] [([], []), ([], []), ([], []), ([], []), ([], []), ([], []), ([], []), ([], []), ([], []), ([], []), ([], [_])] 0; (focus (all_goals (apply d_pN (i := 0) (fs := []) (u := [52, 53]) (o := []); (first | exact a_pure (sv := .one _) rfl | exact a_pure (sv := .agg _) rfl | exact a_pure (sv := .tup _) rfl); exact rfl; kernel_rfl; kernel_rfl; kernel_rfl; exact rfl; exact rfl); all_goals (apply d_pN (i := 1) (fs := [true]) (u := [52, 53]) (o := []); (first | exact a_pure (sv := .one _) rfl); exact rfl; kernel_rfl; kernel_rfl; kernel_rfl; exact rfl; exact rfl); all_goals (apply d_pN (i := 2) (fs := [true, true]) (u := [52, 53]) (o := []); (first | exact a_pure (sv := .one _) rfl); exact rfl; kernel_rfl; kernel_rfl; kernel_rfl; exact rfl; exact rfl); all_goals (apply d_pN (i := 3) (fs := [true, true, true]) (u := [52, 53]) (o := []); (first | exact a_pure (sv := .one _) rfl | exact a_pure (sv := .agg _) rfl | exact a_ld_rowI rfl rfl rfl (fC rfl) bnd); exact rfl; kernel_rfl; kernel_rfl; kernel_rfl; exact rfl; exact rfl); all_goals (apply d_pN (i := 4) (fs := [false, false, false, false]) (u := [48, 49, 50, 51]) (o := []); (first | exact a_pure (sv := .one _) rfl); exact rfl; kernel_rfl; kernel_rfl; kernel_rfl; exact rfl; exact rfl); all_goals (apply d_pN (i := 5) (fs := [true, false, false, false, false]) (u := [48, 49, 50, 51]) (o := []); (first | exact a_pure (sv := .one _) rfl | exact a_pure (sv := .agg _) rfl | exact a_ld_rowI rfl rfl rfl (fC rfl) bnd); exact rfl; kernel_rfl; kernel_rfl; kernel_rfl; exact rfl; exact rfl); all_goals (apply d_pN (i := 6) (fs := [true, true, true, true, true, true]) (u := []) (o := []); (first | exact a_iaE rfl rfl rfl (fS rfl) (by omega) bnd (by exact rfl) | exact a_iaO1 rfl rfl rfl (fS rfl) (by omega) bnd | exact a_iaO rfl rfl rfl (fS rfl) (by omega) bnd (by exact rfl)); exact rfl; kernel_rfl; kernel_rfl; kernel_rfl; exact rfl; exact rfl); all_goals (apply d_pN (i := 7) (fs := [true, true, true, true, true, true, true]) (u := []) (o := []); (first | exact a_pure (sv := .one _) rfl | exact a_pure (sv := .agg _) rfl | exact a_ld_rowI rfl rfl rfl (fC rfl) bnd); exact rfl; kernel_rfl; kernel_rfl; kernel_rfl; exact rfl; exact rfl); all_goals (apply d_pN (i := 8) (fs := [true, true, true, true, true, true, true, true]) (u := []) (o := []); (first | exact a_add rfl rfl (by omega) (by omega)); exact rfl; kernel_rfl; kernel_rfl; kernel_rfl; exact rfl; exact rfl); all_goals (apply d_pN (i := 9) (fs := [true, true, true, true, true, true, true, true, true]) (u := []) (o := []); (first | exact a_iaE rfl rfl rfl (fS rfl) (by omega) bnd (by exact rfl) | exact a_iaO1 rfl rfl rfl (fS rfl) (by omega) bnd | exact a_iaO rfl rfl rfl (fS rfl) (by omega) bnd (by exact rfl)); exact rfl; kernel_rfl; kernel_rfl; kernel_rfl; exact rfl; exact rfl); all_goals (apply d_uE (i := 10) (fs := [true, true, true, true, true, true, true, true, true, true]) (u := []) (o := []); (first | exact a_st_bx rfl rfl rfl rfl (fN rfl rfl) (Nat.le_of_ble_eq_true rfl) rfl | exact a_st_rowI rfl rfl rfl rfl (fN rfl rfl) bnd | exact a_stE (E := eI) _ rfl rfl rfl rfl (fN rfl rfl) bnd (by exact rfl) | exact a_stF (E := eR) ⟨_, _, _⟩ rfl rfl rfl rfl (fN rfl rfl) (Nat.le_of_ble_eq_true rfl) (Nat.le_of_ble_eq_true rfl) (by first | exact List.getElem?_set_self bnd | exact List.getElem?_eq_getElem bnd) (by (try dsimp only [setRow, List.set_cons_succ, List.set_cons_zero]); first | done | exact rfl) rfl); exact rfl; kernel_rfl; kernel_rfl; kernel_rfl; exact dst_none; exact rfl; exact rfl); all_goals (refine d_nil ?_; dsimp only [selT, selH, trues, SV.ren, C.ren, C.ren.all, tRen, GB.ren, calF, upOf, List.cons_append, List.nil_append, Nat.reduceAdd, setRow, List.map_cons, List.map_nil, scC, List.set_cons_zero, List.set_cons_succ, List.take_succ_cons, List.take_zero, List.drop_succ_cons, List.drop_zero]))); any_goals kernel_rfl)
      | (apply g_drN okM [[], [0], [], [0, 1, 2]] [([], []), ([], []), ([], []), ([], [])] 0; (focus (all_goals (apply d_pN (i := 0) (fs := []) (u := [98]) (o := []); (first | exact a_pure (sv := .one _) rfl); exact rfl; kernel_rfl; kernel_rfl; kernel_rfl; exact rfl; exact rfl); all_goals (apply d_pN (i := 1) (fs := [true]) (u := [98]) (o := []); (first | exact a_pure (sv := .one _) rfl | exact a_pure (sv := .agg _) rfl | exact a_ld_rowI rfl rfl rfl (fC rfl) bnd); exact rfl; kernel_rfl; kernel_rfl; kernel_rfl; exact rfl; exact rfl); all_goals (apply d_pN (i := 2) (fs := [false, false]) (u := [96, 97]) (o := []); (first | exact callD1 (n := _) 0 (θ := []) (hD := (l05Head_ok _ preB9))); exact rfl; kernel_rfl; kernel_rfl; kernel_rfl; exact rfl; exact rfl); all_goals (apply d_pN (i := 3) (fs := [true, true, true]) (u := []) (o := []); (first | exact a_ne rfl rfl | exact a_neS rfl rfl rfl); exact rfl; kernel_rfl; kernel_rfl; kernel_rfl; exact rfl; exact rfl); all_goals (refine d_nil ?_; dsimp only [selT, selH, trues, SV.ren, C.ren, C.ren.all, tRen, GB.ren, calF, upOf, List.cons_append, List.nil_append, Nat.reduceAdd, setRow, List.map_cons, List.map_nil, scC, List.set_cons_zero, List.set_cons_succ, List.take_succ_cons, List.take_zero, List.drop_succ_cons, List.drop_zero]))); any_goals kernel_rfl)
      | (apply g_drN okM [[], [0], [0, 1], [], [3], [0, 1, 2, 3, 4], [0, 1, 2, 3, 4, 5]] [([], []), ([], []), ([0], []), ([], []), ([], []), ([1], [_]), ([], [])] 2; (focus (all_goals (apply d_pN (i := 0) (fs := []) (u := [243, 244]) (o := []); (first | exact a_pure (sv := .one _) rfl); exact rfl; kernel_rfl; kernel_rfl; kernel_rfl; exact rfl; exact rfl); all_goals (apply d_pN (i := 1) (fs := [true]) (u := [243, 244]) (o := []); (first | exact a_pure (sv := .one _) rfl | exact a_pure (sv := .agg _) rfl | exact a_ld_rowI rfl rfl rfl (fC rfl) bnd); exact rfl; kernel_rfl; kernel_rfl; kernel_rfl; exact rfl; exact rfl); all_goals (apply d_uN (i := 2) (fs := [true, true]) (u := [243, 244]) (o := []); (first | exact callD1 (n := _) 0 (θ := []) (hD := (l00Own_ok _ preB9))); exact rfl; kernel_rfl; kernel_rfl; kernel_rfl; exact dst_some rfl; exact rfl; exact rfl); all_goals (apply d_pN (i := 3) (fs := [false, false, false]) (u := [240, 241, 242]) (o := [(true, 0)]); (first | exact a_pure (sv := .one _) rfl); exact rfl; kernel_rfl; kernel_rfl; kernel_rfl; exact rfl; exact rfl); all_goals (apply d_pN (i := 4) (fs := [true, false, false, false]) (u := [240, 241, 242]) (o := [(true, 0)]); (first | exact a_pure (sv := .one _) rfl | exact a_pure (sv := .agg _) rfl | exact a_ld_rowI rfl rfl rfl (fC rfl) bnd); exact rfl; kernel_rfl; kernel_rfl; kernel_rfl; exact rfl; exact rfl); all_goals (apply d_uE (i := 5) (fs := [true, true, true, true, true]) (u := []) (o := []); (first | exact atS 1 (fun _ hj => a_appE (fP rfl) rfl rfl rfl rfl nowR (by first | omega | (simp; omega)) (by decide) hj (by exact rfl)) (by decide)); exact rfl; kernel_rfl; kernel_rfl; kernel_rfl; exact dst_some rfl; exact rfl; exact rfl); all_goals (apply d_pN (i := 6) (fs := [true, true, true, true, true, true]) (u := []) (o := []); (first | exact a_pure (sv := .one _) rfl | exact a_pure (sv := .agg _) rfl | exact a_pure (sv := .tup _) rfl); exact rfl; kernel_rfl; kernel_rfl; kernel_rfl; exact rfl; exact rfl); all_goals (refine d_nil ?_; dsimp only [selT, selH, trues, SV.ren, C.ren, C.ren.all, tRen, GB.ren, calF, upOf, List.cons_append, List.nil_append, Nat.reduceAdd, setRow, List.map_cons, List.map_nil, scC, List.set_cons_zero, List.set_cons_succ, List.take_succ_cons, List.take_zero, List.drop_succ_cons, List.drop_zero]))); any_goals kernel_rfl)
      | (refine o_gs rfl rfl (fun hc => ?_) (fun hc => ?_) <;> (try simp only [decide_eq_true_eq, decide_eq_false_iff_not, Bool.not_eq_true', Bool.not_eq_false', Bool.not_eq_true, Bool.not_eq_false, Bool.and_eq_true, Bool.or_eq_false_iff, Bool.not_not] at hc) <;> (try (exfalso; omega)))
      | (refine g_cond (c := .tmp 77) rfl (fun hc => ?_) (fun hc => ?_) <;> (try simp only [decide_eq_true_eq, decide_eq_false_iff_not, Bool.not_eq_true', Bool.not_eq_false', Bool.not_eq_true, Bool.not_eq_false, Bool.and_eq_true, Bool.or_eq_false_iff, Bool.not_not] at hc) <;> (try (exfalso; omega)))
      | (refine g_cond (c := .tmp 116) rfl (fun hc => ?_) (fun hc => ?_) <;> (try simp only [decide_eq_true_eq, decide_eq_false_iff_not, Bool.not_eq_true', Bool.not_eq_false', Bool.not_eq_true, Bool.not_eq_false, Bool.and_eq_true, Bool.or_eq_false_iff, Bool.not_not] at hc) <;> (try (exfalso; omega)))
      | (refine g_cond (c := .tmp 146) rfl (fun hc => ?_) (fun hc => ?_) <;> (try simp only [decide_eq_true_eq, decide_eq_false_iff_not, Bool.not_eq_true', Bool.not_eq_false', Bool.not_eq_true, Bool.not_eq_false, Bool.and_eq_true, Bool.or_eq_false_iff, Bool.not_not] at hc) <;> (try (exfalso; omega)))
      | (refine g_cond (c := .tmp 168) rfl (fun hc => ?_) (fun hc => ?_) <;> (try simp only [decide_eq_true_eq, decide_eq_false_iff_not, Bool.not_eq_true', Bool.not_eq_false', Bool.not_eq_true, Bool.not_eq_false, Bool.and_eq_true, Bool.or_eq_false_iff, Bool.not_not] at hc) <;> (try (exfalso; omega)))
      | (refine g_cond (c := .tmp 189) rfl (fun hc => ?_) (fun hc => ?_) <;> (try simp only [decide_eq_true_eq, decide_eq_false_iff_not, Bool.not_eq_true', Bool.not_eq_false', Bool.not_eq_true, Bool.not_eq_false, Bool.and_eq_true, Bool.or_eq_false_iff, Bool.not_not] at hc) <;> (try (exfalso; omega)))
      | (refine g_cond (c := .tmp 225) rfl (fun hc => ?_) (fun hc => ?_) <;> (try simp only [decide_eq_true_eq, decide_eq_false_iff_not, Bool.not_eq_true', Bool.not_eq_false', Bool.not_eq_true, Bool.not_eq_false, Bool.and_eq_true, Bool.or_eq_false_iff, Bool.not_not] at hc) <;> (try (exfalso; omega)))
      | (refine g_cond (c := .tmp 249) rfl (fun hc => ?_) (fun hc => ?_) <;> (try simp only [decide_eq_true_eq, decide_eq_false_iff_not, Bool.not_eq_true', Bool.not_eq_false', Bool.not_eq_true, Bool.not_eq_false, Bool.and_eq_true, Bool.or_eq_false_iff, Bool.not_not] at hc) <;> (try (exfalso; omega)))
      | (refine g_cond (c := .tmp 256) rfl (fun hc => ?_) (fun hc => ?_) <;> (try simp only [decide_eq_true_eq, decide_eq_false_iff_not, Bool.not_eq_true', Bool.not_eq_false', Bool.not_eq_true, Bool.not_eq_false, Bool.and_eq_true, Bool.or_eq_false_iff, Bool.not_not] at hc) <;> (try (exfalso; omega)))
    all_goals (try simp only [bump_set, ruAt_ge hm i3])
    · have hO' : O = ⟨{ x with sp := max x.sp (c.le.length + c.ri.length), sts := bump x.sts c.st }, n, c, hd, decide (ruAt m c = noR), false⟩ := by
        rw [decide_eq_true hc]
        exact (run_halt hc i10).trans (by unfold wC; rfl)
      subst hO'
      refine g_loop_id ?_
      refine loopK [8, 9, 17] [4] (fun y : Int × Int => 0 ≤ y.1 ∧ y.1 ≤ (c.le ++ c.ri).length ∧ y.2 = y.1 - (((c.le ++ c.ri).take y.1.toNat).count 0 : Nat) ∧ 0 ≤ y.2 ∧ y.2 ≤ y.1) (fun y => [(18, .one (int y.1))]) (fun y => [(4, wkBx m n (decide (ruAt m c = noR)) { x with sp := max x.sp (c.le.length + c.ri.length), sts := bump x.sts c.st } y.2 0 1 2 3 false)]) (fun y => ((c.le ++ c.ri).length - y.1).toNat) ((0 : Int), (0 : Int)) [0, 1, 2, 3, 4, 5, 6, 7, 8, 9] (hI := ?_) (hr := ?_)
      · exact ⟨by simp, by simp only [List.length_append]; omega, by simp, by simp, by simp⟩
      · have hlen : (c.le ++ c.ri).length = c.le.length + c.ri.length := List.length_append
        rintro ⟨i, k⟩ ⟨k1, k2, k3, k4, k5⟩
        dsimp only [List.cons_append, List.nil_append] at *
        try dsimp only [wkBx]
        skip
        repeat' first
          | refine g_seq ?_
          | refine g_skip ?_
          | refine g_exit ?_
          | refine g_block ?_
          | refine g_reg ?_
          | refine g_if_t rfl ?_
          | refine g_if_f rfl ?_
          | refine o_nil ?_
          | refine q_s ?_
          | refine q_se ?_
          | refine q_b ?_
          | refine q_be rfl ?_
          | refine q_bn rfl ?_
          | refine q_le ?_
          | refine q_ce ?_
          | (apply p3; (first | exact a_pure (sv := .one _) rfl | exact a_pure (sv := .agg _) rfl | exact a_pure (sv := .tup _) rfl | exact a_lenE rfl rfl (fS rfl) (by exact rfl) | exact a_len_str rfl (fT rfl) | exact a_cmp rfl rfl rfl trivial rfl | exact a_iaE rfl rfl rfl (fS rfl) (by omega) bnd (by exact rfl) | exact a_iaO1 rfl rfl rfl (fS rfl) (by omega) bnd | exact a_iaO rfl rfl rfl (fS rfl) (by omega) bnd (by exact rfl) | exact a_ld_rowI rfl rfl rfl (fC rfl) bnd | exact a_ne rfl rfl | exact a_neS rfl rfl rfl | exact a_add rfl rfl (by omega) (by omega)); exact rfl)
          | (apply w3; (first | exact a_st_bx rfl rfl rfl rfl (fN rfl rfl) (Nat.le_of_ble_eq_true rfl) rfl | exact a_st_rowI rfl rfl rfl rfl (fN rfl rfl) bnd | exact a_stE (E := eI) _ rfl rfl rfl rfl (fN rfl rfl) bnd (by exact rfl) | exact a_stF (E := eR) ⟨_, _, _⟩ rfl rfl rfl rfl (fN rfl rfl) (Nat.le_of_ble_eq_true rfl) (Nat.le_of_ble_eq_true rfl) (by first | exact List.getElem?_set_self bnd | exact List.getElem?_eq_getElem bnd) (by (try dsimp only [setRow, List.set_cons_succ, List.set_cons_zero]); first | done | exact rfl) rfl); exact rfl; (try dsimp only [setRow, List.map_cons, List.map_nil, scC, List.set_cons_zero, List.set_cons_succ, List.take_succ_cons, List.take_zero, List.drop_succ_cons, List.drop_zero, Nat.reduceAdd]))
          | (refine o_gs rfl rfl (fun hc => ?_) (fun hc => ?_) <;> (try simp only [decide_eq_true_eq, decide_eq_false_iff_not, Bool.not_eq_true', Bool.not_eq_false', Bool.not_eq_true, Bool.not_eq_false, Bool.and_eq_true, Bool.or_eq_false_iff, Bool.not_not] at hc) <;> (try (exfalso; omega)))
          | (refine g_cond rfl (fun hc => ?_) (fun hc => ?_) <;> (try simp only [decide_eq_true_eq, decide_eq_false_iff_not, Bool.not_eq_true', Bool.not_eq_false', Bool.not_eq_true, Bool.not_eq_false, Bool.and_eq_true, Bool.or_eq_false_iff, Bool.not_not] at hc) <;> (try (exfalso; omega)))
        · refine q_again (i + 1, k + 1) [0, 1, 2, 3, 4, 5, 6, 7, 8, 9] (by exact stk) ?_ ?_
          · exact ⟨by dsimp only; omega, by dsimp only; omega, by dsimp only; rw [count_snoc _ 0 i k1 (by omega), if_neg hc, k3]; simp; omega, by dsimp only; omega, by dsimp only; omega⟩
          · dsimp only; omega
        · refine q_again (i + 1, k) [0, 1, 2, 3, 4, 5, 6, 7, 8, 9] (by exact stk) ?_ ?_
          · exact ⟨by dsimp only; omega, by dsimp only; omega, by dsimp only; rw [count_snoc _ 0 i k1 (by omega), if_pos hc, k3]; simp; omega, by dsimp only; omega, by dsimp only; omega⟩
          · dsimp only; omega
        · have hk : k = marksC c := by
            rw [List.take_of_length_le (by omega), List.count_append] at k3
            unfold marksC
            omega
          subst hk
          refine g_conv (t_junkB (i := 4) (k := 0) rfl) ?_
          try dsimp only [setRow, List.map_cons, List.map_nil, scC, List.set_cons_zero, List.set_cons_succ]
          repeat (first | refine g_ret ?_ | refine q_sr ?_ | refine q_br ?_ | refine q_lr ?_ | refine q_cr ?_)
          refine ends_id ?_
          exact endK [_, _, _, _, _] (h2 := (by first | (with_reducible exact SVLe.refl) | exact SVLe.any | exact SVLe.one (.sh rfl) | exact SVLe.one (.nil (by decide)) | (refine SVLe.agg ?_; repeat (first | exact CsLe.nil | refine CsLe.cons ?_ ?_ | exact CLe.refl | exact CLe.sh rfl | exact CLe.nil (by decide) | (refine cle_i ?_; simp) | (refine cle_b ?_; simp))) | (refine SVLe.tup ?_; repeat (first | exact TLe.nil | refine TLe.cons ?_ ?_ | exact CsLe.nil | refine CsLe.cons ?_ ?_ | exact CLe.refl | exact CLe.sh rfl | exact CLe.nil (by decide) | (refine cle_i ?_; simp) | (refine cle_b ?_; simp))) | exact SVLe.refl | (refine sle_i ?_; simp) | (refine sle_b ?_; simp))) (h3 := (by repeat (first | exact trivial | refine And.intro ?_ ?_ | exact Or.inl rfl | exact Or.inr rfl | (refine Or.inr (row_eq ?_); simp) | (refine Or.inr (bx_eq rfl rfl ?_); (try dsimp only [C.ren, C.ren.all]); simp))))
    · have hO' : O = ⟨{ x with sp := max x.sp (c.le.length + c.ri.length), sts := bump x.sts c.st }, n, c, hd, decide (ruAt m c = noR), false⟩ := by
        rename_i hn
        rw [decide_eq_false hn]
        exact (run_end hn hc i10).trans (by unfold wC; rfl)
      subst hO'
      refine g_loop_id ?_
      refine loopK [8, 9, 17] [4] (fun y : Int × Int => 0 ≤ y.1 ∧ y.1 ≤ (c.le ++ c.ri).length ∧ y.2 = y.1 - (((c.le ++ c.ri).take y.1.toNat).count 0 : Nat) ∧ 0 ≤ y.2 ∧ y.2 ≤ y.1) (fun y => [(18, .one (int y.1))]) (fun y => [(4, wkBx m n (decide (ruAt m c = noR)) { x with sp := max x.sp (c.le.length + c.ri.length), sts := bump x.sts c.st } y.2 0 1 2 3 false)]) (fun y => ((c.le ++ c.ri).length - y.1).toNat) ((0 : Int), (0 : Int)) [0, 1, 2, 3, 4, 5, 6, 7, 8, 9] (hI := ?_) (hr := ?_)
      · exact ⟨by simp, by simp only [List.length_append]; omega, by simp, by simp, by simp⟩
      · have hlen : (c.le ++ c.ri).length = c.le.length + c.ri.length := List.length_append
        rintro ⟨i, k⟩ ⟨k1, k2, k3, k4, k5⟩
        dsimp only [List.cons_append, List.nil_append] at *
        try dsimp only [wkBx]
        skip
        repeat' first
          | refine g_seq ?_
          | refine g_skip ?_
          | refine g_exit ?_
          | refine g_block ?_
          | refine g_reg ?_
          | refine g_if_t rfl ?_
          | refine g_if_f rfl ?_
          | refine o_nil ?_
          | refine q_s ?_
          | refine q_se ?_
          | refine q_b ?_
          | refine q_be rfl ?_
          | refine q_bn rfl ?_
          | refine q_le ?_
          | refine q_ce ?_
          | (apply p3; (first | exact a_pure (sv := .one _) rfl | exact a_pure (sv := .agg _) rfl | exact a_pure (sv := .tup _) rfl | exact a_lenE rfl rfl (fS rfl) (by exact rfl) | exact a_len_str rfl (fT rfl) | exact a_cmp rfl rfl rfl trivial rfl | exact a_iaE rfl rfl rfl (fS rfl) (by omega) bnd (by exact rfl) | exact a_iaO1 rfl rfl rfl (fS rfl) (by omega) bnd | exact a_iaO rfl rfl rfl (fS rfl) (by omega) bnd (by exact rfl) | exact a_ld_rowI rfl rfl rfl (fC rfl) bnd | exact a_ne rfl rfl | exact a_neS rfl rfl rfl | exact a_add rfl rfl (by omega) (by omega)); exact rfl)
          | (apply w3; (first | exact a_st_bx rfl rfl rfl rfl (fN rfl rfl) (Nat.le_of_ble_eq_true rfl) rfl | exact a_st_rowI rfl rfl rfl rfl (fN rfl rfl) bnd | exact a_stE (E := eI) _ rfl rfl rfl rfl (fN rfl rfl) bnd (by exact rfl) | exact a_stF (E := eR) ⟨_, _, _⟩ rfl rfl rfl rfl (fN rfl rfl) (Nat.le_of_ble_eq_true rfl) (Nat.le_of_ble_eq_true rfl) (by first | exact List.getElem?_set_self bnd | exact List.getElem?_eq_getElem bnd) (by (try dsimp only [setRow, List.set_cons_succ, List.set_cons_zero]); first | done | exact rfl) rfl); exact rfl; (try dsimp only [setRow, List.map_cons, List.map_nil, scC, List.set_cons_zero, List.set_cons_succ, List.take_succ_cons, List.take_zero, List.drop_succ_cons, List.drop_zero, Nat.reduceAdd]))
          | (refine o_gs rfl rfl (fun hc => ?_) (fun hc => ?_) <;> (try simp only [decide_eq_true_eq, decide_eq_false_iff_not, Bool.not_eq_true', Bool.not_eq_false', Bool.not_eq_true, Bool.not_eq_false, Bool.and_eq_true, Bool.or_eq_false_iff, Bool.not_not] at hc) <;> (try (exfalso; omega)))
          | (refine g_cond rfl (fun hc => ?_) (fun hc => ?_) <;> (try simp only [decide_eq_true_eq, decide_eq_false_iff_not, Bool.not_eq_true', Bool.not_eq_false', Bool.not_eq_true, Bool.not_eq_false, Bool.and_eq_true, Bool.or_eq_false_iff, Bool.not_not] at hc) <;> (try (exfalso; omega)))
        · refine q_again (i + 1, k + 1) [0, 1, 2, 3, 4, 5, 6, 7, 8, 9] (by exact stk) ?_ ?_
          · exact ⟨by dsimp only; omega, by dsimp only; omega, by dsimp only; rw [count_snoc _ 0 i k1 (by omega), if_neg hc, k3]; simp; omega, by dsimp only; omega, by dsimp only; omega⟩
          · dsimp only; omega
        · refine q_again (i + 1, k) [0, 1, 2, 3, 4, 5, 6, 7, 8, 9] (by exact stk) ?_ ?_
          · exact ⟨by dsimp only; omega, by dsimp only; omega, by dsimp only; rw [count_snoc _ 0 i k1 (by omega), if_pos hc, k3]; simp; omega, by dsimp only; omega, by dsimp only; omega⟩
          · dsimp only; omega
        · have hk : k = marksC c := by
            rw [List.take_of_length_le (by omega), List.count_append] at k3
            unfold marksC
            omega
          subst hk
          refine g_conv (t_junkB (i := 4) (k := 0) rfl) ?_
          try dsimp only [setRow, List.map_cons, List.map_nil, scC, List.set_cons_zero, List.set_cons_succ]
          repeat (first | refine g_ret ?_ | refine q_sr ?_ | refine q_br ?_ | refine q_lr ?_ | refine q_cr ?_)
          refine ends_id ?_
          exact endK [_, _, _, _, _] (h2 := (by first | (with_reducible exact SVLe.refl) | exact SVLe.any | exact SVLe.one (.sh rfl) | exact SVLe.one (.nil (by decide)) | (refine SVLe.agg ?_; repeat (first | exact CsLe.nil | refine CsLe.cons ?_ ?_ | exact CLe.refl | exact CLe.sh rfl | exact CLe.nil (by decide) | (refine cle_i ?_; simp) | (refine cle_b ?_; simp))) | (refine SVLe.tup ?_; repeat (first | exact TLe.nil | refine TLe.cons ?_ ?_ | exact CsLe.nil | refine CsLe.cons ?_ ?_ | exact CLe.refl | exact CLe.sh rfl | exact CLe.nil (by decide) | (refine cle_i ?_; simp) | (refine cle_b ?_; simp))) | exact SVLe.refl | (refine sle_i ?_; simp) | (refine sle_b ?_; simp))) (h3 := (by repeat (first | exact trivial | refine And.intro ?_ ?_ | exact Or.inl rfl | exact Or.inr rfl | (refine Or.inr (row_eq ?_); simp) | (refine Or.inr (bx_eq rfl rfl ?_); (try dsimp only [C.ren, C.ren.all]); simp))))
    have hn : ¬ ruAt m c = noR := by assumption
    have hnb : ¬ n = b := by assumption
    have hok := hok hn
    simp only [decide_eq_false hn]
    have hx : wS m at' c hd (ruAt m c) (wC c hd x) = { x with sp := max x.sp (c.le.length + c.ri.length), sts := bump x.sts c.st, rls := bump x.rls (c.st * m.sy + c.ri.headD 0), ch := x.ch + (if (ruAt m c).w = c.ri.headD 0 then 0 else 1), tu := x.tu + (if x.la ≠ 0 ∧ (ruAt m c).m ≠ x.la then 1 else 0), la := (ruAt m c).m, crs := crsOf at' hd (ruAt m c) x.crs, le := min x.le (hd + (ruAt m c).m), gr := max x.gr (hd + (ruAt m c).m), vis := bump (visOf (hd + (ruAt m c).m) x.le x.gr x.vis) (hd + (ruAt m c).m - min x.le (hd + (ruAt m c).m)) } := by unfold wS wC; rfl
    refine cutK [0, 2, 3, 8, 9, 10, 11, 12, 14] [4] (fun y : Int => y = x.ch + (if (ruAt m c).w = c.ri.headD 0 then 0 else 1)) (fun _ => []) (fun y => [(4, wkBx m n false { x with sp := max x.sp (c.le.length + c.ri.length), ch := y, tu := x.tu, le := x.le, gr := x.gr } 0 0 1 2 3 false)]) (hc := ?_) (hk := ?_)
    · repeat' first
        | refine g_seq ?_
        | refine g_skip ?_
        | refine g_exit ?_
        | refine g_block ?_
        | refine g_reg ?_
        | refine g_if_t rfl ?_
        | refine g_if_f rfl ?_
        | refine o_nil ?_
        | refine q_s ?_
        | refine q_se ?_
        | refine q_b ?_
        | refine q_be rfl ?_
        | refine q_bn rfl ?_
        | refine q_le ?_
        | refine q_ce ?_
        | (apply p3; (first | exact a_pure (sv := .one _) rfl | exact a_pure (sv := .agg _) rfl | exact a_pure (sv := .tup _) rfl | exact a_ld_rowI rfl rfl rfl (fC rfl) bnd | exact a_add rfl rfl (by omega) (by omega)); exact rfl)
        | (apply w3; (first | exact a_st_bx rfl rfl rfl rfl (fN rfl rfl) (Nat.le_of_ble_eq_true rfl) rfl | exact a_st_rowI rfl rfl rfl rfl (fN rfl rfl) bnd | exact a_stE (E := eI) _ rfl rfl rfl rfl (fN rfl rfl) bnd (by exact rfl) | exact a_stF (E := eR) ⟨_, _, _⟩ rfl rfl rfl rfl (fN rfl rfl) (Nat.le_of_ble_eq_true rfl) (Nat.le_of_ble_eq_true rfl) (by first | exact List.getElem?_set_self bnd | exact List.getElem?_eq_getElem bnd) (by (try dsimp only [setRow, List.set_cons_succ, List.set_cons_zero]); first | done | exact rfl) rfl); exact rfl; (try dsimp only [setRow, List.map_cons, List.map_nil, scC, List.set_cons_zero, List.set_cons_succ, List.take_succ_cons, List.take_zero, List.drop_succ_cons, List.drop_zero, Nat.reduceAdd]))
        | (refine o_gs rfl rfl (fun hc => ?_) (fun hc => ?_) <;> (try simp only [decide_eq_true_eq, decide_eq_false_iff_not, Bool.not_eq_true', Bool.not_eq_false', Bool.not_eq_true, Bool.not_eq_false, Bool.and_eq_true, Bool.or_eq_false_iff, Bool.not_not] at hc) <;> (try (exfalso; omega)))
        | (refine g_cond rfl (fun hc => ?_) (fun hc => ?_) <;> (try simp only [decide_eq_true_eq, decide_eq_false_iff_not, Bool.not_eq_true', Bool.not_eq_false', Bool.not_eq_true, Bool.not_eq_false, Bool.and_eq_true, Bool.or_eq_false_iff, Bool.not_not] at hc) <;> (try (exfalso; omega)))
      · refine q_here (x.ch + 1) [0, 1, 2, 3, 4, 5, 6, 7, 8] (by exact stk) ?_
        rw [if_neg hc]
      · refine q_here x.ch [0, 1, 2, 3, 4, 5, 6, 7, 8] (by exact stk) ?_
        rw [if_pos hc, Int.add_zero]
    rintro _ rfl
    dsimp only [List.cons_append, List.nil_append] at *
    try dsimp only [wkBx]
    skip
    repeat' first
      | refine g_seq ?_
      | refine g_skip ?_
      | refine g_exit ?_
      | refine g_block ?_
      | refine g_if_t rfl ?_
      | refine g_if_f rfl ?_
      | refine o_nil ?_
      | refine q_s ?_
      | refine q_se ?_
      | refine q_b ?_
      | refine q_be rfl ?_
      | refine q_bn rfl ?_
      | refine q_le ?_
      | refine q_ce ?_
      | (refine o_gs rfl rfl (fun hc => ?_) (fun hc => ?_) <;> (try simp only [decide_eq_true_eq, decide_eq_false_iff_not, Bool.not_eq_true', Bool.not_eq_false', Bool.not_eq_true, Bool.not_eq_false, Bool.and_eq_true, Bool.or_eq_false_iff, Bool.not_not] at hc) <;> (try (exfalso; omega)))
      | (refine g_cond rfl (fun hc => ?_) (fun hc => ?_) <;> (try simp only [decide_eq_true_eq, decide_eq_false_iff_not, Bool.not_eq_true', Bool.not_eq_false', Bool.not_eq_true, Bool.not_eq_false, Bool.and_eq_true, Bool.or_eq_false_iff, Bool.not_not] at hc) <;> (try (exfalso; omega)))
    refine cutK [0, 2, 3, 8, 9, 10, 11, 12, 14] [] (fun y : Bool => y = decide (x.la ≠ 0 ∧ (ruAt m c).m ≠ x.la)) (fun y => [(116, .one (boo y))]) (fun _ => []) (hc := ?_) (hk := ?_)
    · repeat' first
        | refine g_seq ?_
        | refine g_skip ?_
        | refine g_exit ?_
        | refine g_block ?_
        | refine g_reg ?_
        | refine g_if_t rfl ?_
        | refine g_if_f rfl ?_
        | refine o_nil ?_
        | refine q_s ?_
        | refine q_se ?_
        | refine q_b ?_
        | refine q_be rfl ?_
        | refine q_bn rfl ?_
        | refine q_le ?_
        | refine q_ce ?_
        | (apply p3; (first | exact a_pure (sv := .one _) rfl | exact a_pure (sv := .agg _) rfl | exact a_pure (sv := .tup _) rfl | exact a_ne rfl rfl | exact a_neS rfl rfl rfl | exact a_ld_rowI rfl rfl rfl (fC rfl) bnd); exact rfl)
        | refine o_no rfl rfl rfl rfl ?_
        | refine o_noN rfl rfl rfl ?_
        | (apply py3; exact rfl; exact rfl; (first | exact a_pure (sv := .one _) rfl | exact a_pure (sv := .agg _) rfl | exact a_pure (sv := .tup _) rfl | exact a_ne rfl rfl | exact a_neS rfl rfl rfl | exact a_ld_rowI rfl rfl rfl (fC rfl) bnd); exact rfl; exact rfl)
        | (refine o_gs rfl rfl (fun hc => ?_) (fun hc => ?_) <;> (try simp only [decide_eq_true_eq, decide_eq_false_iff_not, Bool.not_eq_true', Bool.not_eq_false', Bool.not_eq_true, Bool.not_eq_false, Bool.and_eq_true, Bool.or_eq_false_iff, Bool.not_not] at hc) <;> (try (exfalso; omega)))
        | (refine g_cond rfl (fun hc => ?_) (fun hc => ?_) <;> (try simp only [decide_eq_true_eq, decide_eq_false_iff_not, Bool.not_eq_true', Bool.not_eq_false', Bool.not_eq_true, Bool.not_eq_false, Bool.and_eq_true, Bool.or_eq_false_iff, Bool.not_not] at hc) <;> (try (exfalso; omega)))
      all_goals
        refine q_here _ [0, 1, 2, 3, 4, 5, 6, 7, 8] (by exact stk) ?_
        simp [*] <;> omega
    rintro _ rfl
    dsimp only [List.cons_append, List.nil_append] at *
    try dsimp only [wkBx]
    skip
    repeat' first
      | refine g_seq ?_
      | refine g_skip ?_
      | refine g_exit ?_
      | refine g_block ?_
      | refine g_reg ?_
      | refine g_if_t rfl ?_
      | refine g_if_f rfl ?_
      | refine o_nil ?_
      | refine q_s ?_
      | refine q_se ?_
      | refine q_b ?_
      | refine q_be rfl ?_
      | refine q_bn rfl ?_
      | refine q_le ?_
      | refine q_ce ?_
      | (refine o_gs rfl rfl (fun hc => ?_) (fun hc => ?_) <;> (try simp only [decide_eq_true_eq, decide_eq_false_iff_not, Bool.not_eq_true', Bool.not_eq_false', Bool.not_eq_true, Bool.not_eq_false, Bool.and_eq_true, Bool.or_eq_false_iff, Bool.not_not] at hc) <;> (try (exfalso; omega)))
      | (refine g_cond (c := .tmp 77) rfl (fun hc => ?_) (fun hc => ?_) <;> (try simp only [decide_eq_true_eq, decide_eq_false_iff_not, Bool.not_eq_true', Bool.not_eq_false', Bool.not_eq_true, Bool.not_eq_false, Bool.and_eq_true, Bool.or_eq_false_iff, Bool.not_not] at hc) <;> (try (exfalso; omega)))
      | (refine g_cond (c := .tmp 99) rfl (fun hc => ?_) (fun hc => ?_) <;> (try simp only [decide_eq_true_eq, decide_eq_false_iff_not, Bool.not_eq_true', Bool.not_eq_false', Bool.not_eq_true, Bool.not_eq_false, Bool.and_eq_true, Bool.or_eq_false_iff, Bool.not_not] at hc) <;> (try (exfalso; omega)))
      | (refine g_cond (c := .tmp 146) rfl (fun hc => ?_) (fun hc => ?_) <;> (try simp only [decide_eq_true_eq, decide_eq_false_iff_not, Bool.not_eq_true', Bool.not_eq_false', Bool.not_eq_true, Bool.not_eq_false, Bool.and_eq_true, Bool.or_eq_false_iff, Bool.not_not] at hc) <;> (try (exfalso; omega)))
      | (refine g_cond (c := .tmp 168) rfl (fun hc => ?_) (fun hc => ?_) <;> (try simp only [decide_eq_true_eq, decide_eq_false_iff_not, Bool.not_eq_true', Bool.not_eq_false', Bool.not_eq_true, Bool.not_eq_false, Bool.and_eq_true, Bool.or_eq_false_iff, Bool.not_not] at hc) <;> (try (exfalso; omega)))
      | (refine g_cond (c := .tmp 189) rfl (fun hc => ?_) (fun hc => ?_) <;> (try simp only [decide_eq_true_eq, decide_eq_false_iff_not, Bool.not_eq_true', Bool.not_eq_false', Bool.not_eq_true, Bool.not_eq_false, Bool.and_eq_true, Bool.or_eq_false_iff, Bool.not_not] at hc) <;> (try (exfalso; omega)))
      | (refine g_cond (c := .tmp 225) rfl (fun hc => ?_) (fun hc => ?_) <;> (try simp only [decide_eq_true_eq, decide_eq_false_iff_not, Bool.not_eq_true', Bool.not_eq_false', Bool.not_eq_true, Bool.not_eq_false, Bool.and_eq_true, Bool.or_eq_false_iff, Bool.not_not] at hc) <;> (try (exfalso; omega)))
      | (refine g_cond (c := .tmp 249) rfl (fun hc => ?_) (fun hc => ?_) <;> (try simp only [decide_eq_true_eq, decide_eq_false_iff_not, Bool.not_eq_true', Bool.not_eq_false', Bool.not_eq_true, Bool.not_eq_false, Bool.and_eq_true, Bool.or_eq_false_iff, Bool.not_not] at hc) <;> (try (exfalso; omega)))
      | (refine g_cond (c := .tmp 256) rfl (fun hc => ?_) (fun hc => ?_) <;> (try simp only [decide_eq_true_eq, decide_eq_false_iff_not, Bool.not_eq_true', Bool.not_eq_false', Bool.not_eq_true, Bool.not_eq_false, Bool.and_eq_true, Bool.or_eq_false_iff, Bool.not_not] at hc) <;> (try (exfalso; omega)))
    refine cutK [0, 2, 3, 8, 9, 10, 11, 12, 14] [4] (fun y : Int => y = x.tu + (if x.la ≠ 0 ∧ (ruAt m c).m ≠ x.la then 1 else 0)) (fun _ => []) (fun y => [(4, wkBx m n false { x with sp := max x.sp (c.le.length + c.ri.length), ch := x.ch + (if (ruAt m c).w = c.ri.headD 0 then 0 else 1), tu := y, le := x.le, gr := x.gr } 0 0 1 2 3 false)]) (hc := ?_) (hk := ?_)
    · repeat' first
        | refine g_seq ?_
        | refine g_skip ?_
        | refine g_exit ?_
        | refine g_block ?_
        | refine g_reg ?_
        | refine g_if_t rfl ?_
        | refine g_if_f rfl ?_
        | refine o_nil ?_
        | refine q_s ?_
        | refine q_se ?_
        | refine q_b ?_
        | refine q_be rfl ?_
        | refine q_bn rfl ?_
        | refine q_le ?_
        | refine q_ce ?_
        | (apply p3; (first | exact a_pure (sv := .one _) rfl | exact a_pure (sv := .agg _) rfl | exact a_pure (sv := .tup _) rfl | exact a_ld_rowI rfl rfl rfl (fC rfl) bnd | exact a_add rfl rfl (by omega) (by omega)); exact rfl)
        | (apply w3; (first | exact a_st_bx rfl rfl rfl rfl (fN rfl rfl) (Nat.le_of_ble_eq_true rfl) rfl | exact a_st_rowI rfl rfl rfl rfl (fN rfl rfl) bnd | exact a_stE (E := eI) _ rfl rfl rfl rfl (fN rfl rfl) bnd (by exact rfl) | exact a_stF (E := eR) ⟨_, _, _⟩ rfl rfl rfl rfl (fN rfl rfl) (Nat.le_of_ble_eq_true rfl) (Nat.le_of_ble_eq_true rfl) (by first | exact List.getElem?_set_self bnd | exact List.getElem?_eq_getElem bnd) (by (try dsimp only [setRow, List.set_cons_succ, List.set_cons_zero]); first | done | exact rfl) rfl); exact rfl; (try dsimp only [setRow, List.map_cons, List.map_nil, scC, List.set_cons_zero, List.set_cons_succ, List.take_succ_cons, List.take_zero, List.drop_succ_cons, List.drop_zero, Nat.reduceAdd]))
        | (refine o_gs rfl rfl (fun hc => ?_) (fun hc => ?_) <;> (try simp only [decide_eq_true_eq, decide_eq_false_iff_not, Bool.not_eq_true', Bool.not_eq_false', Bool.not_eq_true, Bool.not_eq_false, Bool.and_eq_true, Bool.or_eq_false_iff, Bool.not_not] at hc) <;> (try (exfalso; omega)))
        | (refine g_cond rfl (fun hc => ?_) (fun hc => ?_) <;> (try simp only [decide_eq_true_eq, decide_eq_false_iff_not, Bool.not_eq_true', Bool.not_eq_false', Bool.not_eq_true, Bool.not_eq_false, Bool.and_eq_true, Bool.or_eq_false_iff, Bool.not_not] at hc) <;> (try (exfalso; omega)))
      · refine q_here (x.tu + 1) [0, 1, 2, 3, 4, 5, 6, 7, 8] (by exact stk) ?_
        rw [if_pos hc]
      · refine q_here x.tu [0, 1, 2, 3, 4, 5, 6, 7, 8] (by exact stk) ?_
        rw [if_neg hc, Int.add_zero]
    rintro _ rfl
    dsimp only [List.cons_append, List.nil_append] at *
    try dsimp only [wkBx]
    skip
    repeat' first
      | refine g_seq ?_
      | refine g_skip ?_
      | refine g_exit ?_
      | refine g_block ?_
      | refine g_reg (id := 16) ?_
      | refine g_if_t rfl ?_
      | refine g_if_f rfl ?_
      | refine o_nil ?_
      | refine q_s ?_
      | refine q_se ?_
      | refine q_b ?_
      | refine q_be rfl ?_
      | refine q_bn rfl ?_
      | refine q_le ?_
      | refine q_ce ?_
      | (apply p3; (first | exact a_pure (sv := .one _) rfl | exact a_pure (sv := .agg _) rfl | exact a_ld_rowI rfl rfl rfl (fC rfl) bnd | exact a_pure (sv := .tup _) rfl); exact rfl)
      | (refine o_gs rfl rfl (fun hc => ?_) (fun hc => ?_) <;> (try simp only [decide_eq_true_eq, decide_eq_false_iff_not, Bool.not_eq_true', Bool.not_eq_false', Bool.not_eq_true, Bool.not_eq_false, Bool.and_eq_true, Bool.or_eq_false_iff, Bool.not_not] at hc) <;> (try (exfalso; omega)))
      | (refine g_cond rfl (fun hc => ?_) (fun hc => ?_) <;> (try simp only [decide_eq_true_eq, decide_eq_false_iff_not, Bool.not_eq_true', Bool.not_eq_false', Bool.not_eq_true, Bool.not_eq_false, Bool.and_eq_true, Bool.or_eq_false_iff, Bool.not_not] at hc) <;> (try (exfalso; omega)))
    refine cutK [0, 2, 3, 8, 9, 10, 11, 12, 14] [] (fun y : Bool => y = decide ((ruAt m c).m = 1 ∧ hd + 1 = at' ∨ (ruAt m c).m = -1 ∧ hd = at')) (fun y => [(146, .one (boo y))]) (fun _ => []) (hc := ?_) (hk := ?_)
    · repeat' first
        | refine g_seq ?_
        | refine g_skip ?_
        | refine g_exit ?_
        | refine g_block ?_
        | refine g_reg ?_
        | refine g_if_t rfl ?_
        | refine g_if_f rfl ?_
        | refine o_nil ?_
        | refine q_s ?_
        | refine q_se ?_
        | refine q_b ?_
        | refine q_be rfl ?_
        | refine q_bn rfl ?_
        | refine q_le ?_
        | refine q_ce ?_
        | (apply p3; (first | exact a_pure (sv := .one _) rfl | exact a_pure (sv := .agg _) rfl | exact a_ld_rowI rfl rfl rfl (fC rfl) bnd | exact a_cmp rfl rfl rfl trivial rfl | exact a_eqS rfl rfl rfl | exact a_pure (sv := .tup _) rfl | exact a_add rfl rfl (by omega) (by omega)); exact rfl)
        | refine o_no rfl rfl rfl rfl ?_
        | refine o_noN rfl rfl rfl ?_
        | (apply py3; exact rfl; exact rfl; (first | exact a_pure (sv := .one _) rfl | exact a_pure (sv := .agg _) rfl | exact a_ld_rowI rfl rfl rfl (fC rfl) bnd | exact a_cmp rfl rfl rfl trivial rfl | exact a_eqS rfl rfl rfl | exact a_pure (sv := .tup _) rfl | exact a_add rfl rfl (by omega) (by omega)); exact rfl; exact rfl)
        | (refine o_gs rfl rfl (fun hc => ?_) (fun hc => ?_) <;> (try simp only [decide_eq_true_eq, decide_eq_false_iff_not, Bool.not_eq_true', Bool.not_eq_false', Bool.not_eq_true, Bool.not_eq_false, Bool.and_eq_true, Bool.or_eq_false_iff, Bool.not_not] at hc) <;> (try (exfalso; omega)))
        | (refine g_cond rfl (fun hc => ?_) (fun hc => ?_) <;> (try simp only [decide_eq_true_eq, decide_eq_false_iff_not, Bool.not_eq_true', Bool.not_eq_false', Bool.not_eq_true, Bool.not_eq_false, Bool.and_eq_true, Bool.or_eq_false_iff, Bool.not_not] at hc) <;> (try (exfalso; omega)))
      all_goals
        refine q_here _ [0, 1, 2, 3, 4, 5, 6, 7, 8] (by exact stk) ?_
        simp [*] <;> omega
    rintro _ rfl
    dsimp only [List.cons_append, List.nil_append] at *
    try dsimp only [wkBx]
    skip
    repeat' first
      | refine g_seq ?_
      | refine g_skip ?_
      | refine g_exit ?_
      | refine g_block ?_
      | refine g_reg ?_
      | refine g_if_t rfl ?_
      | refine g_if_f rfl ?_
      | refine o_nil ?_
      | refine q_s ?_
      | refine q_se ?_
      | refine q_b ?_
      | refine q_be rfl ?_
      | refine q_bn rfl ?_
      | refine q_le ?_
      | refine q_ce ?_
      | (refine o_gs rfl rfl (fun hc => ?_) (fun hc => ?_) <;> (try simp only [decide_eq_true_eq, decide_eq_false_iff_not, Bool.not_eq_true', Bool.not_eq_false', Bool.not_eq_true, Bool.not_eq_false, Bool.and_eq_true, Bool.or_eq_false_iff, Bool.not_not] at hc) <;> (try (exfalso; omega)))
      | (refine g_cond (c := .tmp 77) rfl (fun hc => ?_) (fun hc => ?_) <;> (try simp only [decide_eq_true_eq, decide_eq_false_iff_not, Bool.not_eq_true', Bool.not_eq_false', Bool.not_eq_true, Bool.not_eq_false, Bool.and_eq_true, Bool.or_eq_false_iff, Bool.not_not] at hc) <;> (try (exfalso; omega)))
      | (refine g_cond (c := .tmp 99) rfl (fun hc => ?_) (fun hc => ?_) <;> (try simp only [decide_eq_true_eq, decide_eq_false_iff_not, Bool.not_eq_true', Bool.not_eq_false', Bool.not_eq_true, Bool.not_eq_false, Bool.and_eq_true, Bool.or_eq_false_iff, Bool.not_not] at hc) <;> (try (exfalso; omega)))
      | (refine g_cond (c := .tmp 116) rfl (fun hc => ?_) (fun hc => ?_) <;> (try simp only [decide_eq_true_eq, decide_eq_false_iff_not, Bool.not_eq_true', Bool.not_eq_false', Bool.not_eq_true, Bool.not_eq_false, Bool.and_eq_true, Bool.or_eq_false_iff, Bool.not_not] at hc) <;> (try (exfalso; omega)))
      | (refine g_cond (c := .tmp 168) rfl (fun hc => ?_) (fun hc => ?_) <;> (try simp only [decide_eq_true_eq, decide_eq_false_iff_not, Bool.not_eq_true', Bool.not_eq_false', Bool.not_eq_true, Bool.not_eq_false, Bool.and_eq_true, Bool.or_eq_false_iff, Bool.not_not] at hc) <;> (try (exfalso; omega)))
      | (refine g_cond (c := .tmp 189) rfl (fun hc => ?_) (fun hc => ?_) <;> (try simp only [decide_eq_true_eq, decide_eq_false_iff_not, Bool.not_eq_true', Bool.not_eq_false', Bool.not_eq_true, Bool.not_eq_false, Bool.and_eq_true, Bool.or_eq_false_iff, Bool.not_not] at hc) <;> (try (exfalso; omega)))
      | (refine g_cond (c := .tmp 225) rfl (fun hc => ?_) (fun hc => ?_) <;> (try simp only [decide_eq_true_eq, decide_eq_false_iff_not, Bool.not_eq_true', Bool.not_eq_false', Bool.not_eq_true, Bool.not_eq_false, Bool.and_eq_true, Bool.or_eq_false_iff, Bool.not_not] at hc) <;> (try (exfalso; omega)))
      | (refine g_cond (c := .tmp 249) rfl (fun hc => ?_) (fun hc => ?_) <;> (try simp only [decide_eq_true_eq, decide_eq_false_iff_not, Bool.not_eq_true', Bool.not_eq_false', Bool.not_eq_true, Bool.not_eq_false, Bool.and_eq_true, Bool.or_eq_false_iff, Bool.not_not] at hc) <;> (try (exfalso; omega)))
      | (refine g_cond (c := .tmp 256) rfl (fun hc => ?_) (fun hc => ?_) <;> (try simp only [decide_eq_true_eq, decide_eq_false_iff_not, Bool.not_eq_true', Bool.not_eq_false', Bool.not_eq_true, Bool.not_eq_false, Bool.and_eq_true, Bool.or_eq_false_iff, Bool.not_not] at hc) <;> (try (exfalso; omega)))
    refine cutK [0, 2, 3, 8, 9, 10, 11, 12, 14] [3, 4] (fun y : List Int => y = crsOf at' hd (ruAt m c) x.crs) (fun _ => []) (fun y => [(3, roI y), (4, wkBx m n false { x with sp := max x.sp (c.le.length + c.ri.length), ch := x.ch + (if (ruAt m c).w = c.ri.headD 0 then 0 else 1), tu := x.tu + (if x.la ≠ 0 ∧ (ruAt m c).m ≠ x.la then 1 else 0), le := x.le, gr := x.gr } 0 0 1 2 3 false)]) (hc := ?_) (hk := ?_)
    · repeat' first
        | refine g_seq ?_
        | refine g_skip ?_
        | refine g_exit ?_
        | refine g_block ?_
        | refine g_reg ?_
        | refine g_if_t rfl ?_
        | refine g_if_f rfl ?_
        | refine o_nil ?_
        | refine q_s ?_
        | refine q_se ?_
        | refine q_b ?_
        | refine q_be rfl ?_
        | refine q_bn rfl ?_
        | refine q_le ?_
        | refine q_ce ?_
        | (apply g_drN okM [[], [], [1], [1, 2], [1, 2, 3], [], [5], [5, 6], [1, 2, 3, 4, 5, 6, 7], [0, 1, 2, 3, 4, 5, 6, 7, 8], [0, 1, 2, 3, 4, 5, 6, 7, 8, 9], [0, 1, 2, 3, 4, 5, 6, 7, 8, 9, 10]] [([], []), ([], []), ([], []), ([], []), ([], []), ([], []), ([], []), ([0], []), ([1], [3]), ([], []), ([], []), ([], [4])] 2; (focus (all_goals (apply d_pN (i := 0) (fs := []) (u := [148, 149, 150, 151, 152, 153, 154, 155]) (o := [(true, 0), (true, 1), (false, 3)]); (first | exact a_pure (sv := .one _) rfl | exact a_pure (sv := .agg _) rfl | exact a_pure (sv := .tup _) rfl); exact rfl; kernel_rfl; kernel_rfl; kernel_rfl; exact rfl; exact rfl); all_goals (apply d_pN (i := 1) (fs := [false]) (u := [147, 152, 153, 154]) (o := [(true, 0)]); (first | exact a_pure (sv := .one _) rfl | exact a_pure (sv := .agg _) rfl | exact a_pure (sv := .tup _) rfl); exact rfl; kernel_rfl; kernel_rfl; kernel_rfl; exact rfl; exact rfl); all_goals (apply d_pN (i := 2) (fs := [true, false]) (u := [147, 152, 153, 154]) (o := [(true, 0)]); (first | exact a_pure (sv := .one _) rfl); exact rfl; kernel_rfl; kernel_rfl; kernel_rfl; exact rfl; exact rfl); all_goals (apply d_pN (i := 3) (fs := [true, true, false]) (u := [147, 152, 153, 154]) (o := [(true, 0)]); (first | exact a_pure (sv := .one _) rfl); exact rfl; kernel_rfl; kernel_rfl; kernel_rfl; exact rfl; exact rfl); all_goals (apply d_pN (i := 4) (fs := [true, true, true, false]) (u := [147, 152, 153, 154]) (o := [(true, 0)]); (first | exact a_pure (sv := .one _) rfl | exact a_pure (sv := .agg _) rfl | exact a_ld_rowI rfl rfl rfl (fC rfl) bnd); exact rfl; kernel_rfl; kernel_rfl; kernel_rfl; exact rfl; exact rfl); all_goals (apply d_pN (i := 5) (fs := [false, false, false, false, false]) (u := [147, 148, 149, 150, 151]) (o := []); (first | exact a_pure (sv := .one _) rfl); exact rfl; kernel_rfl; kernel_rfl; kernel_rfl; exact rfl; exact rfl); all_goals (apply d_pN (i := 6) (fs := [true, false, false, false, false, false]) (u := [147, 148, 149, 150, 151]) (o := []); (first | exact a_pure (sv := .one _) rfl | exact a_pure (sv := .agg _) rfl | exact a_ld_rowI rfl rfl rfl (fC rfl) bnd); exact rfl; kernel_rfl; kernel_rfl; kernel_rfl; exact rfl; exact rfl); all_goals (apply d_uE (i := 7) (fs := [true, true, false, false, false, false, false]) (u := [147, 148, 149, 150, 151]) (o := []); (first | exact atN 0 (fun _ => a_litE eI [_] rfl rfl rfl rfl rfl rfl rfl rfl)); exact rfl; kernel_rfl; kernel_rfl; kernel_rfl; exact dst_some rfl; exact rfl; exact rfl); all_goals (apply d_uE (i := 8) (fs := [true, true, true, true, true, true, true, false]) (u := [147]) (o := []); (first | exact atS 1 (fun _ hj => a_appE (fP rfl) rfl rfl rfl rfl nowR (by first | omega | (simp; omega)) (by decide) hj (by exact rfl)) (by decide)); exact rfl; kernel_rfl; kernel_rfl; kernel_rfl; exact dst_some rfl; exact rfl; exact rfl); all_goals (apply d_pN (i := 9) (fs := [true, true, true, true, true, true, true, true, true]) (u := []) (o := []); (first | exact a_pure (sv := .one _) rfl); exact rfl; kernel_rfl; kernel_rfl; kernel_rfl; exact rfl; exact rfl); all_goals (apply d_pN (i := 10) (fs := [true, true, true, true, true, true, true, true, true, true]) (u := []) (o := []); (first | exact a_pure (sv := .one _) rfl); exact rfl; kernel_rfl; kernel_rfl; kernel_rfl; exact rfl; exact rfl); all_goals (apply d_uE (i := 11) (fs := [true, true, true, true, true, true, true, true, true, true, true]) (u := []) (o := []); (first | exact a_st_bx rfl rfl rfl rfl (fN rfl rfl) (Nat.le_of_ble_eq_true rfl) rfl | exact a_stF (E := eR) ⟨_, _, _⟩ rfl rfl rfl rfl (fN rfl rfl) (Nat.le_of_ble_eq_true rfl) (Nat.le_of_ble_eq_true rfl) (by first | exact List.getElem?_set_self bnd | exact List.getElem?_eq_getElem bnd) (by (try dsimp only [setRow, List.set_cons_succ, List.set_cons_zero]); first | done | exact rfl) rfl); exact rfl; kernel_rfl; kernel_rfl; kernel_rfl; exact dst_none; exact rfl; exact rfl); all_goals (refine d_nil ?_; dsimp only [selT, selH, trues, SV.ren, C.ren, C.ren.all, tRen, GB.ren, calF, upOf, List.cons_append, List.nil_append, Nat.reduceAdd, setRow, List.map_cons, List.map_nil, scC, List.set_cons_zero, List.set_cons_succ, List.take_succ_cons, List.take_zero, List.drop_succ_cons, List.drop_zero]))); any_goals kernel_rfl)
        | (refine o_gs rfl rfl (fun hc => ?_) (fun hc => ?_) <;> (try simp only [decide_eq_true_eq, decide_eq_false_iff_not, Bool.not_eq_true', Bool.not_eq_false', Bool.not_eq_true, Bool.not_eq_false, Bool.and_eq_true, Bool.or_eq_false_iff, Bool.not_not] at hc) <;> (try (exfalso; omega)))
        | (refine g_cond rfl (fun hc => ?_) (fun hc => ?_) <;> (try simp only [decide_eq_true_eq, decide_eq_false_iff_not, Bool.not_eq_true', Bool.not_eq_false', Bool.not_eq_true, Bool.not_eq_false, Bool.and_eq_true, Bool.or_eq_false_iff, Bool.not_not] at hc) <;> (try (exfalso; omega)))
      · refine q_here (x.crs ++ [(ruAt m c).n]) [0, 1, 2, 10, 4, 5, 6, 7, 8] (by exact stk) ?_
        unfold crsOf; rw [if_pos hc]
      · refine q_here x.crs [0, 1, 2, 3, 4, 5, 6, 7, 8] (by exact stk) ?_
        unfold crsOf; rw [if_neg hc]
    rintro _ rfl
    dsimp only [List.cons_append, List.nil_append] at *
    try dsimp only [wkBx]
    skip
    repeat' first
      | refine g_seq ?_
      | refine g_skip ?_
      | refine g_exit ?_
      | refine g_block ?_
      | refine g_reg ?_
      | refine g_if_t rfl ?_
      | refine g_if_f rfl ?_
      | refine o_nil ?_
      | refine q_s ?_
      | refine q_se ?_
      | refine q_b ?_
      | refine q_be rfl ?_
      | refine q_bn rfl ?_
      | refine q_le ?_
      | refine q_ce ?_
      | (apply p3; (first | exact a_pure (sv := .one _) rfl | exact a_pure (sv := .agg _) rfl | exact a_pure (sv := .tup _) rfl | exact a_ld_rowI rfl rfl rfl (fC rfl) bnd | exact a_add rfl rfl (by omega) (by omega) | exact a_cmp rfl rfl rfl trivial rfl); exact rfl)
      | (refine o_gs rfl rfl (fun hc => ?_) (fun hc => ?_) <;> (try simp only [decide_eq_true_eq, decide_eq_false_iff_not, Bool.not_eq_true', Bool.not_eq_false', Bool.not_eq_true, Bool.not_eq_false, Bool.and_eq_true, Bool.or_eq_false_iff, Bool.not_not] at hc) <;> (try (exfalso; omega)))
      | (refine g_cond (c := .tmp 77) rfl (fun hc => ?_) (fun hc => ?_) <;> (try simp only [decide_eq_true_eq, decide_eq_false_iff_not, Bool.not_eq_true', Bool.not_eq_false', Bool.not_eq_true, Bool.not_eq_false, Bool.and_eq_true, Bool.or_eq_false_iff, Bool.not_not] at hc) <;> (try (exfalso; omega)))
      | (refine g_cond (c := .tmp 99) rfl (fun hc => ?_) (fun hc => ?_) <;> (try simp only [decide_eq_true_eq, decide_eq_false_iff_not, Bool.not_eq_true', Bool.not_eq_false', Bool.not_eq_true, Bool.not_eq_false, Bool.and_eq_true, Bool.or_eq_false_iff, Bool.not_not] at hc) <;> (try (exfalso; omega)))
      | (refine g_cond (c := .tmp 116) rfl (fun hc => ?_) (fun hc => ?_) <;> (try simp only [decide_eq_true_eq, decide_eq_false_iff_not, Bool.not_eq_true', Bool.not_eq_false', Bool.not_eq_true, Bool.not_eq_false, Bool.and_eq_true, Bool.or_eq_false_iff, Bool.not_not] at hc) <;> (try (exfalso; omega)))
      | (refine g_cond (c := .tmp 146) rfl (fun hc => ?_) (fun hc => ?_) <;> (try simp only [decide_eq_true_eq, decide_eq_false_iff_not, Bool.not_eq_true', Bool.not_eq_false', Bool.not_eq_true, Bool.not_eq_false, Bool.and_eq_true, Bool.or_eq_false_iff, Bool.not_not] at hc) <;> (try (exfalso; omega)))
      | (refine g_cond (c := .tmp 189) rfl (fun hc => ?_) (fun hc => ?_) <;> (try simp only [decide_eq_true_eq, decide_eq_false_iff_not, Bool.not_eq_true', Bool.not_eq_false', Bool.not_eq_true, Bool.not_eq_false, Bool.and_eq_true, Bool.or_eq_false_iff, Bool.not_not] at hc) <;> (try (exfalso; omega)))
      | (refine g_cond (c := .tmp 225) rfl (fun hc => ?_) (fun hc => ?_) <;> (try simp only [decide_eq_true_eq, decide_eq_false_iff_not, Bool.not_eq_true', Bool.not_eq_false', Bool.not_eq_true, Bool.not_eq_false, Bool.and_eq_true, Bool.or_eq_false_iff, Bool.not_not] at hc) <;> (try (exfalso; omega)))
      | (refine g_cond (c := .tmp 249) rfl (fun hc => ?_) (fun hc => ?_) <;> (try simp only [decide_eq_true_eq, decide_eq_false_iff_not, Bool.not_eq_true', Bool.not_eq_false', Bool.not_eq_true, Bool.not_eq_false, Bool.and_eq_true, Bool.or_eq_false_iff, Bool.not_not] at hc) <;> (try (exfalso; omega)))
      | (refine g_cond (c := .tmp 256) rfl (fun hc => ?_) (fun hc => ?_) <;> (try simp only [decide_eq_true_eq, decide_eq_false_iff_not, Bool.not_eq_true', Bool.not_eq_false', Bool.not_eq_true, Bool.not_eq_false, Bool.and_eq_true, Bool.or_eq_false_iff, Bool.not_not] at hc) <;> (try (exfalso; omega)))
    refine cutK [0, 2, 3, 8, 9, 10, 11, 12] [0, 4] (fun y : Int × List Int => y.1 = min x.le (hd + (ruAt m c).m) ∧ y.2 = if hd + (ruAt m c).m < x.le then 0 :: x.vis else x.vis) (fun _ => []) (fun y => [(0, roI y.2), (4, wkBx m n false { x with sp := max x.sp (c.le.length + c.ri.length), ch := x.ch + (if (ruAt m c).w = c.ri.headD 0 then 0 else 1), tu := x.tu + (if x.la ≠ 0 ∧ (ruAt m c).m ≠ x.la then 1 else 0), le := y.1, gr := x.gr } 0 0 1 2 3 false)]) (hc := ?_) (hk := ?_)
    · repeat' first
        | refine g_seq ?_
        | refine g_skip ?_
        | refine g_exit ?_
        | refine g_block ?_
        | refine g_reg ?_
        | refine g_if_t rfl ?_
        | refine g_if_f rfl ?_
        | refine o_nil ?_
        | refine q_s ?_
        | refine q_se ?_
        | refine q_b ?_
        | refine q_be rfl ?_
        | refine q_bn rfl ?_
        | refine q_le ?_
        | refine q_ce ?_
        | (apply n3; (first | exact a_litE eI [_] rfl rfl rfl rfl rfl rfl rfl rfl | exact a_appN (fP rfl) rfl rfl rfl nowR (by first | omega | (simp; omega)) (by decide) (by exact rfl)); exact rfl; (try dsimp only [List.map_cons, List.map_nil, scC, Nat.reduceAdd]))
        | (apply p3; (first | exact a_pure (sv := .one _) rfl | exact a_pure (sv := .agg _) rfl | exact a_pure (sv := .tup _) rfl | exact a_ld_rowI rfl rfl rfl (fC rfl) bnd); exact rfl)
        | (apply s3; (first | exact a_appE (fP rfl) rfl rfl rfl rfl nowR (by first | omega | (simp; omega)) (by decide) (by decide) (by exact rfl)); exact rfl; exact rfl)
        | (apply w3; (first | exact a_st_bx rfl rfl rfl rfl (fN rfl rfl) (Nat.le_of_ble_eq_true rfl) rfl | exact a_st_rowI rfl rfl rfl rfl (fN rfl rfl) bnd | exact a_stE (E := eI) _ rfl rfl rfl rfl (fN rfl rfl) bnd (by exact rfl) | exact a_stF (E := eR) ⟨_, _, _⟩ rfl rfl rfl rfl (fN rfl rfl) (Nat.le_of_ble_eq_true rfl) (Nat.le_of_ble_eq_true rfl) (by first | exact List.getElem?_set_self bnd | exact List.getElem?_eq_getElem bnd) (by (try dsimp only [setRow, List.set_cons_succ, List.set_cons_zero]); first | done | exact rfl) rfl); exact rfl; (try dsimp only [setRow, List.map_cons, List.map_nil, scC, List.set_cons_zero, List.set_cons_succ, List.take_succ_cons, List.take_zero, List.drop_succ_cons, List.drop_zero, Nat.reduceAdd]))
        | (refine o_gs rfl rfl (fun hc => ?_) (fun hc => ?_) <;> (try simp only [decide_eq_true_eq, decide_eq_false_iff_not, Bool.not_eq_true', Bool.not_eq_false', Bool.not_eq_true, Bool.not_eq_false, Bool.and_eq_true, Bool.or_eq_false_iff, Bool.not_not] at hc) <;> (try (exfalso; omega)))
        | (refine g_cond rfl (fun hc => ?_) (fun hc => ?_) <;> (try simp only [decide_eq_true_eq, decide_eq_false_iff_not, Bool.not_eq_true', Bool.not_eq_false', Bool.not_eq_true, Bool.not_eq_false, Bool.and_eq_true, Bool.or_eq_false_iff, Bool.not_not] at hc) <;> (try (exfalso; omega)))
      · refine q_here (hd + (ruAt m c).m, 0 :: x.vis) [10, 1, 2, 3, 4, 5, 6, 7, 8] (by exact stk) ?_
        exact ⟨by dsimp only; omega, by rw [if_pos hc]⟩
      · refine q_here (x.le, x.vis) [0, 1, 2, 3, 4, 5, 6, 7, 8] (by exact stk) ?_
        exact ⟨by dsimp only; omega, by rw [if_neg hc]⟩
    have hvl := visOf_len (cell := hd + (ruAt m c).m) (le := x.le) (gr := x.gr) (l := x.vis) (by omega) (by omega) (by omega) j7
    rintro ⟨_, y⟩ ⟨rfl, hy⟩
    dsimp only [List.cons_append, List.nil_append] at *
    try dsimp only [wkBx]
    skip
    repeat' first
      | refine g_seq ?_
      | refine g_skip ?_
      | refine g_exit ?_
      | refine g_block ?_
      | refine g_reg ?_
      | refine g_if_t rfl ?_
      | refine g_if_f rfl ?_
      | refine o_nil ?_
      | refine q_s ?_
      | refine q_se ?_
      | refine q_b ?_
      | refine q_be rfl ?_
      | refine q_bn rfl ?_
      | refine q_le ?_
      | refine q_ce ?_
      | (apply p3; (first | exact a_pure (sv := .one _) rfl | exact a_pure (sv := .agg _) rfl | exact a_pure (sv := .tup _) rfl | exact a_ld_rowI rfl rfl rfl (fC rfl) bnd | exact a_cmp rfl rfl rfl trivial rfl); exact rfl)
      | (refine o_gs rfl rfl (fun hc => ?_) (fun hc => ?_) <;> (try simp only [decide_eq_true_eq, decide_eq_false_iff_not, Bool.not_eq_true', Bool.not_eq_false', Bool.not_eq_true, Bool.not_eq_false, Bool.and_eq_true, Bool.or_eq_false_iff, Bool.not_not] at hc) <;> (try (exfalso; omega)))
      | (refine g_cond (c := .tmp 77) rfl (fun hc => ?_) (fun hc => ?_) <;> (try simp only [decide_eq_true_eq, decide_eq_false_iff_not, Bool.not_eq_true', Bool.not_eq_false', Bool.not_eq_true, Bool.not_eq_false, Bool.and_eq_true, Bool.or_eq_false_iff, Bool.not_not] at hc) <;> (try (exfalso; omega)))
      | (refine g_cond (c := .tmp 99) rfl (fun hc => ?_) (fun hc => ?_) <;> (try simp only [decide_eq_true_eq, decide_eq_false_iff_not, Bool.not_eq_true', Bool.not_eq_false', Bool.not_eq_true, Bool.not_eq_false, Bool.and_eq_true, Bool.or_eq_false_iff, Bool.not_not] at hc) <;> (try (exfalso; omega)))
      | (refine g_cond (c := .tmp 116) rfl (fun hc => ?_) (fun hc => ?_) <;> (try simp only [decide_eq_true_eq, decide_eq_false_iff_not, Bool.not_eq_true', Bool.not_eq_false', Bool.not_eq_true, Bool.not_eq_false, Bool.and_eq_true, Bool.or_eq_false_iff, Bool.not_not] at hc) <;> (try (exfalso; omega)))
      | (refine g_cond (c := .tmp 146) rfl (fun hc => ?_) (fun hc => ?_) <;> (try simp only [decide_eq_true_eq, decide_eq_false_iff_not, Bool.not_eq_true', Bool.not_eq_false', Bool.not_eq_true, Bool.not_eq_false, Bool.and_eq_true, Bool.or_eq_false_iff, Bool.not_not] at hc) <;> (try (exfalso; omega)))
      | (refine g_cond (c := .tmp 168) rfl (fun hc => ?_) (fun hc => ?_) <;> (try simp only [decide_eq_true_eq, decide_eq_false_iff_not, Bool.not_eq_true', Bool.not_eq_false', Bool.not_eq_true, Bool.not_eq_false, Bool.and_eq_true, Bool.or_eq_false_iff, Bool.not_not] at hc) <;> (try (exfalso; omega)))
      | (refine g_cond (c := .tmp 225) rfl (fun hc => ?_) (fun hc => ?_) <;> (try simp only [decide_eq_true_eq, decide_eq_false_iff_not, Bool.not_eq_true', Bool.not_eq_false', Bool.not_eq_true, Bool.not_eq_false, Bool.and_eq_true, Bool.or_eq_false_iff, Bool.not_not] at hc) <;> (try (exfalso; omega)))
      | (refine g_cond (c := .tmp 249) rfl (fun hc => ?_) (fun hc => ?_) <;> (try simp only [decide_eq_true_eq, decide_eq_false_iff_not, Bool.not_eq_true', Bool.not_eq_false', Bool.not_eq_true, Bool.not_eq_false, Bool.and_eq_true, Bool.or_eq_false_iff, Bool.not_not] at hc) <;> (try (exfalso; omega)))
      | (refine g_cond (c := .tmp 256) rfl (fun hc => ?_) (fun hc => ?_) <;> (try simp only [decide_eq_true_eq, decide_eq_false_iff_not, Bool.not_eq_true', Bool.not_eq_false', Bool.not_eq_true, Bool.not_eq_false, Bool.and_eq_true, Bool.or_eq_false_iff, Bool.not_not] at hc) <;> (try (exfalso; omega)))
    try dsimp only at hy
    have hyl : (y.length : Int) ≤ x.vis.length + 1 := by rw [hy]; split <;> first | (simp only [List.length_cons]; omega) | omega
    refine cutK [0, 2, 3, 8, 9, 10, 11, 12] [0, 4] (fun z : Int × List Int => z.1 = max x.gr (hd + (ruAt m c).m) ∧ z.2 = visOf (hd + (ruAt m c).m) x.le x.gr x.vis) (fun _ => []) (fun z => [(0, roI z.2), (4, wkBx m n false { x with sp := max x.sp (c.le.length + c.ri.length), ch := x.ch + (if (ruAt m c).w = c.ri.headD 0 then 0 else 1), tu := x.tu + (if x.la ≠ 0 ∧ (ruAt m c).m ≠ x.la then 1 else 0), le := min x.le (hd + (ruAt m c).m), gr := z.1 } 0 0 1 2 3 false)]) (hc := ?_) (hk := ?_)
    · repeat' first
        | refine g_seq ?_
        | refine g_skip ?_
        | refine g_exit ?_
        | refine g_block ?_
        | refine g_reg ?_
        | refine g_if_t rfl ?_
        | refine g_if_f rfl ?_
        | refine o_nil ?_
        | refine q_s ?_
        | refine q_se ?_
        | refine q_b ?_
        | refine q_be rfl ?_
        | refine q_bn rfl ?_
        | refine q_le ?_
        | refine q_ce ?_
        | (apply n3; (first | exact a_litE eI [_] rfl rfl rfl rfl rfl rfl rfl rfl | exact a_appN (fP rfl) rfl rfl rfl nowR (by first | omega | (simp; omega)) (by decide) (by exact rfl)); exact rfl; (try dsimp only [List.map_cons, List.map_nil, scC, Nat.reduceAdd]))
        | (apply p3; (first | exact a_pure (sv := .one _) rfl | exact a_pure (sv := .agg _) rfl | exact a_pure (sv := .tup _) rfl | exact a_ld_rowI rfl rfl rfl (fC rfl) bnd); exact rfl)
        | (apply s3; (first | exact a_appE (fP rfl) rfl rfl rfl rfl nowR (by first | omega | (simp; omega)) (by decide) (by decide) (by exact rfl)); exact rfl; exact rfl)
        | (apply w3; (first | exact a_st_bx rfl rfl rfl rfl (fN rfl rfl) (Nat.le_of_ble_eq_true rfl) rfl | exact a_st_rowI rfl rfl rfl rfl (fN rfl rfl) bnd | exact a_stE (E := eI) _ rfl rfl rfl rfl (fN rfl rfl) bnd (by exact rfl) | exact a_stF (E := eR) ⟨_, _, _⟩ rfl rfl rfl rfl (fN rfl rfl) (Nat.le_of_ble_eq_true rfl) (Nat.le_of_ble_eq_true rfl) (by first | exact List.getElem?_set_self bnd | exact List.getElem?_eq_getElem bnd) (by (try dsimp only [setRow, List.set_cons_succ, List.set_cons_zero]); first | done | exact rfl) rfl); exact rfl; (try dsimp only [setRow, List.map_cons, List.map_nil, scC, List.set_cons_zero, List.set_cons_succ, List.take_succ_cons, List.take_zero, List.drop_succ_cons, List.drop_zero, Nat.reduceAdd]))
        | (refine o_gs rfl rfl (fun hc => ?_) (fun hc => ?_) <;> (try simp only [decide_eq_true_eq, decide_eq_false_iff_not, Bool.not_eq_true', Bool.not_eq_false', Bool.not_eq_true, Bool.not_eq_false, Bool.and_eq_true, Bool.or_eq_false_iff, Bool.not_not] at hc) <;> (try (exfalso; omega)))
        | (refine g_cond rfl (fun hc => ?_) (fun hc => ?_) <;> (try simp only [decide_eq_true_eq, decide_eq_false_iff_not, Bool.not_eq_true', Bool.not_eq_false', Bool.not_eq_true, Bool.not_eq_false, Bool.and_eq_true, Bool.or_eq_false_iff, Bool.not_not] at hc) <;> (try (exfalso; omega)))
      · refine q_here (hd + (ruAt m c).m, y ++ [0]) [10, 1, 2, 3, 4, 5, 6, 7, 8] (by exact stk) ?_
        refine ⟨by dsimp only; omega, ?_⟩
        dsimp only
        unfold visOf
        rw [if_neg (by omega)] at hy
        rw [if_neg (by omega), if_pos (by omega), hy]
      · refine q_here (x.gr, y) [0, 1, 2, 3, 4, 5, 6, 7, 8] (by exact stk) ?_
        refine ⟨by dsimp only; omega, ?_⟩
        dsimp only
        unfold visOf
        split at hy
        · rename_i hlt
          rw [if_pos hlt, hy]
        · rename_i hlt
          rw [if_neg hlt, if_neg (by omega), hy]
    have hvb : ∀ v ∈ visOf (hd + (ruAt m c).m) x.le x.gr x.vis, 0 ≤ v ∧ v ≤ n + 1 := by
      intro v hv
      rcases visOf_mem hv with rfl | hv
      · omega
      · exact j11 v hv
    have e3 := hvb _ (List.getElem_mem (show (hd + (ruAt m c).m - min x.le (hd + (ruAt m c).m)).toNat < (visOf (hd + (ruAt m c).m) x.le x.gr x.vis).length by omega))
    rintro ⟨_, _⟩ ⟨rfl, rfl⟩
    dsimp only [List.cons_append, List.nil_append] at *
    try dsimp only [wkBx]
    skip
    repeat' first
      | refine g_seq ?_
      | refine g_skip ?_
      | refine g_exit ?_
      | refine g_block ?_
      | refine g_reg ?_
      | refine g_if_t rfl ?_
      | refine g_if_f rfl ?_
      | refine o_nil ?_
      | refine q_s ?_
      | refine q_se ?_
      | refine q_b ?_
      | refine q_be rfl ?_
      | refine q_bn rfl ?_
      | refine q_le ?_
      | refine q_ce ?_
      | (apply n3; (first | exact a_new (gb := .bx _) rfl); exact rfl; (try dsimp only [List.map_cons, List.map_nil, scC, Nat.reduceAdd]))
      | (apply p3; (first | exact a_pure (sv := .one _) rfl | exact a_pure (sv := .agg _) rfl | exact a_pure (sv := .tup _) rfl | exact a_ld_rowI rfl rfl rfl (fC rfl) bnd | exact a_add rfl rfl (by omega) (by omega) | exact a_lenE rfl rfl (fS rfl) (by exact rfl) | exact a_len_str rfl (fT rfl) | exact a_cmp rfl rfl rfl trivial rfl | exact a_iaE rfl rfl rfl (fS rfl) (by omega) bnd (by exact rfl) | exact a_iaO1 rfl rfl rfl (fS rfl) (by omega) bnd | exact a_iaO rfl rfl rfl (fS rfl) (by omega) bnd (by exact rfl) | exact a_ne rfl rfl | exact a_neS rfl rfl rfl); exact rfl)
      | (apply w3; (first | exact a_st_bx rfl rfl rfl rfl (fN rfl rfl) (Nat.le_of_ble_eq_true rfl) rfl | exact a_stF (E := eR) ⟨_, _, _⟩ rfl rfl rfl rfl (fN rfl rfl) (Nat.le_of_ble_eq_true rfl) (Nat.le_of_ble_eq_true rfl) (by first | exact List.getElem?_set_self bnd | exact List.getElem?_eq_getElem bnd) (by (try dsimp only [setRow, List.set_cons_succ, List.set_cons_zero]); first | done | exact rfl) rfl | exact a_st_rowI rfl rfl rfl rfl (fN rfl rfl) bnd | exact a_stE (E := eI) _ rfl rfl rfl rfl (fN rfl rfl) bnd (by exact rfl)); exact rfl; (try dsimp only [setRow, List.map_cons, List.map_nil, scC, List.set_cons_zero, List.set_cons_succ, List.take_succ_cons, List.take_zero, List.drop_succ_cons, List.drop_zero, Nat.reduceAdd]))
      | (apply c4 2; exact callK1 (θ := []) (hD := (l05StepC_ok _ _ preB9 preB9)); exact rfl; exact rfl; exact rfl; (try dsimp only [SV.ren, C.ren, C.ren.all, tRen, GB.ren, calF, upOf, List.cons_append, List.nil_append, Nat.reduceAdd]))
      | (apply g_drN okM [[], [0], [0, 1], [0, 1, 2], [], [], [5], [5, 6], [5, 6, 7], [5, 6, 7, 8], [4, 5, 6, 7, 8, 9], [0, 1, 2, 3, 4, 5, 6, 7, 8, 9, 10], [0, 1, 2, 3, 4, 5, 6, 7, 8, 9, 10, 11], [0, 1, 2, 3, 4, 5, 6, 7, 8, 9, 10, 11, 12], [0, 1, 2, 3, 4, 5, 6, 7, 8, 9, 10, 11, 12, 13], [0, 1, 2, 3, 4, 5, 6, 7, 8, 9, 10, 11, 12, 13, 14]] [([], []), ([], []), ([], []), ([], []), ([], []), ([], []), ([], []), ([], []), ([], []), ([], []), ([], []), ([], []), ([], []), ([], []), ([], []), ([], [_])] 0; (focus (all_goals (apply d_pN (i := 0) (fs := []) (u := [208, 209, 210, 211, 212, 213, 214]) (o := []); (first | exact a_pure (sv := .one _) rfl | exact a_pure (sv := .agg _) rfl | exact a_pure (sv := .tup _) rfl); exact rfl; kernel_rfl; kernel_rfl; kernel_rfl; exact rfl; exact rfl); all_goals (apply d_pN (i := 1) (fs := [true]) (u := [208, 209, 210, 211, 212, 213, 214]) (o := []); (first | exact a_pure (sv := .one _) rfl); exact rfl; kernel_rfl; kernel_rfl; kernel_rfl; exact rfl; exact rfl); all_goals (apply d_pN (i := 2) (fs := [true, true]) (u := [208, 209, 210, 211, 212, 213, 214]) (o := []); (first | exact a_pure (sv := .one _) rfl); exact rfl; kernel_rfl; kernel_rfl; kernel_rfl; exact rfl; exact rfl); all_goals (apply d_pN (i := 3) (fs := [true, true, true]) (u := [208, 209, 210, 211, 212, 213, 214]) (o := []); (first | exact a_pure (sv := .one _) rfl | exact a_pure (sv := .agg _) rfl | exact a_ld_rowI rfl rfl rfl (fC rfl) bnd); exact rfl; kernel_rfl; kernel_rfl; kernel_rfl; exact rfl; exact rfl); all_goals (apply d_pN (i := 4) (fs := [false, false, false, false]) (u := [204, 205, 206, 207, 209, 210, 211, 212, 213]) (o := []); (first | exact a_pure (sv := .one _) rfl | exact a_pure (sv := .agg _) rfl | exact a_pure (sv := .tup _) rfl); exact rfl; kernel_rfl; kernel_rfl; kernel_rfl; exact rfl; exact rfl); all_goals (apply d_pN (i := 5) (fs := [false, false, false, false, false]) (u := [204, 205, 206, 207, 208]) (o := []); (first | exact a_pure (sv := .one _) rfl | exact a_pure (sv := .agg _) rfl | exact a_pure (sv := .tup _) rfl); exact rfl; kernel_rfl; kernel_rfl; kernel_rfl; exact rfl; exact rfl); all_goals (apply d_pN (i := 6) (fs := [true, false, false, false, false, false]) (u := [204, 205, 206, 207, 208]) (o := []); (first | exact a_pure (sv := .one _) rfl); exact rfl; kernel_rfl; kernel_rfl; kernel_rfl; exact rfl; exact rfl); all_goals (apply d_pN (i := 7) (fs := [true, true, false, false, false, false, false]) (u := [204, 205, 206, 207, 208]) (o := []); (first | exact a_pure (sv := .one _) rfl); exact rfl; kernel_rfl; kernel_rfl; kernel_rfl; exact rfl; exact rfl); all_goals (apply d_pN (i := 8) (fs := [true, true, true, false, false, false, false, false]) (u := [204, 205, 206, 207, 208]) (o := []); (first | exact a_pure (sv := .one _) rfl); exact rfl; kernel_rfl; kernel_rfl; kernel_rfl; exact rfl; exact rfl); all_goals (apply d_pN (i := 9) (fs := [true, true, true, true, false, false, false, false, false]) (u := [204, 205, 206, 207, 208]) (o := []); (first | exact a_pure (sv := .one _) rfl | exact a_pure (sv := .agg _) rfl | exact a_ld_rowI rfl rfl rfl (fC rfl) bnd); exact rfl; kernel_rfl; kernel_rfl; kernel_rfl; exact rfl; exact rfl); all_goals (apply d_pN (i := 10) (fs := [true, true, true, true, true, true, false, false, false, false]) (u := [204, 205, 206, 207]) (o := []); (first | exact a_sub rfl rfl (by omega) (by omega)); exact rfl; kernel_rfl; kernel_rfl; kernel_rfl; exact rfl; exact rfl); all_goals (apply d_pN (i := 11) (fs := [true, true, true, true, true, true, true, true, true, true, true]) (u := []) (o := []); (first | exact a_iaE rfl rfl rfl (fS rfl) (by omega) bnd (by exact rfl) | exact a_iaO1 rfl rfl rfl (fS rfl) (by omega) bnd | exact a_iaO rfl rfl rfl (fS rfl) (by omega) bnd (by exact rfl)); exact rfl; kernel_rfl; kernel_rfl; kernel_rfl; exact rfl; exact rfl); all_goals (apply d_pN (i := 12) (fs := [true, true, true, true, true, true, true, true, true, true, true, true]) (u := []) (o := []); (first | exact a_pure (sv := .one _) rfl | exact a_pure (sv := .agg _) rfl | exact a_ld_rowI rfl rfl rfl (fC rfl) bnd); exact rfl; kernel_rfl; kernel_rfl; kernel_rfl; exact rfl; exact rfl); all_goals (apply d_pN (i := 13) (fs := [true, true, true, true, true, true, true, true, true, true, true, true, true]) (u := []) (o := []); (first | exact a_add rfl rfl (by omega) (by omega)); exact rfl; kernel_rfl; kernel_rfl; kernel_rfl; exact rfl; exact rfl); all_goals (apply d_pN (i := 14) (fs := [true, true, true, true, true, true, true, true, true, true, true, true, true, true]) (u := []) (o := []); (first | exact a_iaE rfl rfl rfl (fS rfl) (by omega) bnd (by exact rfl) | exact a_iaO1 rfl rfl rfl (fS rfl) (by omega) bnd | exact a_iaO rfl rfl rfl (fS rfl) (by omega) bnd (by exact rfl)); exact rfl; kernel_rfl; kernel_rfl; kernel_rfl; exact rfl; exact rfl); all_goals (apply d_uE (i := 15) (fs := [true, true, true, true, true, true, true, true, true, true, true, true, true, true, true]) (u := []) (o := []); (first | exact a_st_bx rfl rfl rfl rfl (fN rfl rfl) (Nat.le_of_ble_eq_true rfl) rfl | exact a_st_rowI rfl rfl rfl rfl (fN rfl rfl) bnd | exact a_stE (E := eI) _ rfl rfl rfl rfl (fN rfl rfl) bnd (by exact rfl) | exact a_stF (E := eR) ⟨_, _, _⟩ rfl rfl rfl rfl (fN rfl rfl) (Nat.le_of_ble_eq_true rfl) (Nat.le_of_ble_eq_true rfl) (by first | exact List.getElem?_set_self bnd | exact List.getElem?_eq_getElem bnd) (by (try dsimp only [setRow, List.set_cons_succ, List.set_cons_zero]); first | done | exact rfl) rfl); exact rfl; kernel_rfl; kernel_rfl; kernel_rfl; exact dst_none; exact rfl; exact rfl); all_goals (refine d_nil ?_; dsimp only [selT, selH, trues, SV.ren, C.ren, C.ren.all, tRen, GB.ren, calF, upOf, List.cons_append, List.nil_append, Nat.reduceAdd, setRow, List.map_cons, List.map_nil, scC, List.set_cons_zero, List.set_cons_succ, List.take_succ_cons, List.take_zero, List.drop_succ_cons, List.drop_zero]))); any_goals kernel_rfl)
      | (apply g_drN okM [[], [0], [0, 1], [], [3], [0, 1, 2, 3, 4], [0, 1, 2, 3, 4, 5]] [([], []), ([], []), ([0], []), ([], []), ([], []), ([1], [_]), ([], [])] 2; (focus (all_goals (apply d_pN (i := 0) (fs := []) (u := [243, 244]) (o := []); (first | exact a_pure (sv := .one _) rfl); exact rfl; kernel_rfl; kernel_rfl; kernel_rfl; exact rfl; exact rfl); all_goals (apply d_pN (i := 1) (fs := [true]) (u := [243, 244]) (o := []); (first | exact a_pure (sv := .one _) rfl | exact a_pure (sv := .agg _) rfl | exact a_ld_rowI rfl rfl rfl (fC rfl) bnd); exact rfl; kernel_rfl; kernel_rfl; kernel_rfl; exact rfl; exact rfl); all_goals (apply d_uN (i := 2) (fs := [true, true]) (u := [243, 244]) (o := []); (first | exact callD1 (n := _) 0 (θ := []) (hD := (l00Own_ok _ preB9))); exact rfl; kernel_rfl; kernel_rfl; kernel_rfl; exact dst_some rfl; exact rfl; exact rfl); all_goals (apply d_pN (i := 3) (fs := [false, false, false]) (u := [240, 241, 242]) (o := [(true, 0)]); (first | exact a_pure (sv := .one _) rfl); exact rfl; kernel_rfl; kernel_rfl; kernel_rfl; exact rfl; exact rfl); all_goals (apply d_pN (i := 4) (fs := [true, false, false, false]) (u := [240, 241, 242]) (o := [(true, 0)]); (first | exact a_pure (sv := .one _) rfl | exact a_pure (sv := .agg _) rfl | exact a_ld_rowI rfl rfl rfl (fC rfl) bnd); exact rfl; kernel_rfl; kernel_rfl; kernel_rfl; exact rfl; exact rfl); all_goals (apply d_uE (i := 5) (fs := [true, true, true, true, true]) (u := []) (o := []); (first | exact atS 1 (fun _ hj => a_appE (fP rfl) rfl rfl rfl rfl nowR (by first | omega | (simp; omega)) (by decide) hj (by exact rfl)) (by decide)); exact rfl; kernel_rfl; kernel_rfl; kernel_rfl; exact dst_some rfl; exact rfl; exact rfl); all_goals (apply d_pN (i := 6) (fs := [true, true, true, true, true, true]) (u := []) (o := []); (first | exact a_pure (sv := .one _) rfl | exact a_pure (sv := .agg _) rfl | exact a_pure (sv := .tup _) rfl); exact rfl; kernel_rfl; kernel_rfl; kernel_rfl; exact rfl; exact rfl); all_goals (refine d_nil ?_; dsimp only [selT, selH, trues, SV.ren, C.ren, C.ren.all, tRen, GB.ren, calF, upOf, List.cons_append, List.nil_append, Nat.reduceAdd, setRow, List.map_cons, List.map_nil, scC, List.set_cons_zero, List.set_cons_succ, List.take_succ_cons, List.take_zero, List.drop_succ_cons, List.drop_zero]))); any_goals kernel_rfl)
      | (refine o_gs rfl rfl (fun hc => ?_) (fun hc => ?_) <;> (try simp only [decide_eq_true_eq, decide_eq_false_iff_not, Bool.not_eq_true', Bool.not_eq_false', Bool.not_eq_true, Bool.not_eq_false, Bool.and_eq_true, Bool.or_eq_false_iff, Bool.not_not] at hc) <;> (try (exfalso; omega)))
      | (refine g_cond rfl (fun hc => ?_) (fun hc => ?_) <;> (try simp only [decide_eq_true_eq, decide_eq_false_iff_not, Bool.not_eq_true', Bool.not_eq_false', Bool.not_eq_true, Bool.not_eq_false, Bool.and_eq_true, Bool.or_eq_false_iff, Bool.not_not] at hc) <;> (try (exfalso; omega)))
    all_goals (try simp only [bump_set])
    · have hO' := run_full hn (by omega) hc i10
      rw [hx] at hO'
      subst hO'
      refine g_conv (t_junkB (i := 4) (k := 0) rfl) ?_
      try dsimp only [setRow, List.map_cons, List.map_nil, scC, List.set_cons_zero, List.set_cons_succ]
      repeat (first | refine g_ret ?_ | refine q_sr ?_ | refine q_br ?_ | refine q_lr ?_ | refine q_cr ?_)
      refine ends_id ?_
      exact endK [_, _, _, _, _] (h2 := (by first | (with_reducible exact SVLe.refl) | exact SVLe.any | exact SVLe.one (.sh rfl) | exact SVLe.one (.nil (by decide)) | (refine SVLe.agg ?_; repeat (first | exact CsLe.nil | refine CsLe.cons ?_ ?_ | exact CLe.refl | exact CLe.sh rfl | exact CLe.nil (by decide) | (refine cle_i ?_; simp) | (refine cle_b ?_; simp))) | (refine SVLe.tup ?_; repeat (first | exact TLe.nil | refine TLe.cons ?_ ?_ | exact CsLe.nil | refine CsLe.cons ?_ ?_ | exact CLe.refl | exact CLe.sh rfl | exact CLe.nil (by decide) | (refine cle_i ?_; simp) | (refine cle_b ?_; simp))) | exact SVLe.refl | (refine sle_i ?_; simp) | (refine sle_b ?_; simp))) (h3 := (by repeat (first | exact trivial | refine And.intro ?_ ?_ | exact Or.inl rfl | exact Or.inr rfl | (refine Or.inr (row_eq ?_); simp) | (refine Or.inr (bx_eq rfl rfl ?_); (try dsimp only [C.ren, C.ren.all]); simp))))
    · have hO' := run_next hn (by omega) hc i10
      rw [hx] at hO'
      refine q_again (n + 1, stepS (ruAt m c) c, hd + (ruAt m c).m, { x with sp := max x.sp (c.le.length + c.ri.length), sts := bump x.sts c.st, rls := bump x.rls (c.st * m.sy + c.ri.headD 0), ch := x.ch + (if (ruAt m c).w = c.ri.headD 0 then 0 else 1), tu := x.tu + (if x.la ≠ 0 ∧ (ruAt m c).m ≠ x.la then 1 else 0), la := (ruAt m c).m, crs := crsOf at' hd (ruAt m c) x.crs, le := min x.le (hd + (ruAt m c).m), gr := max x.gr (hd + (ruAt m c).m), vis := bump (visOf (hd + (ruAt m c).m) x.le x.gr x.vis) (hd + (ruAt m c).m - min x.le (hd + (ruAt m c).m)) }) [0, 1, 2, 3, 4, 9, 10, 7] (by exact stk) ?_ ?_
      · refine ⟨by dsimp only; omega, stepS_ok hm i3 hn hc, ?_, hO'⟩
        exact ⟨by dsimp only; omega, by dsimp only; omega, by dsimp only; omega, by dsimp only; omega, by dsimp only; omega, by dsimp only; split <;> omega, by dsimp only; split <;> omega, by dsimp only; rw [bump_len]; omega, by dsimp only; rw [bump_len]; omega, by dsimp only; rw [bump_len]; omega, by have := crsOf_len at' hd (ruAt m c) x.crs; dsimp only; omega, fun v hv => bump_mem hvb (by omega) hv, fun v hv => bump_mem j12 (by omega) hv, fun v hv => bump_mem j13 (by omega) hv⟩
      · dsimp only; omega
end Go.Proofs.Ytncccjpbaeaafaa
