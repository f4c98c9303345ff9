/- The normal form of a machine: names in the order in which they are needed. -/
import Derived.Test.YtncccjpbaeaafaaB14
import Derived.Test.YtncccjpbaeaafaaG21
set_option linter.unusedVariables false
set_option linter.unusedSimpArgs false
set_option maxRecDepth 100000
set_option maxHeartbeats 4000000
namespace Go.Proofs.Ytncccjpbaeaafaa
open Go Foot
/-- The number of a name in a list, or the next one; the list with the name. -/
@[irreducible] def nmAt (l : List Int) (k : Int) : Int := (l.idxOf k : Nat)
@[irreducible] def nmIn (l : List Int) (k : Int) : List Int := if k ∈ l then l else l ++ [k]
/-- The map of the numbers. -/
@[irreducible] def nmM (l : List Int) : List (Int × Int) := l.zipIdx.map fun p => (p.1, (p.2 : Int))
theorem nmM_len (l : List Int) : (nmM l).length = l.length := by unfold nmM; simp
theorem getA_zip (k : Int) : ∀ (l : List Int) (i : Nat), getA ((l.zipIdx i).map fun p => (p.1, (p.2 : Int))) k = if k ∈ l then some (((l.idxOf k + i : Nat)) : Int) else none
  | [], i => by simp [getA]
  | a :: l, i => by
    simp only [List.zipIdx_cons, List.map_cons, getA, getA_zip k l (i + 1)]
    by_cases h : a = k
    · subst h; simp
    · have h' : ¬ k = a := fun e => h e.symm
      rw [if_neg h]
      by_cases hm : k ∈ l
      · rw [if_pos hm, if_pos (by simp [hm]), List.idxOf_cons]
        have hb : (a == k) = false := by simpa using h
        rw [hb]
        simp only [cond_false]
        congr 2
        omega
      · rw [if_neg hm, if_neg (by simp [hm, h'])]
theorem getA_nm (l : List Int) (k : Int) : getA (nmM l) k = if k ∈ l then some (nmAt l k) else none := by
  unfold nmM nmAt
  rw [getA_zip k l 0]
  rfl
theorem nmAt_new {l : List Int} {k : Int} (h : k ∉ l) : nmAt l k = l.length := by unfold nmAt; rw [List.idxOf_eq_length h]
theorem setA_new {α β : Type} [DecidableEq α] : ∀ {l : List (α × β)} {a : α} {b : β}, getA l a = none → setA l a b = l ++ [(a, b)]
  | [], a, b, _ => rfl
  | (k, v) :: l, a, b, h => by
    simp only [getA] at h
    split at h
    · cases h
    · rename_i hn
      simp only [setA, if_neg hn, setA_new h, List.cons_append]
theorem nmM_in {l : List Int} {k : Int} (h : k ∉ l) : setA (nmM l) k (l.length : Int) = nmM (nmIn l k) := by
  rw [setA_new (by rw [getA_nm, if_neg h])]
  unfold nmIn
  rw [if_neg h]
  unfold nmM
  rw [List.zipIdx_append]
  simp
theorem preB15 {p : Prop} (h : p := by first | with_reducible assumption | omega | (simp only [List.length_append, List.length_cons, List.length_nil, List.length_set, List.length_replicate, List.length_take, List.length_drop, List.length_tail, List.length_dropLast, List.length_reverse] at *; omega) | (with_reducible refine Int.le_trans (Int.ofNat_le.2 (trimR_len _)) ?_; simp only [List.length_cons, List.length_tail]; omega) | (exact (ruAt_ok (by assumption) (by assumption) (by assumption)).2.1) | (have := vMach_bd (by assumption); omega) | (with_reducible refine Int.le_trans (Int.ofNat_le.2 (pushL_len _ _)) ?_; simp only [List.length_dropLast]; omega) | exact (ask_ok (by assumption)).1 | exact (ask_ok (by assumption)).2.1 | exact (ask_ok (by assumption)).2.2.1 | exact (ask_ok (by assumption)).2.2.2 | (simp only [mC_ch, mC_tu]; omega) | trivial) : p := h
theorem number_ok (l : List Int) (k : Int) (hl : (l.length : Int) ≤ 16777216) : Does Try.prog 177 [.one (.gv 0), .one (int k)] [.bx [.gv 1], mpOf mII (nmM l)] (.one (int (nmAt l k))) [.bx [.gv 1], mpOf mII (nmM (nmIn l k))] := by
  have e1 := getA_nm l k
  have e2 := nmM_len l
  refine does_of (k := 2) Try.func177 rfl Try.ntmps177 rfl rfl fun w F0 S0 ρ0 => ?_
  dsimp only [argT, argH]
  repeat' first
    | refine g_seq ?_
    | refine g_skip ?_
    | refine g_exit ?_
    | refine g_block ?_
    | refine g_reg ?_
    | refine g_if_t rfl ?_
    | refine g_if_f rfl ?_
    | refine o_nil ?_
    | refine q_s ?_
    | refine q_se ?_
    | refine q_b ?_
    | refine q_be rfl ?_
    | refine q_bn rfl ?_
    | refine q_le ?_
    | refine q_ce ?_
    | (apply p3; (first | exact a_pure (sv := .one _) rfl | exact a_pure (sv := .agg _) rfl | exact a_pure (sv := .tup _) rfl | exact a_ld_rowI rfl rfl rfl (fC rfl) bnd | exact a_lookOk (M := mII) 0 rfl rfl rfl Try.underlying78 (by kernel_rfl) (by kernel_rfl) | exact a_lenMap (M := mII) rfl rfl Try.underlying78); exact rfl)
    | (apply w3; (first | exact a_mapUpd (M := mII) rfl rfl rfl rfl Try.underlying78 (by kernel_rfl)); exact rfl; (try dsimp only [setRow, List.map_cons, List.map_nil, scC, List.set_cons_zero, List.set_cons_succ, List.take_succ_cons, List.take_zero, List.drop_succ_cons, List.drop_zero, Nat.reduceAdd]))
    | (refine o_gs rfl rfl (fun hc => ?_) (fun hc => ?_) <;> (try simp only [decide_eq_true_eq, decide_eq_false_iff_not, Bool.not_eq_true', Bool.not_eq_false', Bool.not_eq_true, Bool.not_eq_false, Bool.and_eq_true, Bool.or_eq_false_iff, Bool.not_not] at hc) <;> (try (exfalso; omega)))
    | (refine g_cond rfl (fun hc => ?_) (fun hc => ?_) <;> (try simp only [decide_eq_true_eq, decide_eq_false_iff_not, Bool.not_eq_true', Bool.not_eq_false', Bool.not_eq_true, Bool.not_eq_false, Bool.and_eq_true, Bool.or_eq_false_iff, Bool.not_not] at hc) <;> (try (exfalso; omega)))
  · have hk : k ∉ l := by
      intro h
      rw [e1, if_pos h] at hc
      cases hc
    rw [e2, nmM_in hk]
    repeat (first | refine g_ret ?_ | refine q_sr ?_ | refine q_br ?_ | refine q_lr ?_ | refine q_cr ?_)
    refine ends_id ?_
    exact endK [] (h2 := (by first | (with_reducible exact SVLe.refl) | exact SVLe.any | exact SVLe.one (.sh rfl) | exact SVLe.one (.nil (by decide)) | (refine SVLe.agg ?_; repeat (first | exact CsLe.nil | refine CsLe.cons ?_ ?_ | exact CLe.refl | exact CLe.sh rfl | exact CLe.nil (by decide) | (refine cle_i ?_; exact (nmAt_new hk).symm) | (refine cle_b ?_; exact (nmAt_new hk).symm))) | (refine SVLe.tup ?_; repeat (first | exact TLe.nil | refine TLe.cons ?_ ?_ | exact CsLe.nil | refine CsLe.cons ?_ ?_ | exact CLe.refl | exact CLe.sh rfl | exact CLe.nil (by decide) | (refine cle_i ?_; exact (nmAt_new hk).symm) | (refine cle_b ?_; exact (nmAt_new hk).symm))) | exact SVLe.refl | (refine sle_i ?_; exact (nmAt_new hk).symm) | (refine sle_b ?_; exact (nmAt_new hk).symm))) (h3 := (by repeat (first | exact trivial | refine And.intro ?_ ?_ | exact Or.inl rfl | exact Or.inr rfl | (refine Or.inr (row_eq ?_); exact (nmAt_new hk).symm) | (refine Or.inr (bx_eq rfl rfl ?_); (try dsimp only [C.ren, C.ren.all]); exact (nmAt_new hk).symm))))
  · have hk : k ∈ l := by
      by_cases h : k ∈ l
      · exact h
      · rw [e1, if_neg h] at hc
        cases hc
    have hi : nmIn l k = l := by unfold nmIn; rw [if_pos hk]
    rw [hi]
    rw [if_pos hk] at e1
    simp only [e1, Option.getD_some]
    repeat (first | refine g_ret ?_ | refine q_sr ?_ | refine q_br ?_ | refine q_lr ?_ | refine q_cr ?_)
    refine ends_id ?_
    exact endK [] (h2 := (by first | (with_reducible exact SVLe.refl) | exact SVLe.any | exact SVLe.one (.sh rfl) | exact SVLe.one (.nil (by decide)) | (refine SVLe.agg ?_; repeat (first | exact CsLe.nil | refine CsLe.cons ?_ ?_ | exact CLe.refl | exact CLe.sh rfl | exact CLe.nil (by decide) | (refine cle_i ?_; rfl) | (refine cle_b ?_; rfl))) | (refine SVLe.tup ?_; repeat (first | exact TLe.nil | refine TLe.cons ?_ ?_ | exact CsLe.nil | refine CsLe.cons ?_ ?_ | exact CLe.refl | exact CLe.sh rfl | exact CLe.nil (by decide) | (refine cle_i ?_; rfl) | (refine cle_b ?_; rfl))) | exact SVLe.refl | (refine sle_i ?_; rfl) | (refine sle_b ?_; rfl))) (h3 := (by repeat (first | exact trivial | refine And.intro ?_ ?_ | exact Or.inl rfl | exact Or.inr rfl | (refine Or.inr (row_eq ?_); rfl) | (refine Or.inr (bx_eq rfl rfl ?_); (try dsimp only [C.ren, C.ren.all]); rfl))))
theorem symbolC_ok (m : Mach) (c : Conf) (hx : (c.ri.length : Int) ≤ 16777216) : Does Try.prog 150 [.one (ruD m c.st c.le.reverse c.ri.reverse)] [] (.one (int (c.ri.headD 0))) [] := by
  have := symbol_ok m c.st c.le.reverse c.ri.reverse (by simpa using hx)
  rw [getLastD_rev] at this
  exact this
--HIDE symbol_ok
/-- What has been named so far. -/
structure Nm where
  ru : List Rule'
  ks : List Int
  ys : List Int
  fi : Int
abbrev nmBx (m : Mach) (x : Nm) : GB := .bx [int m.sy, int m.st, .gv 1, .gv 2, .gv 3, int x.fi]
@[irreducible] def nmF (x : Nm) (u : Rule') : Int := if x.fi = 0 then u.m else x.fi
@[irreducible] def nmS (m : Mach) (c : Conf) (hd : Int) (u : Rule') (x : Nm) : Nm :=
  { ru := x.ru.set (nmAt x.ks c.st * m.sy + nmAt x.ys (c.ri.headD 0)).toNat ⟨nmAt (nmIn x.ys (c.ri.headD 0)) u.w, u.m * nmF x u, nmAt (nmIn x.ks c.st) u.n⟩, ks := nmIn (nmIn x.ks c.st) u.n, ys := nmIn (nmIn x.ys (c.ri.headD 0)) u.w, fi := nmF x u }
theorem nmIn_len (l : List Int) (k : Int) : ((nmIn l k).length : Int) ≤ l.length + 1 := by
  unfold nmIn
  split
  · omega
  · simp
theorem nmconfig_ok (x : Nm) (m : Mach) (c : Conf) (hd : Int) : Does Try.prog 178 [.one (.gv 0), .one (ruD m c.st c.le.reverse c.ri.reverse), .one (int hd)] [nmBx m x, .row 3 (rows eR x.ru), .bx [.gv 4], .bx [.gv 5], mpOf mII (nmM x.ks), mpOf mII (nmM x.ys)] .any [nmBx m x, .row 3 (rows eR x.ru), .bx [.gv 4], .bx [.gv 5], mpOf mII (nmM x.ks), mpOf mII (nmM x.ys)] := by
  refine does_of (k := 6) Try.func178 rfl Try.ntmps178 rfl rfl fun w F0 S0 ρ0 => ?_
  dsimp only [argT, argH]
  repeat' first
    | refine g_seq ?_
    | refine g_skip ?_
    | refine g_exit ?_
    | refine g_block ?_
    | refine g_reg ?_
    | refine g_if_t rfl ?_
    | refine g_if_f rfl ?_
    | refine o_nil ?_
    | refine q_s ?_
    | refine q_se ?_
    | refine q_b ?_
    | refine q_be rfl ?_
    | refine q_bn rfl ?_
    | refine q_le ?_
    | refine q_ce ?_
    | (refine o_gs rfl rfl (fun hc => ?_) (fun hc => ?_) <;> (try simp only [decide_eq_true_eq, decide_eq_false_iff_not, Bool.not_eq_true', Bool.not_eq_false', Bool.not_eq_true, Bool.not_eq_false, Bool.and_eq_true, Bool.or_eq_false_iff, Bool.not_not] at hc) <;> (try (exfalso; omega)))
    | (refine g_cond rfl (fun hc => ?_) (fun hc => ?_) <;> (try simp only [decide_eq_true_eq, decide_eq_false_iff_not, Bool.not_eq_true', Bool.not_eq_false', Bool.not_eq_true, Bool.not_eq_false, Bool.and_eq_true, Bool.or_eq_false_iff, Bool.not_not] at hc) <;> (try (exfalso; omega)))
  repeat (first | refine g_ret ?_ | refine q_sr ?_ | refine q_br ?_ | refine q_lr ?_ | refine q_cr ?_)
  refine ends_id ?_
  exact endK [] (h2 := (by first | (with_reducible exact SVLe.refl) | exact SVLe.any | exact SVLe.one (.sh rfl) | exact SVLe.one (.nil (by decide)) | (refine SVLe.agg ?_; repeat (first | exact CsLe.nil | refine CsLe.cons ?_ ?_ | exact CLe.refl | exact CLe.sh rfl | exact CLe.nil (by decide) | (refine cle_i ?_; rfl) | (refine cle_b ?_; rfl))) | (refine SVLe.tup ?_; repeat (first | exact TLe.nil | refine TLe.cons ?_ ?_ | exact CsLe.nil | refine CsLe.cons ?_ ?_ | exact CLe.refl | exact CLe.sh rfl | exact CLe.nil (by decide) | (refine cle_i ?_; rfl) | (refine cle_b ?_; rfl))) | exact SVLe.refl | (refine sle_i ?_; rfl) | (refine sle_b ?_; rfl))) (h3 := (by repeat (first | exact trivial | refine And.intro ?_ ?_ | exact Or.inl rfl | exact Or.inr rfl | (refine Or.inr (row_eq ?_); rfl) | (refine Or.inr (bx_eq rfl rfl ?_); (try dsimp only [C.ren, C.ren.all]); rfl))))
theorem nmstep_ok (x : Nm) (m : Mach) (c : Conf) (hd : Int) (u : Rule') (h1 : 2 ≤ m.sy) (h2 : m.sy ≤ 6) (h3 : (x.ks.length : Int) ≤ 100000) (h4 : (x.ys.length : Int) ≤ 100000) (h5 : u.m = 1 ∨ u.m = -1) (h6 : -1 ≤ x.fi) (h7 : x.fi ≤ 1) (h8 : 0 ≤ nmAt x.ks c.st) (h9 : nmAt x.ks c.st ≤ 100000) (h10 : 0 ≤ nmAt x.ys (c.ri.headD 0)) (h11 : nmAt x.ys (c.ri.headD 0) ≤ 100000) (h12 : nmAt x.ks c.st * m.sy + nmAt x.ys (c.ri.headD 0) < x.ru.length) (hx : (c.ri.length : Int) ≤ 16777216) : Does Try.prog 179 [.one (.gv 0), .one (ruD m c.st c.le.reverse c.ri.reverse), .one (int hd), .agg (ruC u)] [nmBx m x, .row 3 (rows eR x.ru), .bx [.gv 4], .bx [.gv 5], mpOf mII (nmM x.ks), mpOf mII (nmM x.ys)] .any [nmBx m (nmS m c hd u x), .row 3 (rows eR (nmS m c hd u x).ru), .bx [.gv 4], .bx [.gv 5], mpOf mII (nmM (nmS m c hd u x).ks), mpOf mII (nmM (nmS m c hd u x).ys)] := by
  have h13 := nmIn_len x.ks c.st
  have h14 := nmIn_len x.ys (c.ri.headD 0)
  have h15 : 0 ≤ nmAt x.ks c.st * m.sy := Int.mul_nonneg h8 (by omega)
  have h16 : nmAt x.ks c.st * m.sy ≤ 100000 * 6 := Int.mul_le_mul h9 h2 (by omega) (by omega)
  refine does_of (k := 6) Try.func179 rfl Try.ntmps179 rfl rfl fun w F0 S0 ρ0 => ?_
  dsimp only [argT, argH]
  repeat' first
    | refine g_seq ?_
    | refine g_skip ?_
    | refine g_exit ?_
    | refine g_block ?_
    | refine g_reg (id := 0) ?_
    | refine g_reg (id := 1) ?_
    | refine g_reg (id := 2) ?_
    | refine g_if_t rfl ?_
    | refine g_if_f rfl ?_
    | refine o_nil ?_
    | refine q_s ?_
    | refine q_se ?_
    | refine q_b ?_
    | refine q_be rfl ?_
    | refine q_bn rfl ?_
    | refine q_le ?_
    | refine q_ce ?_
    | (apply n3; (first | exact a_new (gb := .bx _) rfl); exact rfl; (try dsimp only [List.map_cons, List.map_nil, scC, Nat.reduceAdd]))
    | (apply p3; (first | exact a_pure (sv := .one _) rfl | exact a_pure (sv := .agg _) rfl | exact a_pure (sv := .tup _) rfl | exact a_ld_rowI rfl rfl rfl (fC rfl) bnd | exact a_cmp rfl rfl rfl trivial rfl | exact a_eqS rfl rfl rfl); exact rfl)
    | (apply w3; (first | exact a_st_bx rfl rfl rfl rfl (fN rfl rfl) (Nat.le_of_ble_eq_true rfl) rfl | exact a_st_rowI rfl rfl rfl rfl (fN rfl rfl) bnd | exact a_stE (E := eI) _ rfl rfl rfl rfl (fN rfl rfl) bnd (by exact rfl) | exact a_stF (E := eR) ⟨_, _, _⟩ rfl rfl rfl rfl (fN rfl rfl) (Nat.le_of_ble_eq_true rfl) (Nat.le_of_ble_eq_true rfl) (by first | exact List.getElem?_set_self bnd | exact List.getElem?_eq_getElem bnd) (by (try dsimp only [setRow, List.set_cons_succ, List.set_cons_zero]); first | done | exact rfl) rfl); exact rfl; (try dsimp only [setRow, List.map_cons, List.map_nil, scC, List.set_cons_zero, List.set_cons_succ, List.take_succ_cons, List.take_zero, List.drop_succ_cons, List.drop_zero, Nat.reduceAdd]))
    | (refine o_gs rfl rfl (fun hc => ?_) (fun hc => ?_) <;> (try simp only [decide_eq_true_eq, decide_eq_false_iff_not, Bool.not_eq_true', Bool.not_eq_false', Bool.not_eq_true, Bool.not_eq_false, Bool.and_eq_true, Bool.or_eq_false_iff, Bool.not_not] at hc) <;> (try (exfalso; omega)))
    | (refine g_cond rfl (fun hc => ?_) (fun hc => ?_) <;> (try simp only [decide_eq_true_eq, decide_eq_false_iff_not, Bool.not_eq_true', Bool.not_eq_false', Bool.not_eq_true, Bool.not_eq_false, Bool.and_eq_true, Bool.or_eq_false_iff, Bool.not_not] at hc) <;> (try (exfalso; omega)))
  all_goals
    repeat' first
      | refine g_seq ?_
      | refine g_skip ?_
      | refine g_exit ?_
      | refine g_block ?_
      | refine g_reg ?_
      | refine g_if_t rfl ?_
      | refine g_if_f rfl ?_
      | refine o_nil ?_
      | refine q_s ?_
      | refine q_se ?_
      | refine q_b ?_
      | refine q_be rfl ?_
      | refine q_bn rfl ?_
      | refine q_le ?_
      | refine q_ce ?_
      | (apply n3; (first | exact a_new (gb := .bx _) rfl); exact rfl; (try dsimp only [List.map_cons, List.map_nil, scC, Nat.reduceAdd]))
      | (apply p3; (first | exact a_pure (sv := .one _) rfl | exact a_pure (sv := .agg _) rfl | exact a_pure (sv := .tup _) rfl | exact a_ld_rowI rfl rfl rfl (fC rfl) bnd | exact a_cmp rfl rfl rfl trivial rfl | exact a_eqS rfl rfl rfl); exact rfl)
      | (apply w3; (first | exact a_st_bx rfl rfl rfl rfl (fN rfl rfl) (Nat.le_of_ble_eq_true rfl) rfl | exact a_st_rowI rfl rfl rfl rfl (fN rfl rfl) bnd | exact a_stE (E := eI) _ rfl rfl rfl rfl (fN rfl rfl) bnd (by exact rfl) | exact a_stF (E := eR) ⟨_, _, _⟩ rfl rfl rfl rfl (fN rfl rfl) (Nat.le_of_ble_eq_true rfl) (Nat.le_of_ble_eq_true rfl) (by first | exact List.getElem?_set_self bnd | exact List.getElem?_eq_getElem bnd) (by (try dsimp only [setRow, List.set_cons_succ, List.set_cons_zero]); first | done | exact rfl) rfl); exact rfl; (try dsimp only [setRow, List.map_cons, List.map_nil, scC, List.set_cons_zero, List.set_cons_succ, List.take_succ_cons, List.take_zero, List.drop_succ_cons, List.drop_zero, Nat.reduceAdd]))
      | (apply g_drN okM [[], [0], [0, 1], [0, 1, 2], [], [4], [4, 5], [4, 5, 6], [0, 1, 2, 3, 4, 5, 6, 7], [], [9], [9, 10], [9, 10, 11], [9, 10, 11, 12], [0, 1, 2, 3, 4, 5, 6, 7, 8, 9, 10, 11, 12, 13], [], [15], [15, 16], [15, 16, 17], [], [0, 1, 2, 3, 4, 5, 6, 7, 8, 19], [0, 1, 2, 3, 4, 5, 6, 7, 8, 15, 16, 17, 18, 19, 20], [0, 1, 2, 3, 4, 5, 6, 7, 8, 9, 10, 11, 12, 13, 14, 15, 16, 17, 18, 19, 20, 21], [0, 1, 2, 3, 4, 5, 6, 7, 8, 9, 10, 11, 12, 13, 14, 15, 16, 17, 18, 19, 20, 21, 22]] [([], []), ([], []), ([], []), ([], []), ([], []), ([], []), ([], []), ([], []), ([], [2, 4]), ([], []), ([], []), ([], []), ([], []), ([], []), ([], []), ([], []), ([], []), ([], []), ([], []), ([], []), ([], []), ([], [3, 5]), ([], []), ([], [])] 0; (focus (all_goals (apply d_pN (i := 0) (fs := []) (u := [23, 24, 25, 26, 28, 29, 30, 31, 32, 34, 35, 36, 37, 38]) (o := []); (first | exact a_pure (sv := .one _) rfl | exact a_pure (sv := .agg _) rfl | exact a_pure (sv := .tup _) rfl); exact rfl; kernel_rfl; kernel_rfl; kernel_rfl; exact rfl; exact rfl); all_goals (apply d_pN (i := 1) (fs := [true]) (u := [23, 24, 25, 26, 28, 29, 30, 31, 32, 34, 35, 36, 37, 38]) (o := []); (first | exact a_pure (sv := .one _) rfl); exact rfl; kernel_rfl; kernel_rfl; kernel_rfl; exact rfl; exact rfl); all_goals (apply d_pN (i := 2) (fs := [true, true]) (u := [23, 24, 25, 26, 28, 29, 30, 31, 32, 34, 35, 36, 37, 38]) (o := []); (first | exact a_pure (sv := .one _) rfl); exact rfl; kernel_rfl; kernel_rfl; kernel_rfl; exact rfl; exact rfl); all_goals (apply d_pN (i := 3) (fs := [true, true, true]) (u := [23, 24, 25, 26, 28, 29, 30, 31, 32, 34, 35, 36, 37, 38]) (o := []); (first | exact a_pure (sv := .one _) rfl | exact a_pure (sv := .agg _) rfl | exact a_ld_rowI rfl rfl rfl (fC rfl) bnd); exact rfl; kernel_rfl; kernel_rfl; kernel_rfl; exact rfl; exact rfl); all_goals (apply d_pN (i := 4) (fs := [false, false, false, false]) (u := [19, 20, 21, 22, 28, 29, 30, 31, 32, 34, 35, 36, 37, 38]) (o := []); (first | exact a_pure (sv := .one _) rfl | exact a_pure (sv := .agg _) rfl | exact a_pure (sv := .tup _) rfl); exact rfl; kernel_rfl; kernel_rfl; kernel_rfl; exact rfl; exact rfl); all_goals (apply d_pN (i := 5) (fs := [true, false, false, false, false]) (u := [19, 20, 21, 22, 28, 29, 30, 31, 32, 34, 35, 36, 37, 38]) (o := []); (first | exact a_pure (sv := .one _) rfl); exact rfl; kernel_rfl; kernel_rfl; kernel_rfl; exact rfl; exact rfl); all_goals (apply d_pN (i := 6) (fs := [true, true, false, false, false, false]) (u := [19, 20, 21, 22, 28, 29, 30, 31, 32, 34, 35, 36, 37, 38]) (o := []); (first | exact a_pure (sv := .one _) rfl); exact rfl; kernel_rfl; kernel_rfl; kernel_rfl; exact rfl; exact rfl); all_goals (apply d_pN (i := 7) (fs := [true, true, true, false, false, false, false]) (u := [19, 20, 21, 22, 28, 29, 30, 31, 32, 34, 35, 36, 37, 38]) (o := []); (first | exact a_pure (sv := .one _) rfl | exact a_pure (sv := .agg _) rfl | exact a_ld_rowI rfl rfl rfl (fC rfl) bnd); exact rfl; kernel_rfl; kernel_rfl; kernel_rfl; exact rfl; exact rfl); all_goals (apply d_uN (i := 8) (fs := [true, true, true, true, true, true, true, true]) (u := [28, 29, 30, 31, 32, 34, 35, 36, 37, 38]) (o := []); (first | exact callD1 (n := _) 0 (θ := [_, _]) (hD := (number_ok _ _ preB15))); exact rfl; kernel_rfl; kernel_rfl; kernel_rfl; exact dst_some rfl; exact rfl; exact rfl); all_goals (apply d_pN (i := 9) (fs := [false, false, false, false, false, false, false, false, false]) (u := [19, 20, 21, 22, 23, 24, 25, 26, 27, 34, 35, 36, 37, 38, 39, 40]) (o := [(false, 2), (false, 4), (false, 3), (false, 5)]); (first | exact a_pure (sv := .one _) rfl | exact a_pure (sv := .agg _) rfl | exact a_pure (sv := .tup _) rfl); exact rfl; kernel_rfl; kernel_rfl; kernel_rfl; exact rfl; exact rfl); all_goals (apply d_pN (i := 10) (fs := [true, false, false, false, false, false, false, false, false, false]) (u := [19, 20, 21, 22, 23, 24, 25, 26, 27, 34, 35, 36, 37, 38, 39, 40]) (o := [(false, 2), (false, 4), (false, 3), (false, 5)]); (first | exact a_pure (sv := .one _) rfl); exact rfl; kernel_rfl; kernel_rfl; kernel_rfl; exact rfl; exact rfl); all_goals (apply d_pN (i := 11) (fs := [true, true, false, false, false, false, false, false, false, false, false]) (u := [19, 20, 21, 22, 23, 24, 25, 26, 27, 34, 35, 36, 37, 38, 39, 40]) (o := [(false, 2), (false, 4), (false, 3), (false, 5)]); (first | exact a_pure (sv := .one _) rfl); exact rfl; kernel_rfl; kernel_rfl; kernel_rfl; exact rfl; exact rfl); all_goals (apply d_pN (i := 12) (fs := [true, true, true, false, false, false, false, false, false, false, false, false]) (u := [19, 20, 21, 22, 23, 24, 25, 26, 27, 34, 35, 36, 37, 38, 39, 40]) (o := [(false, 2), (false, 4), (false, 3), (false, 5)]); (first | exact a_pure (sv := .one _) rfl); exact rfl; kernel_rfl; kernel_rfl; kernel_rfl; exact rfl; exact rfl); all_goals (apply d_pN (i := 13) (fs := [true, true, true, true, false, false, false, false, false, false, false, false, false]) (u := [19, 20, 21, 22, 23, 24, 25, 26, 27, 34, 35, 36, 37, 38, 39, 40]) (o := [(false, 2), (false, 4), (false, 3), (false, 5)]); (first | exact a_pure (sv := .one _) rfl | exact a_pure (sv := .agg _) rfl | exact a_ld_rowI rfl rfl rfl (fC rfl) bnd); exact rfl; kernel_rfl; kernel_rfl; kernel_rfl; exact rfl; exact rfl); all_goals (apply d_pN (i := 14) (fs := [true, true, true, true, true, true, true, true, true, true, true, true, true, true]) (u := [34, 35, 36, 37, 38, 39, 40]) (o := [(false, 3), (false, 5)]); (first | exact a_mulB rfl rfl (by omega) (by omega) (by omega) (by omega) | exact a_mul rfl rfl (by first | omega | assumption) (by first | omega | assumption)); exact rfl; kernel_rfl; kernel_rfl; kernel_rfl; exact rfl; exact rfl); all_goals (apply d_pN (i := 15) (fs := [false, false, false, false, false, false, false, false, false, false, false, false, false, false, false]) (u := [19, 20, 21, 22, 23, 24, 25, 26, 27, 28, 29, 30, 31, 32, 33, 38, 39]) (o := [(false, 2), (false, 4)]); (first | exact a_pure (sv := .one _) rfl | exact a_pure (sv := .agg _) rfl | exact a_pure (sv := .tup _) rfl); exact rfl; kernel_rfl; kernel_rfl; kernel_rfl; exact rfl; exact rfl); all_goals (apply d_pN (i := 16) (fs := [true, false, false, false, false, false, false, false, false, false, false, false, false, false, false, false]) (u := [19, 20, 21, 22, 23, 24, 25, 26, 27, 28, 29, 30, 31, 32, 33, 38, 39]) (o := [(false, 2), (false, 4)]); (first | exact a_pure (sv := .one _) rfl); exact rfl; kernel_rfl; kernel_rfl; kernel_rfl; exact rfl; exact rfl); all_goals (apply d_pN (i := 17) (fs := [true, true, false, false, false, false, false, false, false, false, false, false, false, false, false, false, false]) (u := [19, 20, 21, 22, 23, 24, 25, 26, 27, 28, 29, 30, 31, 32, 33, 38, 39]) (o := [(false, 2), (false, 4)]); (first | exact a_pure (sv := .one _) rfl); exact rfl; kernel_rfl; kernel_rfl; kernel_rfl; exact rfl; exact rfl); all_goals (apply d_pN (i := 18) (fs := [true, true, true, false, false, false, false, false, false, false, false, false, false, false, false, false, false, false]) (u := [19, 20, 21, 22, 23, 24, 25, 26, 27, 28, 29, 30, 31, 32, 33, 38, 39]) (o := [(false, 2), (false, 4)]); (first | exact a_pure (sv := .one _) rfl | exact a_pure (sv := .agg _) rfl | exact a_ld_rowI rfl rfl rfl (fC rfl) bnd); exact rfl; kernel_rfl; kernel_rfl; kernel_rfl; exact rfl; exact rfl); all_goals (apply d_pN (i := 19) (fs := [false, false, false, false, false, false, false, false, false, false, false, false, false, false, false, false, false, false, false]) (u := [19, 20, 21, 22, 23, 24, 25, 26, 27, 28, 29, 30, 31, 32, 33, 34, 35, 36, 37]) (o := [(false, 2), (false, 4)]); (first | exact a_pure (sv := .one _) rfl | exact a_pure (sv := .agg _) rfl | exact a_pure (sv := .tup _) rfl); exact rfl; kernel_rfl; kernel_rfl; kernel_rfl; exact rfl; exact rfl); all_goals (apply d_pN (i := 20) (fs := [true, false, false, false, false, false, false, false, false, false, false, true, true, true, true, true, true, true, true, true]) (u := [28, 29, 30, 31, 32, 33, 34, 35, 36, 37]) (o := []); (first | exact callD1 (n := _) 0 (θ := []) (hD := (symbolC_ok _ _ preB15))); exact rfl; kernel_rfl; kernel_rfl; kernel_rfl; exact rfl; exact rfl); all_goals (apply d_uN (i := 21) (fs := [true, true, true, true, true, true, false, false, false, false, false, false, true, true, true, true, true, true, true, true, true]) (u := [28, 29, 30, 31, 32, 33]) (o := []); (first | exact callD1 (n := _) 0 (θ := [_, _]) (hD := (number_ok _ _ preB15))); exact rfl; kernel_rfl; kernel_rfl; kernel_rfl; exact dst_some rfl; exact rfl; exact rfl); all_goals (apply d_pN (i := 22) (fs := [true, true, true, true, true, true, true, true, true, true, true, true, true, true, true, true, true, true, true, true, true, true]) (u := []) (o := []); (first | exact a_add rfl rfl (by omega) (by omega)); exact rfl; kernel_rfl; kernel_rfl; kernel_rfl; exact rfl; exact rfl); all_goals (apply d_pN (i := 23) (fs := [true, true, true, true, true, true, true, true, true, true, true, true, true, true, true, true, true, true, true, true, true, true, true]) (u := []) (o := []); (first | exact a_pure (sv := .one _) rfl | exact a_pure (sv := .agg _) rfl | exact a_pure (sv := .tup _) rfl); exact rfl; kernel_rfl; kernel_rfl; kernel_rfl; exact rfl; exact rfl); all_goals (refine d_nil ?_; dsimp only [selT, selH, trues, SV.ren, C.ren, C.ren.all, tRen, GB.ren, calF, upOf, List.cons_append, List.nil_append, Nat.reduceAdd, setRow, List.map_cons, List.map_nil, scC, List.set_cons_zero, List.set_cons_succ, List.take_succ_cons, List.take_zero, List.drop_succ_cons, List.drop_zero]))); any_goals kernel_rfl)
      | (apply g_drN okM [[], [0], [0, 1], [0, 1, 2], [0, 1, 2, 3], [], [], [6], [6, 7], [6, 7, 8], [], [10], [6, 7, 8, 9, 10, 11], [], [13], [], [15], [15, 16], [15, 16, 17], [13, 14, 15, 16, 17, 18], [], [20], [20, 21], [20, 21, 22], [], [24], [6, 7, 8, 9, 10, 11, 12, 20, 21, 22, 23, 24, 25], [6, 7, 8, 9, 10, 11, 12, 13, 14, 15, 16, 17, 18, 19, 20, 21, 22, 23, 24, 25, 26], [0, 1, 2, 3, 4, 5, 6, 7, 8, 9, 10, 11, 12, 13, 14, 15, 16, 17, 18, 19, 20, 21, 22, 23, 24, 25, 26, 27], [0, 1, 2, 3, 4, 5, 6, 7, 8, 9, 10, 11, 12, 13, 14, 15, 16, 17, 18, 19, 20, 21, 22, 23, 24, 25, 26, 27, 28]] [([], []), ([], []), ([], []), ([], []), ([], []), ([], []), ([], []), ([], []), ([], []), ([], []), ([], []), ([], []), ([], [3, 5]), ([], []), ([], []), ([], []), ([], []), ([], []), ([], []), ([], []), ([], []), ([], []), ([], []), ([], []), ([], []), ([], []), ([], [2, 4]), ([], []), ([], []), ([], [1])] 0; (focus (all_goals (apply d_pN (i := 0) (fs := []) (u := [47, 48, 49, 50, 51, 52, 53, 54, 55, 56, 57, 58, 59, 60, 61, 62, 63, 64, 65, 66, 67, 68, 69]) (o := [(false, 3), (false, 5), (false, 2), (false, 4)]); (first | exact a_pure (sv := .one _) rfl | exact a_pure (sv := .agg _) rfl | exact a_pure (sv := .tup _) rfl); exact rfl; kernel_rfl; kernel_rfl; kernel_rfl; exact rfl; exact rfl); all_goals (apply d_pN (i := 1) (fs := [true]) (u := [47, 48, 49, 50, 51, 52, 53, 54, 55, 56, 57, 58, 59, 60, 61, 62, 63, 64, 65, 66, 67, 68, 69]) (o := [(false, 3), (false, 5), (false, 2), (false, 4)]); (first | exact a_pure (sv := .one _) rfl); exact rfl; kernel_rfl; kernel_rfl; kernel_rfl; exact rfl; exact rfl); all_goals (apply d_pN (i := 2) (fs := [true, true]) (u := [47, 48, 49, 50, 51, 52, 53, 54, 55, 56, 57, 58, 59, 60, 61, 62, 63, 64, 65, 66, 67, 68, 69]) (o := [(false, 3), (false, 5), (false, 2), (false, 4)]); (first | exact a_pure (sv := .one _) rfl); exact rfl; kernel_rfl; kernel_rfl; kernel_rfl; exact rfl; exact rfl); all_goals (apply d_pN (i := 3) (fs := [true, true, true]) (u := [47, 48, 49, 50, 51, 52, 53, 54, 55, 56, 57, 58, 59, 60, 61, 62, 63, 64, 65, 66, 67, 68, 69]) (o := [(false, 3), (false, 5), (false, 2), (false, 4)]); (first | exact a_pure (sv := .one _) rfl); exact rfl; kernel_rfl; kernel_rfl; kernel_rfl; exact rfl; exact rfl); all_goals (apply d_pN (i := 4) (fs := [true, true, true, true]) (u := [47, 48, 49, 50, 51, 52, 53, 54, 55, 56, 57, 58, 59, 60, 61, 62, 63, 64, 65, 66, 67, 68, 69]) (o := [(false, 3), (false, 5), (false, 2), (false, 4)]); (first | exact a_pure (sv := .one _) rfl | exact a_pure (sv := .agg _) rfl | exact a_ld_rowI rfl rfl rfl (fC rfl) bnd); exact rfl; kernel_rfl; kernel_rfl; kernel_rfl; exact rfl; exact rfl); all_goals (apply d_pN (i := 5) (fs := [false, false, false, false, false]) (u := [42, 43, 44, 45, 46, 48, 49, 50, 51, 52, 53, 54, 55, 56, 57, 58, 59, 60, 61, 62, 63, 64, 65, 66, 67, 68, 69]) (o := [(false, 3), (false, 5), (false, 2), (false, 4)]); (first | exact a_pure (sv := .one _) rfl | exact a_pure (sv := .agg _) rfl | exact a_pure (sv := .tup _) rfl); exact rfl; kernel_rfl; kernel_rfl; kernel_rfl; exact rfl; exact rfl); all_goals (apply d_pN (i := 6) (fs := [false, false, false, false, false, false]) (u := [42, 43, 44, 45, 46, 47, 52, 53, 55, 56, 57, 58, 59, 60, 61, 62, 63, 64, 65, 66, 67]) (o := []); (first | exact a_pure (sv := .one _) rfl | exact a_pure (sv := .agg _) rfl | exact a_pure (sv := .tup _) rfl); exact rfl; kernel_rfl; kernel_rfl; kernel_rfl; exact rfl; exact rfl); all_goals (apply d_pN (i := 7) (fs := [true, false, false, false, false, false, false]) (u := [42, 43, 44, 45, 46, 47, 52, 53, 55, 56, 57, 58, 59, 60, 61, 62, 63, 64, 65, 66, 67]) (o := []); (first | exact a_pure (sv := .one _) rfl); exact rfl; kernel_rfl; kernel_rfl; kernel_rfl; exact rfl; exact rfl); all_goals (apply d_pN (i := 8) (fs := [true, true, false, false, false, false, false, false]) (u := [42, 43, 44, 45, 46, 47, 52, 53, 55, 56, 57, 58, 59, 60, 61, 62, 63, 64, 65, 66, 67]) (o := []); (first | exact a_pure (sv := .one _) rfl); exact rfl; kernel_rfl; kernel_rfl; kernel_rfl; exact rfl; exact rfl); all_goals (apply d_pN (i := 9) (fs := [true, true, true, false, false, false, false, false, false]) (u := [42, 43, 44, 45, 46, 47, 52, 53, 55, 56, 57, 58, 59, 60, 61, 62, 63, 64, 65, 66, 67]) (o := []); (first | exact a_pure (sv := .one _) rfl | exact a_pure (sv := .agg _) rfl | exact a_ld_rowI rfl rfl rfl (fC rfl) bnd); exact rfl; kernel_rfl; kernel_rfl; kernel_rfl; exact rfl; exact rfl); all_goals (apply d_pN (i := 10) (fs := [false, false, false, false, false, false, false, false, false, false]) (u := [42, 43, 44, 45, 46, 47, 48, 49, 50, 51, 55, 56, 57, 58, 59, 60, 61, 62, 63, 64, 65, 66, 67]) (o := []); (first | exact a_pure (sv := .one _) rfl); exact rfl; kernel_rfl; kernel_rfl; kernel_rfl; exact rfl; exact rfl); all_goals (apply d_pN (i := 11) (fs := [true, false, false, false, false, false, false, false, false, false, false]) (u := [42, 43, 44, 45, 46, 47, 48, 49, 50, 51, 55, 56, 57, 58, 59, 60, 61, 62, 63, 64, 65, 66, 67]) (o := []); (first | exact a_pure (sv := .one _) rfl | exact a_pure (sv := .agg _) rfl | exact a_ld_rowI rfl rfl rfl (fC rfl) bnd); exact rfl; kernel_rfl; kernel_rfl; kernel_rfl; exact rfl; exact rfl); all_goals (apply d_uN (i := 12) (fs := [true, true, true, true, true, true, false, false, false, false, false, false]) (u := [42, 43, 44, 45, 46, 47, 55, 56, 57, 58, 59, 60, 61, 62, 63, 64, 65, 66, 67]) (o := []); (first | exact callD1 (n := _) 0 (θ := [_, _]) (hD := (number_ok _ _ preB15))); exact rfl; kernel_rfl; kernel_rfl; kernel_rfl; exact dst_some rfl; exact rfl; exact rfl); all_goals (apply d_pN (i := 13) (fs := [false, false, false, false, false, false, false, false, false, false, false, false, false]) (u := [42, 43, 44, 45, 46, 47, 48, 49, 50, 51, 52, 53, 54, 57, 58, 59, 60, 62, 63, 64, 65, 66, 67, 68]) (o := [(false, 3), (false, 5), (false, 2), (false, 4)]); (first | exact a_pure (sv := .one _) rfl); exact rfl; kernel_rfl; kernel_rfl; kernel_rfl; exact rfl; exact rfl); all_goals (apply d_pN (i := 14) (fs := [true, false, false, false, false, false, false, false, false, false, false, false, false, false]) (u := [42, 43, 44, 45, 46, 47, 48, 49, 50, 51, 52, 53, 54, 57, 58, 59, 60, 62, 63, 64, 65, 66, 67, 68]) (o := [(false, 3), (false, 5), (false, 2), (false, 4)]); (first | exact a_pure (sv := .one _) rfl | exact a_pure (sv := .agg _) rfl | exact a_ld_rowI rfl rfl rfl (fC rfl) bnd); exact rfl; kernel_rfl; kernel_rfl; kernel_rfl; exact rfl; exact rfl); all_goals (apply d_pN (i := 15) (fs := [false, false, false, false, false, false, false, false, false, false, false, false, false, false, false]) (u := [42, 43, 44, 45, 46, 47, 48, 49, 50, 51, 52, 53, 54, 55, 56, 62, 63, 64, 65, 66, 67, 68]) (o := [(false, 3), (false, 5), (false, 2), (false, 4)]); (first | exact a_pure (sv := .one _) rfl | exact a_pure (sv := .agg _) rfl | exact a_pure (sv := .tup _) rfl); exact rfl; kernel_rfl; kernel_rfl; kernel_rfl; exact rfl; exact rfl); all_goals (apply d_pN (i := 16) (fs := [true, false, false, false, false, false, false, false, false, false, false, false, false, false, false, false]) (u := [42, 43, 44, 45, 46, 47, 48, 49, 50, 51, 52, 53, 54, 55, 56, 62, 63, 64, 65, 66, 67, 68]) (o := [(false, 3), (false, 5), (false, 2), (false, 4)]); (first | exact a_pure (sv := .one _) rfl); exact rfl; kernel_rfl; kernel_rfl; kernel_rfl; exact rfl; exact rfl); all_goals (apply d_pN (i := 17) (fs := [true, true, false, false, false, false, false, false, false, false, false, false, false, false, false, false, false]) (u := [42, 43, 44, 45, 46, 47, 48, 49, 50, 51, 52, 53, 54, 55, 56, 62, 63, 64, 65, 66, 67, 68]) (o := [(false, 3), (false, 5), (false, 2), (false, 4)]); (first | exact a_pure (sv := .one _) rfl); exact rfl; kernel_rfl; kernel_rfl; kernel_rfl; exact rfl; exact rfl); all_goals (apply d_pN (i := 18) (fs := [true, true, true, false, false, false, false, false, false, false, false, false, false, false, false, false, false, false]) (u := [42, 43, 44, 45, 46, 47, 48, 49, 50, 51, 52, 53, 54, 55, 56, 62, 63, 64, 65, 66, 67, 68]) (o := [(false, 3), (false, 5), (false, 2), (false, 4)]); (first | exact a_pure (sv := .one _) rfl | exact a_pure (sv := .agg _) rfl | exact a_ld_rowI rfl rfl rfl (fC rfl) bnd); exact rfl; kernel_rfl; kernel_rfl; kernel_rfl; exact rfl; exact rfl); all_goals (apply d_pN (i := 19) (fs := [true, true, true, true, true, true, false, false, false, false, false, false, false, false, false, false, false, false, false]) (u := [42, 43, 44, 45, 46, 47, 48, 49, 50, 51, 52, 53, 54, 62, 63, 64, 65, 66, 67, 68]) (o := [(false, 3), (false, 5), (false, 2), (false, 4)]); (first | exact a_mulB rfl rfl (by omega) (by omega) (by omega) (by omega) | exact a_mul rfl rfl (by first | omega | assumption) (by first | omega | assumption)); exact rfl; kernel_rfl; kernel_rfl; kernel_rfl; exact rfl; exact rfl); all_goals (apply d_pN (i := 20) (fs := [false, false, false, false, false, false, false, false, false, false, false, false, false, false, false, false, false, false, false, false]) (u := [42, 43, 44, 45, 46, 47, 48, 49, 50, 51, 52, 53, 54, 55, 56, 57, 58, 59, 60, 61, 66, 67]) (o := [(false, 3), (false, 5)]); (first | exact a_pure (sv := .one _) rfl | exact a_pure (sv := .agg _) rfl | exact a_pure (sv := .tup _) rfl); exact rfl; kernel_rfl; kernel_rfl; kernel_rfl; exact rfl; exact rfl); all_goals (apply d_pN (i := 21) (fs := [true, false, false, false, false, false, false, false, false, false, false, false, false, false, false, false, false, false, false, false, false]) (u := [42, 43, 44, 45, 46, 47, 48, 49, 50, 51, 52, 53, 54, 55, 56, 57, 58, 59, 60, 61, 66, 67]) (o := [(false, 3), (false, 5)]); (first | exact a_pure (sv := .one _) rfl); exact rfl; kernel_rfl; kernel_rfl; kernel_rfl; exact rfl; exact rfl); all_goals (apply d_pN (i := 22) (fs := [true, true, false, false, false, false, false, false, false, false, false, false, false, false, false, false, false, false, false, false, false, false]) (u := [42, 43, 44, 45, 46, 47, 48, 49, 50, 51, 52, 53, 54, 55, 56, 57, 58, 59, 60, 61, 66, 67]) (o := [(false, 3), (false, 5)]); (first | exact a_pure (sv := .one _) rfl); exact rfl; kernel_rfl; kernel_rfl; kernel_rfl; exact rfl; exact rfl); all_goals (apply d_pN (i := 23) (fs := [true, true, true, false, false, false, false, false, false, false, false, false, false, false, false, false, false, false, false, false, false, false, false]) (u := [42, 43, 44, 45, 46, 47, 48, 49, 50, 51, 52, 53, 54, 55, 56, 57, 58, 59, 60, 61, 66, 67]) (o := [(false, 3), (false, 5)]); (first | exact a_pure (sv := .one _) rfl | exact a_pure (sv := .agg _) rfl | exact a_ld_rowI rfl rfl rfl (fC rfl) bnd); exact rfl; kernel_rfl; kernel_rfl; kernel_rfl; exact rfl; exact rfl); all_goals (apply d_pN (i := 24) (fs := [false, false, false, false, false, false, false, false, false, false, false, false, false, false, false, false, false, false, false, false, false, false, false, false]) (u := [42, 43, 44, 45, 46, 47, 48, 49, 50, 51, 52, 53, 54, 55, 56, 57, 58, 59, 60, 61, 62, 63, 64, 65]) (o := [(false, 3), (false, 5)]); (first | exact a_pure (sv := .one _) rfl); exact rfl; kernel_rfl; kernel_rfl; kernel_rfl; exact rfl; exact rfl); all_goals (apply d_pN (i := 25) (fs := [true, false, false, false, false, false, false, false, false, false, false, false, false, false, false, false, false, false, false, false, false, false, false, false, false]) (u := [42, 43, 44, 45, 46, 47, 48, 49, 50, 51, 52, 53, 54, 55, 56, 57, 58, 59, 60, 61, 62, 63, 64, 65]) (o := [(false, 3), (false, 5)]); (first | exact a_pure (sv := .one _) rfl | exact a_pure (sv := .agg _) rfl | exact a_ld_rowI rfl rfl rfl (fC rfl) bnd); exact rfl; kernel_rfl; kernel_rfl; kernel_rfl; exact rfl; exact rfl); all_goals (apply d_uN (i := 26) (fs := [true, true, true, true, true, true, false, false, false, false, false, false, false, true, true, true, true, true, true, true, false, false, false, false, false, false]) (u := [42, 43, 44, 45, 46, 47, 55, 56, 57, 58, 59, 60, 61]) (o := []); (first | exact callD1 (n := _) 0 (θ := [_, _]) (hD := (number_ok _ _ preB15))); exact rfl; kernel_rfl; kernel_rfl; kernel_rfl; exact dst_some rfl; exact rfl; exact rfl); all_goals (apply d_pN (i := 27) (fs := [true, true, true, true, true, true, true, true, true, true, true, true, true, true, true, true, true, true, true, true, true, false, false, false, false, false, false]) (u := [42, 43, 44, 45, 46, 47]) (o := []); (first | exact a_pure (sv := .agg _) rfl); exact rfl; kernel_rfl; kernel_rfl; kernel_rfl; exact rfl; exact rfl); all_goals (apply d_pN (i := 28) (fs := [true, true, true, true, true, true, true, true, true, true, true, true, true, true, true, true, true, true, true, true, true, true, true, true, true, true, true, true]) (u := []) (o := []); (first | exact a_iaE rfl rfl rfl (fS rfl) (by omega) bnd (by exact rfl) | exact a_iaO1 rfl rfl rfl (fS rfl) (by omega) bnd | exact a_iaO rfl rfl rfl (fS rfl) (by omega) bnd (by exact rfl)); exact rfl; kernel_rfl; kernel_rfl; kernel_rfl; exact rfl; exact rfl); all_goals (apply d_uE (i := 29) (fs := [true, true, true, true, true, true, true, true, true, true, true, true, true, true, true, true, true, true, true, true, true, true, true, true, true, true, true, true, true]) (u := []) (o := []); (first | exact a_st_bx rfl rfl rfl rfl (fN rfl rfl) (Nat.le_of_ble_eq_true rfl) rfl | exact a_stE (E := eR) ⟨_, _, _⟩ rfl rfl rfl rfl (fN rfl rfl) bnd (by exact rfl)); exact rfl; kernel_rfl; kernel_rfl; kernel_rfl; exact dst_none; exact rfl; exact rfl); all_goals (refine d_nil ?_; dsimp only [selT, selH, trues, SV.ren, C.ren, C.ren.all, tRen, GB.ren, calF, upOf, List.cons_append, List.nil_append, Nat.reduceAdd, setRow, List.map_cons, List.map_nil, scC, List.set_cons_zero, List.set_cons_succ, List.take_succ_cons, List.take_zero, List.drop_succ_cons, List.drop_zero]))); any_goals kernel_rfl)
      | (refine o_gs rfl rfl (fun hc => ?_) (fun hc => ?_) <;> (try simp only [decide_eq_true_eq, decide_eq_false_iff_not, Bool.not_eq_true', Bool.not_eq_false', Bool.not_eq_true, Bool.not_eq_false, Bool.and_eq_true, Bool.or_eq_false_iff, Bool.not_not] at hc) <;> (try (exfalso; omega)))
      | (refine g_cond rfl (fun hc => ?_) (fun hc => ?_) <;> (try simp only [decide_eq_true_eq, decide_eq_false_iff_not, Bool.not_eq_true', Bool.not_eq_false', Bool.not_eq_true, Bool.not_eq_false, Bool.and_eq_true, Bool.or_eq_false_iff, Bool.not_not] at hc) <;> (try (exfalso; omega)))
  · have hf : nmF x u = u.m := by unfold nmF; rw [if_pos hc]
    unfold nmS
    rw [hf]
    repeat (first | refine g_ret ?_ | refine q_sr ?_ | refine q_br ?_ | refine q_lr ?_ | refine q_cr ?_)
    refine ends_id ?_
    exact endK [] (h2 := (by first | (with_reducible exact SVLe.refl) | exact SVLe.any | exact SVLe.one (.sh rfl) | exact SVLe.one (.nil (by decide)) | (refine SVLe.agg ?_; repeat (first | exact CsLe.nil | refine CsLe.cons ?_ ?_ | exact CLe.refl | exact CLe.sh rfl | exact CLe.nil (by decide) | (refine cle_i ?_; rfl) | (refine cle_b ?_; rfl))) | (refine SVLe.tup ?_; repeat (first | exact TLe.nil | refine TLe.cons ?_ ?_ | exact CsLe.nil | refine CsLe.cons ?_ ?_ | exact CLe.refl | exact CLe.sh rfl | exact CLe.nil (by decide) | (refine cle_i ?_; rfl) | (refine cle_b ?_; rfl))) | exact SVLe.refl | (refine sle_i ?_; rfl) | (refine sle_b ?_; rfl))) (h3 := (by repeat (first | exact trivial | refine And.intro ?_ ?_ | exact Or.inl rfl | exact Or.inr rfl | (refine Or.inr (row_eq ?_); rfl) | (refine Or.inr (bx_eq rfl rfl ?_); (try dsimp only [C.ren, C.ren.all]); rfl))))
  · have hf : nmF x u = x.fi := by unfold nmF; rw [if_neg hc]
    unfold nmS
    rw [hf]
    repeat (first | refine g_ret ?_ | refine q_sr ?_ | refine q_br ?_ | refine q_lr ?_ | refine q_cr ?_)
    refine ends_id ?_
    exact endK [] (h2 := (by first | (with_reducible exact SVLe.refl) | exact SVLe.any | exact SVLe.one (.sh rfl) | exact SVLe.one (.nil (by decide)) | (refine SVLe.agg ?_; repeat (first | exact CsLe.nil | refine CsLe.cons ?_ ?_ | exact CLe.refl | exact CLe.sh rfl | exact CLe.nil (by decide) | (refine cle_i ?_; rfl) | (refine cle_b ?_; rfl))) | (refine SVLe.tup ?_; repeat (first | exact TLe.nil | refine TLe.cons ?_ ?_ | exact CsLe.nil | refine CsLe.cons ?_ ?_ | exact CLe.refl | exact CLe.sh rfl | exact CLe.nil (by decide) | (refine cle_i ?_; rfl) | (refine cle_b ?_; rfl))) | exact SVLe.refl | (refine sle_i ?_; rfl) | (refine sle_b ?_; rfl))) (h3 := (by repeat (first | exact trivial | refine And.intro ?_ ?_ | exact Or.inl rfl | exact Or.inr rfl | (refine Or.inr (row_eq ?_); rfl) | (refine Or.inr (bx_eq rfl rfl ?_); (try dsimp only [C.ren, C.ren.all]); rfl))))
/-- What holds of the names. -/
structure NmOk (m : Mach) (c : Conf) (x : Nm) : Prop where
  h_ru : x.ru.length = m.ru.length
  h_fi : x.fi = 0 ∨ x.fi = 1 ∨ x.fi = -1
  h_ks : x.ks.Nodup ∧ ∀ k ∈ x.ks, 0 ≤ k ∧ k ≤ m.st - 1
  h_ys : x.ys.Nodup ∧ ∀ k ∈ x.ys, 0 ≤ k ∧ k ≤ m.sy - 1
  h_c : c.st ∈ x.ks
  h_0 : 0 ∈ x.ys
  h_t : (∀ k ∈ c.le, k ∈ x.ys) ∧ ∀ k ∈ c.ri, k ∈ x.ys
/-- Different numbers below a bound are at most as many. -/
theorem pigeonN : ∀ (n : Nat) (l : List Int), l.Nodup → (∀ k ∈ l, 0 ≤ k ∧ k < n) → l.length ≤ n
  | 0, l, _, h2 => by
    cases l with
    | nil => simp
    | cons a l => have := h2 a (by simp); omega
  | n + 1, l, h1, h2 => by
    by_cases hn : (n : Int) ∈ l
    · have h3 := pigeonN n (l.erase (n : Int)) (h1.erase _) fun k hk => by
        rw [h1.mem_erase_iff] at hk
        have := h2 k hk.2
        have := hk.1
        omega
      rw [List.length_erase_of_mem hn] at h3
      omega
    · have h3 := pigeonN n l h1 fun k hk => by
        have := h2 k hk
        have : k ≠ (n : Int) := fun e => hn (e ▸ hk)
        omega
      omega
theorem pigeon {l : List Int} {n : Int} (h0 : 0 ≤ n) (h1 : l.Nodup) (h2 : ∀ k ∈ l, 0 ≤ k ∧ k ≤ n - 1) : (l.length : Int) ≤ n := by
  have := pigeonN n.toNat l h1 fun k hk => by have := h2 k hk; omega
  omega
theorem nmAt_lt {l : List Int} {k : Int} (h : k ∈ l) : 0 ≤ nmAt l k ∧ nmAt l k < l.length := by
  unfold nmAt
  have := List.idxOf_lt_length_of_mem h
  omega
theorem nmIn_mem {l : List Int} {k x : Int} : x ∈ nmIn l k ↔ x ∈ l ∨ x = k := by
  unfold nmIn
  split
  · rename_i h
    constructor
    · exact .inl
    · rintro (h1 | rfl)
      · exact h1
      · exact h
  · simp
theorem nmIn_nodup {l : List Int} {k : Int} (h : l.Nodup) : (nmIn l k).Nodup := by
  unfold nmIn
  split
  · exact h
  · rename_i hn
    rw [List.nodup_append]
    exact ⟨h, by simp, by simp; intro a ha e; subst e; exact hn ha⟩
/-- Where a rule is put. -/
theorem nm_at {m : Mach} {c : Conf} {x : Nm} (hm : vMach m = true) (hc : vConf m c = true) (h : NmOk m c x) : 0 ≤ nmAt x.ks c.st ∧ nmAt x.ks c.st ≤ 1000 ∧ 0 ≤ nmAt x.ys (c.ri.headD 0) ∧ nmAt x.ys (c.ri.headD 0) ≤ 6 ∧ nmAt x.ks c.st * m.sy + nmAt x.ys (c.ri.headD 0) < x.ru.length ∧ (x.ks.length : Int) ≤ 1000 ∧ (x.ys.length : Int) ≤ 6 ∧ c.ri.headD 0 ∈ x.ys := by
  have hv := vMach_bd hm
  have hy : c.ri.headD 0 ∈ x.ys := by
    cases hr : c.ri with
    | nil => exact h.h_0
    | cons a l => exact h.h_t.2 a (by rw [hr]; simp)
  have h1 := nmAt_lt h.h_c
  have h2 := nmAt_lt hy
  have h3 := pigeon (by omega) h.h_ks.1 h.h_ks.2
  have h4 := pigeon (by omega) h.h_ys.1 h.h_ys.2
  have h5 : nmAt x.ks c.st * m.sy ≤ (m.st - 1) * m.sy := Int.mul_le_mul_of_nonneg_right (by omega) (by omega)
  have h6 : (m.st - 1) * m.sy = m.sy * m.st - m.sy := by rw [Int.sub_mul, Int.mul_comm]; omega
  rw [h.h_ru]
  exact ⟨h1.1, by omega, h2.1, by omega, by omega, by omega, by omega, hy⟩
theorem NmOk.step {m : Mach} {c : Conf} {x : Nm} (hm : vMach m = true) (hc : vConf m c = true) (hn : ruAt m c ≠ noR) (h : NmOk m c x) (hd : Int) : NmOk m (stepS (ruAt m c) c) (nmS m c hd (ruAt m c) x) := by
  obtain ⟨hw, hmv, hst⟩ := ruAt_ok hm hc hn
  have ha := nm_at hm hc h
  have hcb := (vConf_bd hc).1
  have hfi : nmF x (ruAt m c) = 1 ∨ nmF x (ruAt m c) = -1 := by
    unfold nmF
    split
    · exact hmv
    · have := h.h_fi; omega
  have hy : c.ri.headD 0 ∈ x.ys := ha.2.2.2.2.2.2.2
  have hyi : nmIn x.ys (c.ri.headD 0) = x.ys := by unfold nmIn; rw [if_pos hy]
  have hki : nmIn x.ks c.st = x.ks := by unfold nmIn; rw [if_pos h.h_c]
  unfold nmS
  rw [hyi, hki]
  refine ⟨by dsimp only; rw [List.length_set]; exact h.h_ru, by dsimp only; omega, ⟨nmIn_nodup h.h_ks.1, fun k hk => ?_⟩, ⟨nmIn_nodup h.h_ys.1, fun k hk => ?_⟩, ?_, ?_, ?_⟩
  · rcases nmIn_mem.1 hk with hk | rfl
    · exact h.h_ks.2 k hk
    · exact hst
  · rcases nmIn_mem.1 hk with hk | rfl
    · exact h.h_ys.2 k hk
    · exact hw
  · rw [stepS_n]; exact nmIn_mem.2 (.inr rfl)
  · exact nmIn_mem.2 (.inl h.h_0)
  · dsimp only
    have hold : ∀ k, k ∈ c.le ∨ k ∈ c.ri → k ∈ nmIn x.ys (ruAt m c).w := fun k hk => nmIn_mem.2 (.inl (hk.elim (h.h_t.1 k) (h.h_t.2 k)))
    have hnew : (ruAt m c).w ∈ nmIn x.ys (ruAt m c).w := nmIn_mem.2 (.inr rfl)
    unfold stepS
    split
    · refine ⟨fun k hk => ?_, fun k hk => hold k (.inr (List.mem_of_mem_tail hk))⟩
      rcases List.mem_cons.1 (trimR_mem hk) with rfl | hk
      · exact hnew
      · exact hold k (.inl hk)
    · refine ⟨fun k hk => hold k (.inl (List.mem_of_mem_tail hk)), fun k hk => ?_⟩
      rcases List.mem_cons.1 (trimR_mem hk) with rfl | hk
      · cases hl : c.le with
        | nil => exact nmIn_mem.2 (.inl h.h_0)
        | cons a l => exact hold a (.inl (by rw [hl]; simp))
      · rcases List.mem_cons.1 (trimR_mem hk) with rfl | hk
        · exact hnew
        · exact hold k (.inr (List.mem_of_mem_tail hk))
end Go.Proofs.Ytncccjpbaeaafaa
