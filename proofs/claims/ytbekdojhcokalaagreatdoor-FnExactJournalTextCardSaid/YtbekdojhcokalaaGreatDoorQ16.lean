/- Parts of the proof (16 of 19). -/
import Derived.Test.YtbekdojhcokalaaGreatDoorQ15
section
set_option linter.unusedVariables false
set_option linter.unusedSimpArgs false
set_option maxRecDepth 100000
set_option maxHeartbeats 4000000
namespace Go.Proofs.YtbekdojhcokalaaGreatDoor
open Go Foot
@[irreducible] def isWrd (w : List Int) : Bool := decide ((w.length : Int) ≤ 400) && inAll 0 9 w
theorem preB34 {p : Prop} (h : p := by first | with_reducible assumption | omega | (simp only [List.length_append, List.length_cons, List.length_nil, List.length_set, List.length_replicate, List.length_take, List.length_drop, List.length_tail, List.length_dropLast, List.length_reverse] at *; omega) | exact mem_len (by assumption) (by omega) | (with_reducible refine Int.le_trans (Int.ofNat_le.2 (trimR_len _)) ?_; simp only [List.length_cons, List.length_tail]; omega) | (exact (ruAt_ok (by assumption) (by assumption) (by assumption)).2.1) | (exact (ruAt_ok (by assumption) (by assumption) (by assumption)).2.1) | (have := vMach_bd (by assumption); omega) | (simp only [mC_ch, mC_tu]; omega) | (with_reducible refine Int.le_trans (Int.ofNat_le.2 (pushL_len _ _)) ?_; simp only [List.length_dropLast]; omega) | exact (ask_ok (by assumption)).1 | exact (ask_ok (by assumption)).2.1 | exact (ask_ok (by assumption)).2.2.1 | exact (ask_ok (by assumption)).2.2.2 | trivial) : p := h
theorem isLetters_ok (w : List Int) (hx : (w.length : Int) ≤ 16777216) : Does Tryz.prog 262 [.one (shI w)] [] (.one (boo (inAll 0 9 w))) [] := by
  refine does_of (k := 0) Tryz.func262 rfl Tryz.ntmps262 rfl rfl fun w F0 S0 ρ0 => ?_
  dsimp only [argT, argH]
  repeat' first
    | refine g_seq ?_
    | refine g_skip ?_
    | refine g_exit ?_
    | refine g_block ?_
    | refine g_reg ?_
    | refine g_if_t rfl ?_
    | refine g_if_f rfl ?_
    | refine o_nil ?_
    | refine q_s ?_
    | refine q_se ?_
    | refine q_b ?_
    | refine q_be rfl ?_
    | refine q_bn rfl ?_
    | refine q_le ?_
    | refine q_ce ?_
    | (apply p3; exact pu1; exact rfl)
    | (apply c4 0; exact callK1 (θ := []) (hD := (allWithin_ok _ _ _ preB34)); exact rfl; exact rfl; exact rfl; (try dsimp only [SV.ren, C.ren, C.ren.all, tRen, GB.ren, calF, upOf, List.cons_append, List.nil_append, Nat.reduceAdd]))
    | (refine o_gs rfl rfl (fun hc => ?_) (fun hc => ?_) <;> (try simp only [decide_eq_true_eq, decide_eq_false_iff_not, Bool.not_eq_true', Bool.not_eq_false', Bool.not_eq_true, Bool.not_eq_false, Bool.and_eq_true, Bool.or_eq_false_iff, Bool.not_not] at hc) <;> (try (first | contradiction | (exfalso; omega))))
    | (refine g_cond rfl (fun hc => ?_) (fun hc => ?_) <;> (try simp only [decide_eq_true_eq, decide_eq_false_iff_not, Bool.not_eq_true', Bool.not_eq_false', Bool.not_eq_true, Bool.not_eq_false, Bool.and_eq_true, Bool.or_eq_false_iff, Bool.not_not] at hc) <;> (try (first | contradiction | (exfalso; omega))))
  repeat (first | refine g_ret ?_ | refine q_sr ?_ | refine q_br ?_ | refine q_lr ?_ | refine q_cr ?_)
  refine ends_id ?_
  refine endK [] (h2 := ?_) (h3 := ?_) (nd := ?_)
  all_goals (repeat' first | with_reducible exact SVLe.refl | exact SVLe.any | exact SVLe.one (.sh rfl) | exact SVLe.one (.nil (by decide)) | refine SVLe.agg ?_ | refine SVLe.tup ?_ | exact TLe.nil | refine TLe.cons ?_ ?_ | exact CsLe.nil | refine CsLe.cons ?_ ?_ | exact CLe.refl | exact CLe.sh rfl | exact CLe.nil (by decide) | refine cle_i ?_ | refine cle_b ?_ | exact trivial | refine And.intro ?_ ?_ | exact Or.inl rfl | exact Or.inr rfl | refine Or.inr (row_eq ?_) | (refine Or.inr (bx_eq rfl rfl ?_); (try dsimp only [C.ren, C.ren.all]); (try exact rfl)) | exact SVLe.refl | refine sle_i ?_ | refine sle_b ?_)
  all_goals first | exact (show nodupB _ = true from rfl) | exact Or.inr rfl | (rfl)
theorem IsWord_ok (w : List Int) (hx : (w.length : Int) ≤ 16777216) : Does Tryz.prog 229 [.one (shI w)] [] (.one (boo (isWrd w))) [] := by
  refine does_of (k := 0) Tryz.func229 rfl Tryz.ntmps229 rfl rfl fun w F0 S0 ρ0 => ?_
  dsimp only [argT, argH]
  repeat' first
    | refine g_seq ?_
    | refine g_skip ?_
    | refine g_exit ?_
    | refine g_block ?_
    | refine g_reg ?_
    | refine g_if_t rfl ?_
    | refine g_if_f rfl ?_
    | refine o_nil ?_
    | refine q_s ?_
    | refine q_se ?_
    | refine q_b ?_
    | refine q_be rfl ?_
    | refine q_bn rfl ?_
    | refine q_le ?_
    | refine q_ce ?_
    | (apply p3; (first | exact pu1 | exact puN | exact a_len_str rfl (fT rfl) | exact puC); exact rfl)
    | (apply c4 0; exact callK1 (θ := []) (hD := (isLetters_ok _ preB34)); exact rfl; exact rfl; exact rfl; (try dsimp only [SV.ren, C.ren, C.ren.all, tRen, GB.ren, calF, upOf, List.cons_append, List.nil_append, Nat.reduceAdd]))
    | refine o_no rfl rfl rfl rfl ?_
    | refine o_noN rfl rfl rfl ?_
    | (apply py3; exact rfl; exact rfl; (first | exact pu1 | exact puN | exact a_len_str rfl (fT rfl) | exact puC); exact rfl; exact rfl)
    | (apply cy4 0; exact rfl; exact rfl; exact callK1 (θ := []) (hD := (isLetters_ok _ preB34)); exact rfl; exact rfl; exact rfl; exact rfl; (try dsimp only [SV.ren, C.ren, C.ren.all, tRen, GB.ren, calF, upOf, List.cons_append, List.nil_append, Nat.reduceAdd]))
    | (refine o_gs rfl rfl (fun hc => ?_) (fun hc => ?_) <;> (try simp only [decide_eq_true_eq, decide_eq_false_iff_not, Bool.not_eq_true', Bool.not_eq_false', Bool.not_eq_true, Bool.not_eq_false, Bool.and_eq_true, Bool.or_eq_false_iff, Bool.not_not] at hc) <;> (try (first | contradiction | (exfalso; omega))))
    | (refine g_cond rfl (fun hc => ?_) (fun hc => ?_) <;> (try simp only [decide_eq_true_eq, decide_eq_false_iff_not, Bool.not_eq_true', Bool.not_eq_false', Bool.not_eq_true, Bool.not_eq_false, Bool.and_eq_true, Bool.or_eq_false_iff, Bool.not_not] at hc) <;> (try (first | contradiction | (exfalso; omega))))
  all_goals
    repeat (first | refine g_ret ?_ | refine q_sr ?_ | refine q_br ?_ | refine q_lr ?_ | refine q_cr ?_)
    refine ends_id ?_
    refine endK [] (h2 := ?_) (h3 := ?_) (nd := ?_)
    all_goals (repeat' first | with_reducible exact SVLe.refl | exact SVLe.any | exact SVLe.one (.sh rfl) | exact SVLe.one (.nil (by decide)) | refine SVLe.agg ?_ | refine SVLe.tup ?_ | exact TLe.nil | refine TLe.cons ?_ ?_ | exact CsLe.nil | refine CsLe.cons ?_ ?_ | exact CLe.refl | exact CLe.sh rfl | exact CLe.nil (by decide) | refine cle_i ?_ | refine cle_b ?_ | exact trivial | refine And.intro ?_ ?_ | exact Or.inl rfl | exact Or.inr rfl | refine Or.inr (row_eq ?_) | (refine Or.inr (bx_eq rfl rfl ?_); (try dsimp only [C.ren, C.ren.all]); (try exact rfl)) | exact SVLe.refl | refine sle_i ?_ | refine sle_b ?_)
    all_goals first | exact (show nodupB _ = true from rfl) | exact Or.inr rfl | ((unfold isWrd; first | (simp [*]; done) | (rw [decide_eq_false] <;> first | rfl | omega | (simp; done)) | (rw [decide_eq_true] <;> first | rfl | omega | (simp [*]; done)) | (simp_all; done) | (simp_all; omega)))
theorem areW1_ok (w : List Int) (hx : (w.length : Int) ≤ 16777216) : Does Tryz.prog 228 [.one (shI w)] [] (.one (boo (!isWrd w))) [] := by
  refine does_of (k := 0) Tryz.func228 rfl Tryz.ntmps228 rfl rfl fun w F0 S0 ρ0 => ?_
  dsimp only [argT, argH]
  repeat' first
    | refine g_seq ?_
    | refine g_skip ?_
    | refine g_exit ?_
    | refine g_block ?_
    | refine g_reg ?_
    | refine g_if_t rfl ?_
    | refine g_if_f rfl ?_
    | refine o_nil ?_
    | refine q_s ?_
    | refine q_se ?_
    | refine q_b ?_
    | refine q_be rfl ?_
    | refine q_bn rfl ?_
    | refine q_le ?_
    | refine q_ce ?_
    | (apply p3; exact pu1; exact rfl)
    | (apply c4 0; exact callK1 (θ := []) (hD := (IsWord_ok _ preB34)); exact rfl; exact rfl; exact rfl; (try dsimp only [SV.ren, C.ren, C.ren.all, tRen, GB.ren, calF, upOf, List.cons_append, List.nil_append, Nat.reduceAdd]))
    | (refine o_gs rfl rfl (fun hc => ?_) (fun hc => ?_) <;> (try simp only [decide_eq_true_eq, decide_eq_false_iff_not, Bool.not_eq_true', Bool.not_eq_false', Bool.not_eq_true, Bool.not_eq_false, Bool.and_eq_true, Bool.or_eq_false_iff, Bool.not_not] at hc) <;> (try (first | contradiction | (exfalso; omega))))
    | (refine g_cond rfl (fun hc => ?_) (fun hc => ?_) <;> (try simp only [decide_eq_true_eq, decide_eq_false_iff_not, Bool.not_eq_true', Bool.not_eq_false', Bool.not_eq_true, Bool.not_eq_false, Bool.and_eq_true, Bool.or_eq_false_iff, Bool.not_not] at hc) <;> (try (first | contradiction | (exfalso; omega))))
  repeat (first | refine g_ret ?_ | refine q_sr ?_ | refine q_br ?_ | refine q_lr ?_ | refine q_cr ?_)
  refine ends_id ?_
  refine endK [] (h2 := ?_) (h3 := ?_) (nd := ?_)
  all_goals (repeat' first | with_reducible exact SVLe.refl | exact SVLe.any | exact SVLe.one (.sh rfl) | exact SVLe.one (.nil (by decide)) | refine SVLe.agg ?_ | refine SVLe.tup ?_ | exact TLe.nil | refine TLe.cons ?_ ?_ | exact CsLe.nil | refine CsLe.cons ?_ ?_ | exact CLe.refl | exact CLe.sh rfl | exact CLe.nil (by decide) | refine cle_i ?_ | refine cle_b ?_ | exact trivial | refine And.intro ?_ ?_ | exact Or.inl rfl | exact Or.inr rfl | refine Or.inr (row_eq ?_) | (refine Or.inr (bx_eq rfl rfl ?_); (try dsimp only [C.ren, C.ren.all]); (try exact rfl)) | exact SVLe.refl | refine sle_i ?_ | refine sle_b ?_)
  all_goals first | exact (show nodupB _ = true from rfl) | exact Or.inr rfl | (rfl)
theorem hasW1_ok (xs : List (List Int)) (hx : (xs.length : Int) ≤ 16777216) (hxs : ∀ x ∈ xs, (x.length : Int) ≤ 16777216) : Does Tryz.prog 227 [.one (shW xs), .one (.d (.fn (.func 228) []))] [] (.one (boo (xs.any fun w => !isWrd w))) [] := hasW_ok xs _ _ hx hxs (fQ rfl) fun r hr => areW1_ok r hr
theorem areWords_ok (xs : List (List Int)) (hx : (xs.length : Int) ≤ 16777216) (hxs : ∀ x ∈ xs, (x.length : Int) ≤ 16777216) : Does Tryz.prog 184 [.one (shW xs)] [] (.one (boo (xs.all isWrd))) [] := by
  refine does_of (k := 0) Tryz.func184 rfl Tryz.ntmps184 rfl rfl fun w F0 S0 ρ0 => ?_
  dsimp only [argT, argH]
  repeat' first
    | refine g_seq ?_
    | refine g_skip ?_
    | refine g_exit ?_
    | refine g_block ?_
    | refine g_reg ?_
    | refine g_if_t rfl ?_
    | refine g_if_f rfl ?_
    | refine o_nil ?_
    | refine q_s ?_
    | refine q_se ?_
    | refine q_b ?_
    | refine q_be rfl ?_
    | refine q_bn rfl ?_
    | refine q_le ?_
    | refine q_ce ?_
    | (apply p3; exact pu1; exact rfl)
    | (apply c4 0; exact callK1 (θ := []) (hD := (hasWd_ok _ _ _ _ preB34 preB34 preB34 preB34)); exact rfl; exact rfl; exact rfl; (try dsimp only [SV.ren, C.ren, C.ren.all, tRen, GB.ren, calF, upOf, List.cons_append, List.nil_append, Nat.reduceAdd]))
    | (apply c4 0; exact callK1 (θ := []) (hD := (hasW1_ok _ preB34 preB34)); exact rfl; exact rfl; exact rfl; (try dsimp only [SV.ren, C.ren, C.ren.all, tRen, GB.ren, calF, upOf, List.cons_append, List.nil_append, Nat.reduceAdd]))
    | (apply c4 0; exact callK1 (θ := []) (hD := (hasWT_ok _ _ preB34 preB34 preB34 preB34)); exact rfl; exact rfl; exact rfl; (try dsimp only [SV.ren, C.ren, C.ren.all, tRen, GB.ren, calF, upOf, List.cons_append, List.nil_append, Nat.reduceAdd]))
    | (refine o_gs rfl rfl (fun hc => ?_) (fun hc => ?_) <;> (try simp only [decide_eq_true_eq, decide_eq_false_iff_not, Bool.not_eq_true', Bool.not_eq_false', Bool.not_eq_true, Bool.not_eq_false, Bool.and_eq_true, Bool.or_eq_false_iff, Bool.not_not] at hc) <;> (try (first | contradiction | (exfalso; omega))))
    | (refine g_cond rfl (fun hc => ?_) (fun hc => ?_) <;> (try simp only [decide_eq_true_eq, decide_eq_false_iff_not, Bool.not_eq_true', Bool.not_eq_false', Bool.not_eq_true, Bool.not_eq_false, Bool.and_eq_true, Bool.or_eq_false_iff, Bool.not_not] at hc) <;> (try (first | contradiction | (exfalso; omega))))
  repeat (first | refine g_ret ?_ | refine q_sr ?_ | refine q_br ?_ | refine q_lr ?_ | refine q_cr ?_)
  refine ends_id ?_
  refine endK [] (h2 := ?_) (h3 := ?_) (nd := ?_)
  all_goals (repeat' first | with_reducible exact SVLe.refl | exact SVLe.any | exact SVLe.one (.sh rfl) | exact SVLe.one (.nil (by decide)) | refine SVLe.agg ?_ | refine SVLe.tup ?_ | exact TLe.nil | refine TLe.cons ?_ ?_ | exact CsLe.nil | refine CsLe.cons ?_ ?_ | exact CLe.refl | exact CLe.sh rfl | exact CLe.nil (by decide) | refine cle_i ?_ | refine cle_b ?_ | exact trivial | refine And.intro ?_ ?_ | exact Or.inl rfl | exact Or.inr rfl | refine Or.inr (row_eq ?_) | (refine Or.inr (bx_eq rfl rfl ?_); (try dsimp only [C.ren, C.ren.all]); (try exact rfl)) | exact SVLe.refl | refine sle_i ?_ | refine sle_b ?_)
  all_goals first | exact (show nodupB _ = true from rfl) | exact Or.inr rfl | (exact not_any_not _ _)
@[irreducible] def validP (p : Prf) : Bool := decide ((1 ≤ p.k ∧ p.k ≤ 8) ∧ (p.nu.length : Int) ≤ 300 ∧ (p.wo.length : Int) ≤ 300) && inAll (-1000000000000) 1000000000000 p.nu && p.wo.all isWrd
theorem ValidProof_ok (p : Prf) (hx : (p.nu.length : Int) ≤ 16777216) (hy : (p.wo.length : Int) ≤ 16777216) (hys : ∀ x ∈ p.wo, (x.length : Int) ≤ 16777216) : Does Tryz.prog 122 [.agg (prC p)] [] (.one (boo (validP p))) [] := by
  refine does_of (k := 0) Tryz.func122 rfl Tryz.ntmps122 rfl rfl fun w F0 S0 ρ0 => ?_
  dsimp only [argT, argH]
  repeat' first
    | refine g_seq ?_
    | refine g_skip ?_
    | refine g_exit ?_
    | refine g_block ?_
    | refine g_reg ?_
    | refine g_if_t rfl ?_
    | refine g_if_f rfl ?_
    | refine o_nil ?_
    | refine q_s ?_
    | refine q_se ?_
    | refine q_b ?_
    | refine q_be rfl ?_
    | refine q_bn rfl ?_
    | refine q_le ?_
    | refine q_ce ?_
    | (apply n3; exact a_new (gb := .bx _) rfl; exact rfl; (try dsimp only [List.map_cons, List.map_nil, scC, Nat.reduceAdd]))
    | (apply p3; (first | exact pu1 | exact puL | exact puN | exact a_len_str rfl (fT rfl) | exact puC); exact rfl)
    | (apply c4 0; exact callK1 (θ := []) (hD := (within_ok _ _ _)); exact rfl; exact rfl; exact rfl; (try dsimp only [SV.ren, C.ren, C.ren.all, tRen, GB.ren, calF, upOf, List.cons_append, List.nil_append, Nat.reduceAdd]))
    | (apply c4 0; exact callK1 (θ := []) (hD := (allWithin_ok _ _ _ preB34)); exact rfl; exact rfl; exact rfl; (try dsimp only [SV.ren, C.ren, C.ren.all, tRen, GB.ren, calF, upOf, List.cons_append, List.nil_append, Nat.reduceAdd]))
    | (apply c4 0; exact callK1 (θ := []) (hD := (areWords_ok _ preB34 preB34)); exact rfl; exact rfl; exact rfl; (try dsimp only [SV.ren, C.ren, C.ren.all, tRen, GB.ren, calF, upOf, List.cons_append, List.nil_append, Nat.reduceAdd]))
    | refine o_no rfl rfl rfl rfl ?_
    | refine o_noN rfl rfl rfl ?_
    | (apply py3; exact rfl; exact rfl; (first | exact pu1 | exact puL | exact puN | exact a_len_str rfl (fT rfl) | exact puC); exact rfl; exact rfl)
    | (apply ny3; exact rfl; exact rfl; exact a_new (gb := .bx _) rfl; exact rfl; exact rfl)
    | (apply cy4 0; exact rfl; exact rfl; exact callK1 (θ := []) (hD := (within_ok _ _ _)); exact rfl; exact rfl; exact rfl; exact rfl; (try dsimp only [SV.ren, C.ren, C.ren.all, tRen, GB.ren, calF, upOf, List.cons_append, List.nil_append, Nat.reduceAdd]))
    | (apply cy4 0; exact rfl; exact rfl; exact callK1 (θ := []) (hD := (allWithin_ok _ _ _ preB34)); exact rfl; exact rfl; exact rfl; exact rfl; (try dsimp only [SV.ren, C.ren, C.ren.all, tRen, GB.ren, calF, upOf, List.cons_append, List.nil_append, Nat.reduceAdd]))
    | (apply cy4 0; exact rfl; exact rfl; exact callK1 (θ := []) (hD := (areWords_ok _ preB34 preB34)); exact rfl; exact rfl; exact rfl; exact rfl; (try dsimp only [SV.ren, C.ren, C.ren.all, tRen, GB.ren, calF, upOf, List.cons_append, List.nil_append, Nat.reduceAdd]))
    | (refine o_gs rfl rfl (fun hc => ?_) (fun hc => ?_) <;> (try simp only [decide_eq_true_eq, decide_eq_false_iff_not, Bool.not_eq_true', Bool.not_eq_false', Bool.not_eq_true, Bool.not_eq_false, Bool.and_eq_true, Bool.or_eq_false_iff, Bool.not_not] at hc) <;> (try (first | contradiction | (exfalso; omega))))
    | (refine g_cond rfl (fun hc => ?_) (fun hc => ?_) <;> (try simp only [decide_eq_true_eq, decide_eq_false_iff_not, Bool.not_eq_true', Bool.not_eq_false', Bool.not_eq_true, Bool.not_eq_false, Bool.and_eq_true, Bool.or_eq_false_iff, Bool.not_not] at hc) <;> (try (first | contradiction | (exfalso; omega))))
  all_goals
    repeat (first | refine g_ret ?_ | refine q_sr ?_ | refine q_br ?_ | refine q_lr ?_ | refine q_cr ?_)
    refine ends_id ?_
    refine endK [] (h2 := ?_) (h3 := ?_) (nd := ?_)
    all_goals (repeat' first | with_reducible exact SVLe.refl | exact SVLe.any | exact SVLe.one (.sh rfl) | exact SVLe.one (.nil (by decide)) | refine SVLe.agg ?_ | refine SVLe.tup ?_ | exact TLe.nil | refine TLe.cons ?_ ?_ | exact CsLe.nil | refine CsLe.cons ?_ ?_ | exact CLe.refl | exact CLe.sh rfl | exact CLe.nil (by decide) | refine cle_i ?_ | refine cle_b ?_ | exact trivial | refine And.intro ?_ ?_ | exact Or.inl rfl | exact Or.inr rfl | refine Or.inr (row_eq ?_) | (refine Or.inr (bx_eq rfl rfl ?_); (try dsimp only [C.ren, C.ren.all]); (try exact rfl)) | exact SVLe.refl | refine sle_i ?_ | refine sle_b ?_)
    all_goals first | exact (show nodupB _ = true from rfl) | exact Or.inr rfl | ((unfold validP; first | (simp [*]; done) | (rw [decide_eq_false] <;> first | rfl | omega | (simp; done)) | (rw [decide_eq_true] <;> first | rfl | omega | (simp [*]; done)) | (simp_all; done) | (simp_all; omega)))
theorem l03Is_ok (lw : List Int) (hx : (lw.length : Int) ≤ 16777216) : Does Tryz.prog 260 [.one (shI lw)] [] (.one (boo (isWrd lw))) [] := by
  refine does_of (k := 0) Tryz.func260 rfl Tryz.ntmps260 rfl rfl fun w F0 S0 ρ0 => ?_
  dsimp only [argT, argH]
  repeat' first
    | refine g_seq ?_
    | refine g_skip ?_
    | refine g_exit ?_
    | refine g_block ?_
    | refine g_reg ?_
    | refine g_if_t rfl ?_
    | refine g_if_f rfl ?_
    | refine o_nil ?_
    | refine q_s ?_
    | refine q_se ?_
    | refine q_b ?_
    | refine q_be rfl ?_
    | refine q_bn rfl ?_
    | refine q_le ?_
    | refine q_ce ?_
    | (apply p3; (first | exact pu1 | exact puL | exact puN | exact a_len_str rfl (fT rfl) | exact puC | exact a_add rfl rfl (by omega) (by omega) | exact puI); exact rfl)
    | (apply c4 0; exact callK1 (θ := []) (hD := (l00In_ok _ _ _)); exact rfl; exact rfl; exact rfl; (try dsimp only [SV.ren, C.ren, C.ren.all, tRen, GB.ren, calF, upOf, List.cons_append, List.nil_append, Nat.reduceAdd]))
    | (refine o_gs rfl rfl (fun hc => ?_) (fun hc => ?_) <;> (try simp only [decide_eq_true_eq, decide_eq_false_iff_not, Bool.not_eq_true', Bool.not_eq_false', Bool.not_eq_true, Bool.not_eq_false, Bool.and_eq_true, Bool.or_eq_false_iff, Bool.not_not] at hc) <;> (try (first | contradiction | (exfalso; omega))))
    | (refine g_cond rfl (fun hc => ?_) (fun hc => ?_) <;> (try simp only [decide_eq_true_eq, decide_eq_false_iff_not, Bool.not_eq_true', Bool.not_eq_false', Bool.not_eq_true, Bool.not_eq_false, Bool.and_eq_true, Bool.or_eq_false_iff, Bool.not_not] at hc) <;> (try (first | contradiction | (exfalso; omega))))
  refine g_loop_id ?_
  refine loopK [0, 2] [] (fun i : Int => 0 ≤ i ∧ i ≤ lw.length ∧ (lw.take i.toNat).all (fun x => decide (0 ≤ x ∧ x ≤ 9)) = true) (fun i => [(3, .one (int i))]) (fun _ => []) (fun i => (lw.length - i).toNat) (0 : Int) [] (hI := ?_) (hr := ?_)
  · exact ⟨by omega, by omega, rfl⟩
  · rintro i ⟨h0, h1, h2⟩
    dsimp only [List.cons_append, List.nil_append] at *
    skip
    repeat' first
      | refine g_seq ?_
      | refine g_skip ?_
      | refine g_exit ?_
      | refine g_block ?_
      | refine g_reg ?_
      | refine g_if_t rfl ?_
      | refine g_if_f rfl ?_
      | refine o_nil ?_
      | refine q_s ?_
      | refine q_se ?_
      | refine q_b ?_
      | refine q_be rfl ?_
      | refine q_bn rfl ?_
      | refine q_le ?_
      | refine q_ce ?_
      | (apply p3; (first | exact pu1 | exact puL | exact puN | exact a_len_str rfl (fT rfl) | exact puC | exact a_add rfl rfl (by omega) (by omega) | exact puI); exact rfl)
      | (apply c4 0; exact callK1 (θ := []) (hD := (l00In_ok _ _ _)); exact rfl; exact rfl; exact rfl; (try dsimp only [SV.ren, C.ren, C.ren.all, tRen, GB.ren, calF, upOf, List.cons_append, List.nil_append, Nat.reduceAdd]))
      | (refine o_gs rfl rfl (fun hc => ?_) (fun hc => ?_) <;> (try simp only [decide_eq_true_eq, decide_eq_false_iff_not, Bool.not_eq_true', Bool.not_eq_false', Bool.not_eq_true, Bool.not_eq_false, Bool.and_eq_true, Bool.or_eq_false_iff, Bool.not_not] at hc) <;> (try (first | contradiction | (exfalso; omega))))
      | (refine g_cond rfl (fun hc => ?_) (fun hc => ?_) <;> (try simp only [decide_eq_true_eq, decide_eq_false_iff_not, Bool.not_eq_true', Bool.not_eq_false', Bool.not_eq_true, Bool.not_eq_false, Bool.and_eq_true, Bool.or_eq_false_iff, Bool.not_not] at hc) <;> (try (first | contradiction | (exfalso; omega))))
    · have e : inAll 0 9 lw = false := by unfold inAll; rw [all_no _ _ i.toNat (by omega) (by rw [decide_eq_true_eq]; exact hc)]
      repeat (first | refine g_ret ?_ | refine q_sr ?_ | refine q_br ?_ | refine q_lr ?_ | refine q_cr ?_)
      refine ends_id ?_
      refine endK [] (h2 := ?_) (h3 := ?_) (nd := ?_)
      all_goals (repeat' first | with_reducible exact SVLe.refl | exact SVLe.any | exact SVLe.one (.sh rfl) | exact SVLe.one (.nil (by decide)) | refine SVLe.agg ?_ | refine SVLe.tup ?_ | exact TLe.nil | refine TLe.cons ?_ ?_ | exact CsLe.nil | refine CsLe.cons ?_ ?_ | exact CLe.refl | exact CLe.sh rfl | exact CLe.nil (by decide) | refine cle_i ?_ | refine cle_b ?_ | exact trivial | refine And.intro ?_ ?_ | exact Or.inl rfl | exact Or.inr rfl | refine Or.inr (row_eq ?_) | (refine Or.inr (bx_eq rfl rfl ?_); (try dsimp only [C.ren, C.ren.all]); (try exact rfl)) | exact SVLe.refl | refine sle_i ?_ | refine sle_b ?_)
      all_goals first | exact (show nodupB _ = true from rfl) | exact Or.inr rfl | ((unfold isWrd; rw [e]; simp))
    · refine q_again (i + 1) [] (by exact stk) ?_ ?_
      · exact ⟨by omega, by omega, all_snocI _ _ _ h0 (by omega) h2 (by rw [decide_eq_true_eq]; exact hc)⟩
      · omega
    · have e : inAll 0 9 lw = true := by unfold inAll; rw [List.take_of_length_le (by omega)] at h2; exact h2
      repeat (first | refine g_ret ?_ | refine q_sr ?_ | refine q_br ?_ | refine q_lr ?_ | refine q_cr ?_)
      refine ends_id ?_
      refine endK [] (h2 := ?_) (h3 := ?_) (nd := ?_)
      all_goals (repeat' first | with_reducible exact SVLe.refl | exact SVLe.any | exact SVLe.one (.sh rfl) | exact SVLe.one (.nil (by decide)) | refine SVLe.agg ?_ | refine SVLe.tup ?_ | exact TLe.nil | refine TLe.cons ?_ ?_ | exact CsLe.nil | refine CsLe.cons ?_ ?_ | exact CLe.refl | exact CLe.sh rfl | exact CLe.nil (by decide) | refine cle_i ?_ | refine cle_b ?_ | exact trivial | refine And.intro ?_ ?_ | exact Or.inl rfl | exact Or.inr rfl | refine Or.inr (row_eq ?_) | (refine Or.inr (bx_eq rfl rfl ?_); (try dsimp only [C.ren, C.ren.all]); (try exact rfl)) | exact SVLe.refl | refine sle_i ?_ | refine sle_b ?_)
      all_goals first | exact (show nodupB _ = true from rfl) | exact Or.inr rfl | ((unfold isWrd; rw [e]; simp))
theorem l03All_ok (xs : List (List Int)) (hx : (xs.length : Int) ≤ 16777216) (hxs : ∀ x ∈ xs, (x.length : Int) ≤ 16777216) : Does Tryz.prog 222 [.one (shW xs)] [] (.one (boo (xs.all isWrd))) [] := by
  refine does_of (k := 0) Tryz.func222 rfl Tryz.ntmps222 rfl rfl fun w F0 S0 ρ0 => ?_
  dsimp only [argT, argH]
  repeat' first
    | refine g_seq ?_
    | refine g_skip ?_
    | refine g_exit ?_
    | refine g_block ?_
    | refine g_reg ?_
    | refine g_if_t rfl ?_
    | refine g_if_f rfl ?_
    | refine o_nil ?_
    | refine q_s ?_
    | refine q_se ?_
    | refine q_b ?_
    | refine q_be rfl ?_
    | refine q_bn rfl ?_
    | refine q_le ?_
    | refine q_ce ?_
    | (apply p3; (first | exact pu1 | exact puL | exact puN | exact a_len_str rfl (fT rfl) | exact puC | exact a_add rfl rfl (by omega) (by omega) | exact puI); exact rfl)
    | (apply c4 0; exact callK1 (θ := []) (hD := (l03Is_ok _ preB34)); exact rfl; exact rfl; exact rfl; (try dsimp only [SV.ren, C.ren, C.ren.all, tRen, GB.ren, calF, upOf, List.cons_append, List.nil_append, Nat.reduceAdd]))
    | (refine o_gs rfl rfl (fun hc => ?_) (fun hc => ?_) <;> (try simp only [decide_eq_true_eq, decide_eq_false_iff_not, Bool.not_eq_true', Bool.not_eq_false', Bool.not_eq_true, Bool.not_eq_false, Bool.and_eq_true, Bool.or_eq_false_iff, Bool.not_not] at hc) <;> (try (first | contradiction | (exfalso; omega))))
    | (refine g_cond rfl (fun hc => ?_) (fun hc => ?_) <;> (try simp only [decide_eq_true_eq, decide_eq_false_iff_not, Bool.not_eq_true', Bool.not_eq_false', Bool.not_eq_true, Bool.not_eq_false, Bool.and_eq_true, Bool.or_eq_false_iff, Bool.not_not] at hc) <;> (try (first | contradiction | (exfalso; omega))))
  refine g_loop_id ?_
  refine loopK [0, 2] [] (fun i : Int => 0 ≤ i ∧ i ≤ xs.length ∧ (xs.take i.toNat).all isWrd = true) (fun i => [(3, .one (int i))]) (fun _ => []) (fun i => (xs.length - i).toNat) (0 : Int) [] (hI := ?_) (hr := ?_)
  · exact ⟨by omega, by omega, rfl⟩
  · rintro i ⟨h0, h1, h2⟩
    dsimp only [List.cons_append, List.nil_append] at *
    skip
    repeat' first
      | refine g_seq ?_
      | refine g_skip ?_
      | refine g_exit ?_
      | refine g_block ?_
      | refine g_reg ?_
      | refine g_if_t rfl ?_
      | refine g_if_f rfl ?_
      | refine o_nil ?_
      | refine q_s ?_
      | refine q_se ?_
      | refine q_b ?_
      | refine q_be rfl ?_
      | refine q_bn rfl ?_
      | refine q_le ?_
      | refine q_ce ?_
      | (apply p3; (first | exact pu1 | exact puL | exact puN | exact a_len_str rfl (fT rfl) | exact puC | exact a_add rfl rfl (by omega) (by omega) | exact puI); exact rfl)
      | (apply c4 0; exact callK1 (θ := []) (hD := (l03Is_ok _ preB34)); exact rfl; exact rfl; exact rfl; (try dsimp only [SV.ren, C.ren, C.ren.all, tRen, GB.ren, calF, upOf, List.cons_append, List.nil_append, Nat.reduceAdd]))
      | (refine o_gs rfl rfl (fun hc => ?_) (fun hc => ?_) <;> (try simp only [decide_eq_true_eq, decide_eq_false_iff_not, Bool.not_eq_true', Bool.not_eq_false', Bool.not_eq_true, Bool.not_eq_false, Bool.and_eq_true, Bool.or_eq_false_iff, Bool.not_not] at hc) <;> (try (first | contradiction | (exfalso; omega))))
      | (refine g_cond rfl (fun hc => ?_) (fun hc => ?_) <;> (try simp only [decide_eq_true_eq, decide_eq_false_iff_not, Bool.not_eq_true', Bool.not_eq_false', Bool.not_eq_true, Bool.not_eq_false, Bool.and_eq_true, Bool.or_eq_false_iff, Bool.not_not] at hc) <;> (try (first | contradiction | (exfalso; omega))))
    · repeat (first | refine g_ret ?_ | refine q_sr ?_ | refine q_br ?_ | refine q_lr ?_ | refine q_cr ?_)
      refine ends_id ?_
      refine endK [] (h2 := ?_) (h3 := ?_) (nd := ?_)
      all_goals (repeat' first | with_reducible exact SVLe.refl | exact SVLe.any | exact SVLe.one (.sh rfl) | exact SVLe.one (.nil (by decide)) | refine SVLe.agg ?_ | refine SVLe.tup ?_ | exact TLe.nil | refine TLe.cons ?_ ?_ | exact CsLe.nil | refine CsLe.cons ?_ ?_ | exact CLe.refl | exact CLe.sh rfl | exact CLe.nil (by decide) | refine cle_i ?_ | refine cle_b ?_ | exact trivial | refine And.intro ?_ ?_ | exact Or.inl rfl | exact Or.inr rfl | refine Or.inr (row_eq ?_) | (refine Or.inr (bx_eq rfl rfl ?_); (try dsimp only [C.ren, C.ren.all]); (try exact rfl)) | exact SVLe.refl | refine sle_i ?_ | refine sle_b ?_)
      all_goals first | exact (show nodupB _ = true from rfl) | exact Or.inr rfl | ((rw [all_no _ _ i.toNat (by omega) (by simp [hc])]))
    · refine q_again (i + 1) [] (by exact stk) ?_ ?_
      · exact ⟨by omega, by omega, all_snocI _ _ _ h0 (by omega) h2 hc⟩
      · omega
    · repeat (first | refine g_ret ?_ | refine q_sr ?_ | refine q_br ?_ | refine q_lr ?_ | refine q_cr ?_)
      refine ends_id ?_
      refine endK [] (h2 := ?_) (h3 := ?_) (nd := ?_)
      all_goals (repeat' first | with_reducible exact SVLe.refl | exact SVLe.any | exact SVLe.one (.sh rfl) | exact SVLe.one (.nil (by decide)) | refine SVLe.agg ?_ | refine SVLe.tup ?_ | exact TLe.nil | refine TLe.cons ?_ ?_ | exact CsLe.nil | refine CsLe.cons ?_ ?_ | exact CLe.refl | exact CLe.sh rfl | exact CLe.nil (by decide) | refine cle_i ?_ | refine cle_b ?_ | exact trivial | refine And.intro ?_ ?_ | exact Or.inl rfl | exact Or.inr rfl | refine Or.inr (row_eq ?_) | (refine Or.inr (bx_eq rfl rfl ?_); (try dsimp only [C.ren, C.ren.all]); (try exact rfl)) | exact SVLe.refl | refine sle_i ?_ | refine sle_b ?_)
      all_goals first | exact (show nodupB _ = true from rfl) | exact Or.inr rfl | ((rw [List.take_of_length_le (by omega)] at h2; exact h2.symm))
theorem l25Is_ok (p : Prf) (hx : (p.nu.length : Int) ≤ 16777216) (hy : (p.wo.length : Int) ≤ 16777216) (hys : ∀ x ∈ p.wo, (x.length : Int) ≤ 16777216) : Does Tryz.prog 173 [.one (prB p)] [] (.one (boo (validP p))) [] := by
  refine does_of (k := 0) Tryz.func173 rfl Tryz.ntmps173 rfl rfl fun w F0 S0 ρ0 => ?_
  dsimp only [argT, argH]
  repeat' first
    | refine g_seq ?_
    | refine g_skip ?_
    | refine g_exit ?_
    | refine g_block ?_
    | refine g_reg ?_
    | refine g_if_t rfl ?_
    | refine g_if_f rfl ?_
    | refine o_nil ?_
    | refine q_s ?_
    | refine q_se ?_
    | refine q_b ?_
    | refine q_be rfl ?_
    | refine q_bn rfl ?_
    | refine q_le ?_
    | refine q_ce ?_
    | (apply p3; (first | exact pu1 | exact puL | exact puN | exact a_len_str rfl (fT rfl) | exact puC | exact a_add rfl rfl (by omega) (by omega) | exact puI); exact rfl)
    | (apply c4 0; exact callK1 (θ := []) (hD := (l00In_ok _ _ _)); exact rfl; exact rfl; exact rfl; (try dsimp only [SV.ren, C.ren, C.ren.all, tRen, GB.ren, calF, upOf, List.cons_append, List.nil_append, Nat.reduceAdd]))
    | (apply c4 0; exact callK1 (θ := []) (hD := (l03All_ok _ preB34 preB34)); exact rfl; exact rfl; exact rfl; (try dsimp only [SV.ren, C.ren, C.ren.all, tRen, GB.ren, calF, upOf, List.cons_append, List.nil_append, Nat.reduceAdd]))
    | refine o_no rfl rfl rfl rfl ?_
    | refine o_noN rfl rfl rfl ?_
    | (apply py3; exact rfl; exact rfl; (first | exact pu1 | exact puL | exact puN | exact a_len_str rfl (fT rfl) | exact puC | exact a_add rfl rfl (by omega) (by omega) | exact puI); exact rfl; exact rfl)
    | (apply cy4 0; exact rfl; exact rfl; exact callK1 (θ := []) (hD := (l00In_ok _ _ _)); exact rfl; exact rfl; exact rfl; exact rfl; (try dsimp only [SV.ren, C.ren, C.ren.all, tRen, GB.ren, calF, upOf, List.cons_append, List.nil_append, Nat.reduceAdd]))
    | (apply cy4 0; exact rfl; exact rfl; exact callK1 (θ := []) (hD := (l03All_ok _ preB34 preB34)); exact rfl; exact rfl; exact rfl; exact rfl; (try dsimp only [SV.ren, C.ren, C.ren.all, tRen, GB.ren, calF, upOf, List.cons_append, List.nil_append, Nat.reduceAdd]))
    | (refine o_gs rfl rfl (fun hc => ?_) (fun hc => ?_) <;> (try simp only [decide_eq_true_eq, decide_eq_false_iff_not, Bool.not_eq_true', Bool.not_eq_false', Bool.not_eq_true, Bool.not_eq_false, Bool.and_eq_true, Bool.or_eq_false_iff, Bool.not_not] at hc) <;> (try (first | contradiction | (exfalso; omega))))
    | (refine g_cond rfl (fun hc => ?_) (fun hc => ?_) <;> (try simp only [decide_eq_true_eq, decide_eq_false_iff_not, Bool.not_eq_true', Bool.not_eq_false', Bool.not_eq_true, Bool.not_eq_false, Bool.and_eq_true, Bool.or_eq_false_iff, Bool.not_not] at hc) <;> (try (first | contradiction | (exfalso; omega))))
  · repeat (first | refine g_ret ?_ | refine q_sr ?_ | refine q_br ?_ | refine q_lr ?_ | refine q_cr ?_)
    refine ends_id ?_
    refine endK [] (h2 := ?_) (h3 := ?_) (nd := ?_)
    all_goals (repeat' first | with_reducible exact SVLe.refl | exact SVLe.any | exact SVLe.one (.sh rfl) | exact SVLe.one (.nil (by decide)) | refine SVLe.agg ?_ | refine SVLe.tup ?_ | exact TLe.nil | refine TLe.cons ?_ ?_ | exact CsLe.nil | refine CsLe.cons ?_ ?_ | exact CLe.refl | exact CLe.sh rfl | exact CLe.nil (by decide) | refine cle_i ?_ | refine cle_b ?_ | exact trivial | refine And.intro ?_ ?_ | exact Or.inl rfl | exact Or.inr rfl | refine Or.inr (row_eq ?_) | (refine Or.inr (bx_eq rfl rfl ?_); (try dsimp only [C.ren, C.ren.all]); (try exact rfl)) | exact SVLe.refl | refine sle_i ?_ | refine sle_b ?_)
    all_goals first | exact (show nodupB _ = true from rfl) | exact Or.inr rfl | ((unfold validP; first | (simp [*]; done) | (rw [decide_eq_false] <;> first | rfl | omega | (simp; done)) | (rw [decide_eq_true] <;> first | rfl | omega | (simp [*]; done)) | (simp_all; done) | (simp_all; omega)))
  · repeat (first | refine g_ret ?_ | refine q_sr ?_ | refine q_br ?_ | refine q_lr ?_ | refine q_cr ?_)
    refine ends_id ?_
    refine endK [] (h2 := ?_) (h3 := ?_) (nd := ?_)
    all_goals (repeat' first | with_reducible exact SVLe.refl | exact SVLe.any | exact SVLe.one (.sh rfl) | exact SVLe.one (.nil (by decide)) | refine SVLe.agg ?_ | refine SVLe.tup ?_ | exact TLe.nil | refine TLe.cons ?_ ?_ | exact CsLe.nil | refine CsLe.cons ?_ ?_ | exact CLe.refl | exact CLe.sh rfl | exact CLe.nil (by decide) | refine cle_i ?_ | refine cle_b ?_ | exact trivial | refine And.intro ?_ ?_ | exact Or.inl rfl | exact Or.inr rfl | refine Or.inr (row_eq ?_) | (refine Or.inr (bx_eq rfl rfl ?_); (try dsimp only [C.ren, C.ren.all]); (try exact rfl)) | exact SVLe.refl | refine sle_i ?_ | refine sle_b ?_)
    all_goals first | exact (show nodupB _ = true from rfl) | exact Or.inr rfl | ((unfold validP; first | (simp [*]; done) | (rw [decide_eq_false] <;> first | rfl | omega | (simp; done)) | (rw [decide_eq_true] <;> first | rfl | omega | (simp [*]; done)) | (simp_all; done) | (simp_all; omega)))
  · repeat (first | refine g_ret ?_ | refine q_sr ?_ | refine q_br ?_ | refine q_lr ?_ | refine q_cr ?_)
    refine ends_id ?_
    refine endK [] (h2 := ?_) (h3 := ?_) (nd := ?_)
    all_goals (repeat' first | with_reducible exact SVLe.refl | exact SVLe.any | exact SVLe.one (.sh rfl) | exact SVLe.one (.nil (by decide)) | refine SVLe.agg ?_ | refine SVLe.tup ?_ | exact TLe.nil | refine TLe.cons ?_ ?_ | exact CsLe.nil | refine CsLe.cons ?_ ?_ | exact CLe.refl | exact CLe.sh rfl | exact CLe.nil (by decide) | refine cle_i ?_ | refine cle_b ?_ | exact trivial | refine And.intro ?_ ?_ | exact Or.inl rfl | exact Or.inr rfl | refine Or.inr (row_eq ?_) | (refine Or.inr (bx_eq rfl rfl ?_); (try dsimp only [C.ren, C.ren.all]); (try exact rfl)) | exact SVLe.refl | refine sle_i ?_ | refine sle_b ?_)
    all_goals first | exact (show nodupB _ = true from rfl) | exact Or.inr rfl | ((unfold validP; first | (simp [*]; done) | (rw [decide_eq_false] <;> first | rfl | omega | (simp; done)) | (rw [decide_eq_true] <;> first | rfl | omega | (simp [*]; done)) | (simp_all; done) | (simp_all; omega)))
  refine g_loop_id ?_
  refine loopK [0, 2] [] (fun i : Int => 0 ≤ i ∧ i ≤ p.nu.length ∧ (p.nu.take i.toNat).all (fun x => decide (-1000000000000 ≤ x ∧ x ≤ 1000000000000)) = true) (fun i => [(3, .one (int i))]) (fun _ => []) (fun i => (p.nu.length - i).toNat) (0 : Int) [] (hI := ?_) (hr := ?_)
  · exact ⟨by omega, by omega, rfl⟩
  · rintro i ⟨h0, h1, h2⟩
    dsimp only [List.cons_append, List.nil_append] at *
    skip
    repeat' first
      | refine g_seq ?_
      | refine g_skip ?_
      | refine g_exit ?_
      | refine g_block ?_
      | refine g_reg ?_
      | refine g_if_t rfl ?_
      | refine g_if_f rfl ?_
      | refine o_nil ?_
      | refine q_s ?_
      | refine q_se ?_
      | refine q_b ?_
      | refine q_be rfl ?_
      | refine q_bn rfl ?_
      | refine q_le ?_
      | refine q_ce ?_
      | (apply p3; (first | exact pu1 | exact puL | exact puN | exact a_len_str rfl (fT rfl) | exact puC | exact a_add rfl rfl (by omega) (by omega) | exact puI); exact rfl)
      | (apply c4 0; exact callK1 (θ := []) (hD := (l00In_ok _ _ _)); exact rfl; exact rfl; exact rfl; (try dsimp only [SV.ren, C.ren, C.ren.all, tRen, GB.ren, calF, upOf, List.cons_append, List.nil_append, Nat.reduceAdd]))
      | (apply c4 0; exact callK1 (θ := []) (hD := (l03All_ok _ preB34 preB34)); exact rfl; exact rfl; exact rfl; (try dsimp only [SV.ren, C.ren, C.ren.all, tRen, GB.ren, calF, upOf, List.cons_append, List.nil_append, Nat.reduceAdd]))
      | (refine o_gs rfl rfl (fun hc => ?_) (fun hc => ?_) <;> (try simp only [decide_eq_true_eq, decide_eq_false_iff_not, Bool.not_eq_true', Bool.not_eq_false', Bool.not_eq_true, Bool.not_eq_false, Bool.and_eq_true, Bool.or_eq_false_iff, Bool.not_not] at hc) <;> (try (first | contradiction | (exfalso; omega))))
      | (refine g_cond rfl (fun hc => ?_) (fun hc => ?_) <;> (try simp only [decide_eq_true_eq, decide_eq_false_iff_not, Bool.not_eq_true', Bool.not_eq_false', Bool.not_eq_true, Bool.not_eq_false, Bool.and_eq_true, Bool.or_eq_false_iff, Bool.not_not] at hc) <;> (try (first | contradiction | (exfalso; omega))))
    · have e : inAll (-1000000000000) 1000000000000 p.nu = false := by unfold inAll; rw [all_no _ _ i.toNat (by omega) (by rw [decide_eq_true_eq]; exact hc)]
      repeat (first | refine g_ret ?_ | refine q_sr ?_ | refine q_br ?_ | refine q_lr ?_ | refine q_cr ?_)
      refine ends_id ?_
      refine endK [] (h2 := ?_) (h3 := ?_) (nd := ?_)
      all_goals (repeat' first | with_reducible exact SVLe.refl | exact SVLe.any | exact SVLe.one (.sh rfl) | exact SVLe.one (.nil (by decide)) | refine SVLe.agg ?_ | refine SVLe.tup ?_ | exact TLe.nil | refine TLe.cons ?_ ?_ | exact CsLe.nil | refine CsLe.cons ?_ ?_ | exact CLe.refl | exact CLe.sh rfl | exact CLe.nil (by decide) | refine cle_i ?_ | refine cle_b ?_ | exact trivial | refine And.intro ?_ ?_ | exact Or.inl rfl | exact Or.inr rfl | refine Or.inr (row_eq ?_) | (refine Or.inr (bx_eq rfl rfl ?_); (try dsimp only [C.ren, C.ren.all]); (try exact rfl)) | exact SVLe.refl | refine sle_i ?_ | refine sle_b ?_)
      all_goals first | exact (show nodupB _ = true from rfl) | exact Or.inr rfl | ((unfold validP; rw [e]; simp))
    · refine q_again (i + 1) [] (by exact stk) ?_ ?_
      · exact ⟨by omega, by omega, all_snocI _ _ _ h0 (by omega) h2 (by rw [decide_eq_true_eq]; exact hc)⟩
      · omega
    · have e : inAll (-1000000000000) 1000000000000 p.nu = true := by unfold inAll; rw [List.take_of_length_le (by omega)] at h2; exact h2
      repeat (first | refine g_ret ?_ | refine q_sr ?_ | refine q_br ?_ | refine q_lr ?_ | refine q_cr ?_)
      refine ends_id ?_
      refine endK [] (h2 := ?_) (h3 := ?_) (nd := ?_)
      all_goals (repeat' first | with_reducible exact SVLe.refl | exact SVLe.any | exact SVLe.one (.sh rfl) | exact SVLe.one (.nil (by decide)) | refine SVLe.agg ?_ | refine SVLe.tup ?_ | exact TLe.nil | refine TLe.cons ?_ ?_ | exact CsLe.nil | refine CsLe.cons ?_ ?_ | exact CLe.refl | exact CLe.sh rfl | exact CLe.nil (by decide) | refine cle_i ?_ | refine cle_b ?_ | exact trivial | refine And.intro ?_ ?_ | exact Or.inl rfl | exact Or.inr rfl | refine Or.inr (row_eq ?_) | (refine Or.inr (bx_eq rfl rfl ?_); (try dsimp only [C.ren, C.ren.all]); (try exact rfl)) | exact SVLe.refl | refine sle_i ?_ | refine sle_b ?_)
      all_goals first | exact (show nodupB _ = true from rfl) | exact Or.inr rfl | ((unfold validP; rw [e, decide_eq_true (by omega)]; simp))
end Go.Proofs.YtbekdojhcokalaaGreatDoor
end
section
set_option linter.unusedVariables false
set_option linter.unusedSimpArgs false
set_option maxRecDepth 100000
set_option maxHeartbeats 4000000
namespace Go.Proofs.YtbekdojhcokalaaGreatDoor
open Go Foot
@[irreducible] def rulT (r : Rule') : Bs := if r = ⟨0, 0, -1⟩ then [45, 45, 45] else decT r.w ++ (if r.m < 0 then [76] else [82]) ++ decT r.n
def RuBd (r : Rule') : Prop := (-1000000 ≤ r.w ∧ r.w ≤ 1000000) ∧ (-1000000 ≤ r.m ∧ r.m ≤ 1000000) ∧ (-1000000 ≤ r.n ∧ r.n ≤ 1000000)
theorem dec_le {n : Int} (h0 : -1000000000000000000 ≤ n) (h1 : n ≤ 1000000000000000000) : ((decT n).length : Int) ≤ 21 := by have := decT_le (n := n) (by omega) (by omega); omega
theorem rulT_le {r : Rule'} (h : RuBd r) : ((rulT r).length : Int) ≤ 43 := by
  unfold rulT
  split
  · simp
  · have := dec_le (n := r.w) (by have := h.1; omega) (by have := h.1; omega)
    have := dec_le (n := r.n) (by have := h.2.2; omega) (by have := h.2.2; omega)
    simp only [List.length_append]
    split <;> simp only [List.length_cons, List.length_nil] <;> omega
theorem preB51 {p : Prop} (h : p := by first | with_reducible assumption | omega | (simp only [List.length_append, List.length_cons, List.length_nil, List.length_set, List.length_replicate, List.length_take, List.length_drop, List.length_tail, List.length_dropLast, List.length_reverse] at *; omega) | exact mem_len (by assumption) (by omega) | (with_reducible refine Int.le_trans (Int.ofNat_le.2 (trimR_len _)) ?_; simp only [List.length_cons, List.length_tail]; omega) | (exact (ruAt_ok (by assumption) (by assumption) (by assumption)).2.1) | (exact (ruAt_ok (by assumption) (by assumption) (by assumption)).2.1) | (have := vMach_bd (by assumption); omega) | (simp only [mC_ch, mC_tu]; omega) | (have := vTag_bd (by assumption); omega) | (have := (‹Gd _ _›).le; omega) | (exact tgHalts_no (by assumption)) | (exact tgHead (by assumption) (by assumption) (by assumption)) | (exact Int.le_trans (tgStep_gd (by assumption) (by assumption) (by assumption) (by assumption)).le (by decide)) | (exact vTag_r (by assumption)) | (with_reducible refine Int.le_trans (Int.ofNat_le.2 (pushL_len _ _)) ?_; simp only [List.length_dropLast]; omega) | exact (ask_ok (by assumption)).1 | exact (ask_ok (by assumption)).2.1 | exact (ask_ok (by assumption)).2.2.1 | exact (ask_ok (by assumption)).2.2.2 | trivial) : p := h
theorem ruleText_ok (r : Rule') (h : -1000000 ≤ r.w ∧ r.w ≤ 1000000) (h2 : -1000000 ≤ r.n ∧ r.n ≤ 1000000) : Does Tryz.prog 136 [.agg (ruC r)] [] (.one (str (rulT r))) [] := by
  have d1 := dec_le (n := r.w) (by omega) (by omega)
  have d2 := dec_le (n := r.n) (by omega) (by omega)
  have e1 : ((decT r.w ++ [76]).length : Int) = (decT r.w).length + 1 := by simp
  have e2 : ((decT r.w ++ [82]).length : Int) = (decT r.w).length + 1 := by simp
  by_cases hr : r = ⟨0, 0, -1⟩
  · have e : rulT r = [45, 45, 45] := by unfold rulT; rw [if_pos hr]
    rw [e]
    refine does_of (k := 0) Tryz.func136 rfl Tryz.ntmps136 rfl rfl fun w F0 S0 ρ0 => ?_
    dsimp only [argT, argH]
    repeat' first
      | refine g_seq ?_
      | refine g_skip ?_
      | refine g_exit ?_
      | refine g_block ?_
      | refine g_reg ?_
      | refine g_if_t rfl ?_
      | refine g_if_f rfl ?_
      | refine o_nil ?_
      | refine q_s ?_
      | refine q_se ?_
      | refine q_b ?_
      | refine q_be rfl ?_
      | refine q_bn rfl ?_
      | refine q_le ?_
      | refine q_ce ?_
      | (apply n3; exact a_new (gb := .bx _) rfl; exact rfl; (try dsimp only [List.map_cons, List.map_nil, scC, Nat.reduceAdd]))
      | (apply p3; (first | exact pu1 | exact puL | exact puC); exact rfl)
      | (apply c4 0; exact callK1 (θ := []) (hD := (isRule_ok _)); exact rfl; exact rfl; exact rfl; (try dsimp only [SV.ren, C.ren, C.ren.all, tRen, GB.ren, calF, upOf, List.cons_append, List.nil_append, Nat.reduceAdd]))
      | (apply g_drN (id := 6) okM [[], [0], [0, 1], [], [0, 1, 2, 3], [], [5], [0, 1, 2, 5, 6], [0, 1, 2, 3, 4, 5, 6, 7], [0, 1, 2, 3, 4, 5, 6, 7, 8]] [([], []), ([], []), ([], []), ([], []), ([], []), ([], []), ([], []), ([], []), ([], []), ([], [])] 0; (focus (all_goals refine dp 0 0 [13, 15, 16] [] (a_pure (sv := .one _) rfl) ?_; all_goals refine dp 1 1 [13, 15, 16] [] puL ?_; all_goals refine dp 2 3 [13, 15, 16] [] (callD1 (n := _) 0 (θ := []) (hD := (Decimal_ok _ preB51 preB51))) ?_; all_goals refine dp 3 0 [10, 11, 12, 15, 16, 17] [] pu1 ?_; all_goals refine dp 4 15 [15, 16, 17] [] (a_addS rfl rfl (by first | omega | (simp only [List.length_append, List.length_cons, List.length_nil]; omega))) ?_; all_goals refine dp 5 0 [10, 11, 12, 13, 14] [] (a_pure (sv := .one _) rfl) ?_; all_goals refine dp 6 1 [10, 11, 12, 13, 14] [] puL ?_; all_goals refine dp 7 115 [13, 14] [] (callD1 (n := _) 0 (θ := []) (hD := (Decimal_ok _ preB51 preB51))) ?_; all_goals refine dp 8 255 [] [] (a_addS rfl rfl (by first | omega | (simp only [List.length_append, List.length_cons, List.length_nil]; omega))) ?_; all_goals refine dp 9 511 [] [] pu1 ?_; all_goals (refine d_nil ?_; dsimp only [selT, selH, trues, SV.ren, C.ren, C.ren.all, tRen, GB.ren, calF, upOf, List.cons_append, List.nil_append, Nat.reduceAdd, setRow, List.map_cons, List.map_nil, scC, List.set_cons_zero, List.set_cons_succ, List.take_succ_cons, List.take_zero, List.drop_succ_cons, List.drop_zero]))); any_goals kernel_rfl)
      | (refine o_gs rfl rfl (fun hc => ?_) (fun hc => ?_) <;> (try simp only [decide_eq_true_eq, decide_eq_false_iff_not, Bool.not_eq_true', Bool.not_eq_false', Bool.not_eq_true, Bool.not_eq_false, Bool.and_eq_true, Bool.or_eq_false_iff, Bool.not_not] at hc) <;> (try (first | contradiction | (exfalso; omega))))
      | (refine g_cond rfl (fun hc => ?_) (fun hc => ?_) <;> (try simp only [decide_eq_true_eq, decide_eq_false_iff_not, Bool.not_eq_true', Bool.not_eq_false', Bool.not_eq_true, Bool.not_eq_false, Bool.and_eq_true, Bool.or_eq_false_iff, Bool.not_not] at hc) <;> (try (first | contradiction | (exfalso; omega))))
    repeat (first | refine g_ret ?_ | refine q_sr ?_ | refine q_br ?_ | refine q_lr ?_ | refine q_cr ?_)
    refine ends_id ?_
    refine endK [] (h2 := ?_) (h3 := ?_) (nd := ?_)
    all_goals (repeat' first | with_reducible exact SVLe.refl | exact SVLe.any | exact SVLe.one (.sh rfl) | exact SVLe.one (.nil (by decide)) | refine SVLe.agg ?_ | refine SVLe.tup ?_ | exact TLe.nil | refine TLe.cons ?_ ?_ | exact CsLe.nil | refine CsLe.cons ?_ ?_ | exact CLe.refl | exact CLe.sh rfl | exact CLe.nil (by decide) | refine cle_i ?_ | refine cle_b ?_ | exact trivial | refine And.intro ?_ ?_ | exact Or.inl rfl | exact Or.inr rfl | refine Or.inr (row_eq ?_) | (refine Or.inr (bx_eq rfl rfl ?_); (try dsimp only [C.ren, C.ren.all]); (try exact rfl)) | exact SVLe.refl | refine sle_i ?_ | refine sle_b ?_)
    all_goals first | exact (show nodupB _ = true from rfl) | exact Or.inr rfl | (rfl)
  by_cases hm : r.m < 0
  · have e : rulT r = decT r.w ++ [76] ++ decT r.n := by unfold rulT; rw [if_neg hr, if_pos hm]
    rw [e]
    refine does_of (k := 0) Tryz.func136 rfl Tryz.ntmps136 rfl rfl fun w F0 S0 ρ0 => ?_
    dsimp only [argT, argH]
    repeat' first
      | refine g_seq ?_
      | refine g_skip ?_
      | refine g_exit ?_
      | refine g_block ?_
      | refine g_reg ?_
      | refine g_if_t rfl ?_
      | refine g_if_f rfl ?_
      | refine o_nil ?_
      | refine q_s ?_
      | refine q_se ?_
      | refine q_b ?_
      | refine q_be rfl ?_
      | refine q_bn rfl ?_
      | refine q_le ?_
      | refine q_ce ?_
      | (apply n3; exact a_new (gb := .bx _) rfl; exact rfl; (try dsimp only [List.map_cons, List.map_nil, scC, Nat.reduceAdd]))
      | (apply p3; (first | exact pu1 | exact puL | exact puC); exact rfl)
      | (apply c4 0; exact callK1 (θ := []) (hD := (isRule_ok _)); exact rfl; exact rfl; exact rfl; (try dsimp only [SV.ren, C.ren, C.ren.all, tRen, GB.ren, calF, upOf, List.cons_append, List.nil_append, Nat.reduceAdd]))
      | (apply g_drN (id := 6) okM [[], [0], [0, 1], [], [0, 1, 2, 3], [], [5], [0, 1, 2, 5, 6], [0, 1, 2, 3, 4, 5, 6, 7], [0, 1, 2, 3, 4, 5, 6, 7, 8]] [([], []), ([], []), ([], []), ([], []), ([], []), ([], []), ([], []), ([], []), ([], []), ([], [])] 0; (focus (all_goals refine dp 0 0 [13, 15, 16] [] (a_pure (sv := .one _) rfl) ?_; all_goals refine dp 1 1 [13, 15, 16] [] puL ?_; all_goals refine dp 2 3 [13, 15, 16] [] (callD1 (n := _) 0 (θ := []) (hD := (Decimal_ok _ preB51 preB51))) ?_; all_goals refine dp 3 0 [10, 11, 12, 15, 16, 17] [] pu1 ?_; all_goals refine dp 4 15 [15, 16, 17] [] (a_addS rfl rfl (by first | omega | (simp only [List.length_append, List.length_cons, List.length_nil]; omega))) ?_; all_goals refine dp 5 0 [10, 11, 12, 13, 14] [] (a_pure (sv := .one _) rfl) ?_; all_goals refine dp 6 1 [10, 11, 12, 13, 14] [] puL ?_; all_goals refine dp 7 115 [13, 14] [] (callD1 (n := _) 0 (θ := []) (hD := (Decimal_ok _ preB51 preB51))) ?_; all_goals refine dp 8 255 [] [] (a_addS rfl rfl (by first | omega | (simp only [List.length_append, List.length_cons, List.length_nil]; omega))) ?_; all_goals refine dp 9 511 [] [] pu1 ?_; all_goals (refine d_nil ?_; dsimp only [selT, selH, trues, SV.ren, C.ren, C.ren.all, tRen, GB.ren, calF, upOf, List.cons_append, List.nil_append, Nat.reduceAdd, setRow, List.map_cons, List.map_nil, scC, List.set_cons_zero, List.set_cons_succ, List.take_succ_cons, List.take_zero, List.drop_succ_cons, List.drop_zero]))); any_goals kernel_rfl)
      | (refine o_gs rfl rfl (fun hc => ?_) (fun hc => ?_) <;> (try simp only [decide_eq_true_eq, decide_eq_false_iff_not, Bool.not_eq_true', Bool.not_eq_false', Bool.not_eq_true, Bool.not_eq_false, Bool.and_eq_true, Bool.or_eq_false_iff, Bool.not_not] at hc) <;> (try (first | contradiction | (exfalso; omega))))
      | (refine g_cond rfl (fun hc => ?_) (fun hc => ?_) <;> (try simp only [decide_eq_true_eq, decide_eq_false_iff_not, Bool.not_eq_true', Bool.not_eq_false', Bool.not_eq_true, Bool.not_eq_false, Bool.and_eq_true, Bool.or_eq_false_iff, Bool.not_not] at hc) <;> (try (first | contradiction | (exfalso; omega))))
    repeat (first | refine g_ret ?_ | refine q_sr ?_ | refine q_br ?_ | refine q_lr ?_ | refine q_cr ?_)
    refine ends_id ?_
    refine endK [] (h2 := ?_) (h3 := ?_) (nd := ?_)
    all_goals (repeat' first | with_reducible exact SVLe.refl | exact SVLe.any | exact SVLe.one (.sh rfl) | exact SVLe.one (.nil (by decide)) | refine SVLe.agg ?_ | refine SVLe.tup ?_ | exact TLe.nil | refine TLe.cons ?_ ?_ | exact CsLe.nil | refine CsLe.cons ?_ ?_ | exact CLe.refl | exact CLe.sh rfl | exact CLe.nil (by decide) | refine cle_i ?_ | refine cle_b ?_ | exact trivial | refine And.intro ?_ ?_ | exact Or.inl rfl | exact Or.inr rfl | refine Or.inr (row_eq ?_) | (refine Or.inr (bx_eq rfl rfl ?_); (try dsimp only [C.ren, C.ren.all]); (try exact rfl)) | exact SVLe.refl | refine sle_i ?_ | refine sle_b ?_)
    all_goals first | exact (show nodupB _ = true from rfl) | exact Or.inr rfl | (rfl)
  · have e : rulT r = decT r.w ++ [82] ++ decT r.n := by unfold rulT; rw [if_neg hr, if_neg hm]
    rw [e]
    refine does_of (k := 0) Tryz.func136 rfl Tryz.ntmps136 rfl rfl fun w F0 S0 ρ0 => ?_
    dsimp only [argT, argH]
    repeat' first
      | refine g_seq ?_
      | refine g_skip ?_
      | refine g_exit ?_
      | refine g_block ?_
      | refine g_reg ?_
      | refine g_if_t rfl ?_
      | refine g_if_f rfl ?_
      | refine o_nil ?_
      | refine q_s ?_
      | refine q_se ?_
      | refine q_b ?_
      | refine q_be rfl ?_
      | refine q_bn rfl ?_
      | refine q_le ?_
      | refine q_ce ?_
      | (apply n3; exact a_new (gb := .bx _) rfl; exact rfl; (try dsimp only [List.map_cons, List.map_nil, scC, Nat.reduceAdd]))
      | (apply p3; (first | exact pu1 | exact puL | exact puC); exact rfl)
      | (apply c4 0; exact callK1 (θ := []) (hD := (isRule_ok _)); exact rfl; exact rfl; exact rfl; (try dsimp only [SV.ren, C.ren, C.ren.all, tRen, GB.ren, calF, upOf, List.cons_append, List.nil_append, Nat.reduceAdd]))
      | (apply g_drN (id := 6) okM [[], [0], [0, 1], [], [0, 1, 2, 3], [], [5], [0, 1, 2, 5, 6], [0, 1, 2, 3, 4, 5, 6, 7], [0, 1, 2, 3, 4, 5, 6, 7, 8]] [([], []), ([], []), ([], []), ([], []), ([], []), ([], []), ([], []), ([], []), ([], []), ([], [])] 0; (focus (all_goals refine dp 0 0 [13, 15, 16] [] (a_pure (sv := .one _) rfl) ?_; all_goals refine dp 1 1 [13, 15, 16] [] puL ?_; all_goals refine dp 2 3 [13, 15, 16] [] (callD1 (n := _) 0 (θ := []) (hD := (Decimal_ok _ preB51 preB51))) ?_; all_goals refine dp 3 0 [10, 11, 12, 15, 16, 17] [] pu1 ?_; all_goals refine dp 4 15 [15, 16, 17] [] (a_addS rfl rfl (by first | omega | (simp only [List.length_append, List.length_cons, List.length_nil]; omega))) ?_; all_goals refine dp 5 0 [10, 11, 12, 13, 14] [] (a_pure (sv := .one _) rfl) ?_; all_goals refine dp 6 1 [10, 11, 12, 13, 14] [] puL ?_; all_goals refine dp 7 115 [13, 14] [] (callD1 (n := _) 0 (θ := []) (hD := (Decimal_ok _ preB51 preB51))) ?_; all_goals refine dp 8 255 [] [] (a_addS rfl rfl (by first | omega | (simp only [List.length_append, List.length_cons, List.length_nil]; omega))) ?_; all_goals refine dp 9 511 [] [] pu1 ?_; all_goals (refine d_nil ?_; dsimp only [selT, selH, trues, SV.ren, C.ren, C.ren.all, tRen, GB.ren, calF, upOf, List.cons_append, List.nil_append, Nat.reduceAdd, setRow, List.map_cons, List.map_nil, scC, List.set_cons_zero, List.set_cons_succ, List.take_succ_cons, List.take_zero, List.drop_succ_cons, List.drop_zero]))); any_goals kernel_rfl)
      | (refine o_gs rfl rfl (fun hc => ?_) (fun hc => ?_) <;> (try simp only [decide_eq_true_eq, decide_eq_false_iff_not, Bool.not_eq_true', Bool.not_eq_false', Bool.not_eq_true, Bool.not_eq_false, Bool.and_eq_true, Bool.or_eq_false_iff, Bool.not_not] at hc) <;> (try (first | contradiction | (exfalso; omega))))
      | (refine g_cond rfl (fun hc => ?_) (fun hc => ?_) <;> (try simp only [decide_eq_true_eq, decide_eq_false_iff_not, Bool.not_eq_true', Bool.not_eq_false', Bool.not_eq_true, Bool.not_eq_false, Bool.and_eq_true, Bool.or_eq_false_iff, Bool.not_not] at hc) <;> (try (first | contradiction | (exfalso; omega))))
    repeat (first | refine g_ret ?_ | refine q_sr ?_ | refine q_br ?_ | refine q_lr ?_ | refine q_cr ?_)
    refine ends_id ?_
    refine endK [] (h2 := ?_) (h3 := ?_) (nd := ?_)
    all_goals (repeat' first | with_reducible exact SVLe.refl | exact SVLe.any | exact SVLe.one (.sh rfl) | exact SVLe.one (.nil (by decide)) | refine SVLe.agg ?_ | refine SVLe.tup ?_ | exact TLe.nil | refine TLe.cons ?_ ?_ | exact CsLe.nil | refine CsLe.cons ?_ ?_ | exact CLe.refl | exact CLe.sh rfl | exact CLe.nil (by decide) | refine cle_i ?_ | refine cle_b ?_ | exact trivial | refine And.intro ?_ ?_ | exact Or.inl rfl | exact Or.inr rfl | refine Or.inr (row_eq ?_) | (refine Or.inr (bx_eq rfl rfl ?_); (try dsimp only [C.ren, C.ren.all]); (try exact rfl)) | exact SVLe.refl | refine sle_i ?_ | refine sle_b ?_)
    all_goals first | exact (show nodupB _ = true from rfl) | exact Or.inr rfl | (rfl)
/-- What stands ahead of a rule. -/
@[irreducible] def sepT (sy i : Int) : Bs := if i = 0 then [] else if i % sy = 0 then [59] else [44]
theorem sepT_le (sy i : Int) : ((sepT sy i).length : Int) ≤ 1 := by unfold sepT; split <;> (try split) <;> simp
def macF (sy : Int) : Nat → List Rule' → Bs
  | _, [] => []
  | i, r :: rs => sepT sy i ++ (rulT r ++ macF sy (i + 1) rs)
/-- The text of a machine. -/
@[irreducible] def macT (m : Mach) : Bs := macF m.sy 0 m.ru
theorem vMach_ru {m : Mach} (h : vMach m = true) : ∀ (i : Nat) (hi : i < m.ru.length), (-1000000 ≤ (m.ru[i]).w ∧ (m.ru[i]).w ≤ 1000000) ∧ (-1000000 ≤ (m.ru[i]).m ∧ (m.ru[i]).m ≤ 1000000) ∧ (-1000000 ≤ (m.ru[i]).n ∧ (m.ru[i]).n ≤ 1000000) := by
  intro i hi
  have hb := vMach_bd h
  unfold vMach at h
  simp only [Bool.and_eq_true, List.all_eq_true] at h
  have := h.2 _ (List.getElem_mem hi)
  unfold okRule at this
  simp only [decide_eq_true_eq] at this
  rcases this with e | e
  · rw [e]; exact ⟨⟨by decide, by decide⟩, ⟨by decide, by decide⟩, ⟨by decide, by decide⟩⟩
  · omega
theorem macF_le (sy : Int) : ∀ (rs : List Rule') (i : Nat), (∀ r ∈ rs, RuBd r) → ((macF sy i rs).length : Int) ≤ 64 * rs.length
  | [], i, _ => by simp [macF]
  | r :: rs, i, h => by
    have h1 := sepT_le sy i
    have h2 := rulT_le (h r (by simp))
    have h3 := macF_le sy rs (i + 1) fun x hx => h x (by simp [hx])
    simp only [macF, List.length_append, List.length_cons]
    omega
theorem vMach_rb {m : Mach} (h : vMach m = true) : ∀ r ∈ m.ru, RuBd r := by
  intro r hr
  obtain ⟨i, hi, rfl⟩ := List.getElem_of_mem hr
  exact vMach_ru h i hi
theorem macT_le {m : Mach} (h : vMach m = true) : ((macT m).length : Int) ≤ 384000 := by
  have h1 := macF_le m.sy m.ru 0 (vMach_rb h)
  have h2 := vMach_bd h
  have h3 : m.sy * m.st ≤ 6 * 1000 := Int.mul_le_mul (by omega) (by omega) (by omega) (by omega)
  unfold macT
  omega
theorem macF_at {sy i : Int} {ru : List Rule'} (h0 : 0 ≤ i) (h : i < ru.length) (out : Bs) : out ++ macF sy i.toNat (ru.drop i.toNat) = out ++ sepT sy i ++ rulT (ru[i.toNat]'(by omega)) ++ macF sy (i + 1).toNat (ru.drop (i + 1).toNat) := by
  rw [List.drop_eq_getElem_cons (show i.toNat < ru.length by omega), show (i + 1).toNat = i.toNat + 1 by omega, macF, show ((i.toNat : Nat) : Int) = i by omega]
  simp only [List.append_assoc]
theorem l05Text_ok (m : Mach) (hm : vMach m = true) : Does Tryz.prog 131 [.one (maB m)] [] (.one (str (macT m))) [] := by
  have hb := vMach_bd hm
  have hR := vMach_ru hm
  have h3 : m.sy * m.st ≤ 6 * 1000 := Int.mul_le_mul (by omega) (by omega) (by omega) (by omega)
  have hl : (m.ru.length : Int) ≤ 6000 := by omega
  refine does_of (k := 0) Tryz.func131 rfl Tryz.ntmps131 rfl rfl fun w F0 S0 ρ0 => ?_
  dsimp only [argT, argH]
  repeat' first
    | refine g_seq ?_
    | refine g_skip ?_
    | refine g_exit ?_
    | refine g_block ?_
    | refine g_reg ?_
    | refine g_if_t rfl ?_
    | refine g_if_f rfl ?_
    | refine o_nil ?_
    | refine q_s ?_
    | refine q_se ?_
    | refine q_b ?_
    | refine q_be rfl ?_
    | refine q_bn rfl ?_
    | refine q_le ?_
    | refine q_ce ?_
    | (apply n3; exact a_new (gb := .bx _) rfl; exact rfl; (try dsimp only [List.map_cons, List.map_nil, scC, Nat.reduceAdd]))
    | (apply p3; (first | exact pu1 | exact puL | exact puN | exact a_len_str rfl (fT rfl) | exact puC | exact a_rem rfl rfl (by omega) (by omega) (by omega) | exact a_eqS rfl rfl rfl | exact a_addS rfl rfl (by first | omega | (simp only [List.length_append, List.length_cons, List.length_nil]; omega)) | exact a_add rfl rfl (by omega) (by omega) | exact puI); exact rfl)
    | (apply w3; (first | exact a_st_bx rfl rfl rfl rfl (fN rfl rfl) (Nat.le_of_ble_eq_true rfl) rfl | exact a_stE (E := eR) ⟨_, _, _⟩ rfl rfl rfl rfl (fN rfl rfl) bnd (by exact rfl)); exact rfl; (try dsimp only [setRow, List.map_cons, List.map_nil, scC, List.set_cons_zero, List.set_cons_succ, List.take_succ_cons, List.take_zero, List.drop_succ_cons, List.drop_zero, Nat.reduceAdd]))
    | refine o_no rfl rfl rfl rfl ?_
    | refine o_noN rfl rfl rfl ?_
    | (apply py3; exact rfl; exact rfl; (first | exact pu1 | exact puL | exact puN | exact a_len_str rfl (fT rfl) | exact puC | exact a_rem rfl rfl (by omega) (by omega) (by omega) | exact a_eqS rfl rfl rfl | exact a_addS rfl rfl (by first | omega | (simp only [List.length_append, List.length_cons, List.length_nil]; omega)) | exact a_add rfl rfl (by omega) (by omega) | exact puI); exact rfl; exact rfl)
    | (apply ny3; exact rfl; exact rfl; exact a_new (gb := .bx _) rfl; exact rfl; exact rfl)
    | (apply g_drN (id := 10) okM [[], [], [0, 1]] [([], []), ([], []), ([], [])] 0; (focus (all_goals refine dp 0 0 [41] [] puL ?_; all_goals refine dp 1 0 [40] [] (callD1 (n := _) 0 (θ := []) (hD := l05None_ok)) ?_; all_goals refine dp 2 3 [] [] (by first | exact a_eqRule rfl rfl | exact a_eqRule (s := ⟨_, _, _⟩) rfl rfl | exact a_eqRule (r := ⟨_, _, _⟩) rfl rfl | exact a_eqRule (r := ⟨_, _, _⟩) (s := ⟨_, _, _⟩) rfl rfl) ?_; all_goals (refine d_nil ?_; dsimp only [selT, selH, trues, SV.ren, C.ren, C.ren.all, tRen, GB.ren, calF, upOf, List.cons_append, List.nil_append, Nat.reduceAdd, setRow, List.map_cons, List.map_nil, scC, List.set_cons_zero, List.set_cons_succ, List.take_succ_cons, List.take_zero, List.drop_succ_cons, List.drop_zero]))); any_goals kernel_rfl)
    | (apply g_drN (id := 15) okM [[], [], [1], [1, 2], [], [1, 2, 3, 4], [], [6], [1, 2, 3, 6, 7], [1, 2, 3, 4, 5, 6, 7, 8], [0, 1, 2, 3, 4, 5, 6, 7, 8, 9], [0, 1, 2, 3, 4, 5, 6, 7, 8, 9, 10]] [([], []), ([], []), ([], []), ([], []), ([], []), ([], []), ([], []), ([], []), ([], []), ([], []), ([], []), ([], [])] 0; (focus (all_goals refine dp 0 0 [49, 50, 51, 52, 53, 54, 55, 56, 57] [] pu1 ?_; all_goals refine dp 1 0 [48, 52, 54, 55] [] (a_pure (sv := .one _) rfl) ?_; all_goals refine dp 2 1 [48, 52, 54, 55] [] puL ?_; all_goals refine dp 3 3 [48, 52, 54, 55] [] (callD1 (n := _) 0 (θ := []) (hD := (l01Dec_ok _ preB51 preB51))) ?_; all_goals refine dp 4 0 [48, 49, 50, 51, 54, 55, 56] [] pu1 ?_; all_goals refine dp 5 15 [48, 54, 55, 56] [] (a_addS rfl rfl (by first | omega | (simp only [List.length_append, List.length_cons, List.length_nil]; omega))) ?_; all_goals refine dp 6 0 [48, 49, 50, 51, 52, 53] [] (a_pure (sv := .one _) rfl) ?_; all_goals refine dp 7 1 [48, 49, 50, 51, 52, 53] [] puL ?_; all_goals refine dp 8 115 [48, 52, 53] [] (callD1 (n := _) 0 (θ := []) (hD := (l01Dec_ok _ preB51 preB51))) ?_; all_goals refine dp 9 255 [48] [] (a_addS rfl rfl (by first | omega | (simp only [List.length_append, List.length_cons, List.length_nil]; omega))) ?_; all_goals refine dp 10 1023 [] [] (a_addS rfl rfl (by first | omega | (simp only [List.length_append, List.length_cons, List.length_nil]; omega))) ?_; all_goals refine dp 11 2047 [] [] pu1 ?_; all_goals (refine d_nil ?_; dsimp only [selT, selH, trues, SV.ren, C.ren, C.ren.all, tRen, GB.ren, calF, upOf, List.cons_append, List.nil_append, Nat.reduceAdd, setRow, List.map_cons, List.map_nil, scC, List.set_cons_zero, List.set_cons_succ, List.take_succ_cons, List.take_zero, List.drop_succ_cons, List.drop_zero]))); any_goals kernel_rfl)
    | (refine o_gs rfl rfl (fun hc => ?_) (fun hc => ?_) <;> (try simp only [decide_eq_true_eq, decide_eq_false_iff_not, Bool.not_eq_true', Bool.not_eq_false', Bool.not_eq_true, Bool.not_eq_false, Bool.and_eq_true, Bool.or_eq_false_iff, Bool.not_not] at hc) <;> (try (first | contradiction | (exfalso; omega))))
    | (refine g_cond rfl (fun hc => ?_) (fun hc => ?_) <;> (try simp only [decide_eq_true_eq, decide_eq_false_iff_not, Bool.not_eq_true', Bool.not_eq_false', Bool.not_eq_true, Bool.not_eq_false, Bool.and_eq_true, Bool.or_eq_false_iff, Bool.not_not] at hc) <;> (try (first | contradiction | (exfalso; omega))))
  refine g_loop_id ?_
  refine loopK [0, 2] [] (fun x : Int × Bs => 0 ≤ x.1 ∧ x.1 ≤ m.ru.length ∧ (x.2.length : Int) ≤ 64 * x.1 ∧ x.2 ++ macF m.sy x.1.toNat (m.ru.drop x.1.toNat) = macF m.sy 0 m.ru) (fun x => [(4, .one (int x.1)), (3, .one (str x.2))]) (fun _ => []) (fun x => (m.ru.length - x.1).toNat) ((0 : Int), []) [] (hI := ?_) (hr := ?_)
  · exact ⟨by simp, by simp, by simp, by simp⟩
  · rintro ⟨i, out⟩ ⟨j0, j1, j2, j3⟩
    dsimp only [List.cons_append, List.nil_append] at *
    skip
    repeat' first
      | refine g_seq ?_
      | refine g_skip ?_
      | refine g_exit ?_
      | refine g_block ?_
      | refine g_reg (id := 3) ?_
      | refine g_reg (id := 5) ?_
      | refine g_reg (id := 6) ?_
      | refine g_reg (id := 7) ?_
      | refine g_reg (id := 8) ?_
      | refine g_if_t rfl ?_
      | refine g_if_f rfl ?_
      | refine o_nil ?_
      | refine q_s ?_
      | refine q_se ?_
      | refine q_b ?_
      | refine q_be rfl ?_
      | refine q_bn rfl ?_
      | refine q_le ?_
      | refine q_ce ?_
      | (apply p3; (first | exact pu1 | exact puL | exact puN | exact a_len_str rfl (fT rfl) | exact puC | exact a_rem rfl rfl (by omega) (by omega) (by omega) | exact a_eqS rfl rfl rfl | exact a_addS rfl rfl (by first | omega | (simp only [List.length_append, List.length_cons, List.length_nil]; omega))); exact rfl)
      | refine o_no rfl rfl rfl rfl ?_
      | refine o_noN rfl rfl rfl ?_
      | (apply py3; exact rfl; exact rfl; (first | exact pu1 | exact puL | exact puN | exact a_len_str rfl (fT rfl) | exact puC | exact a_rem rfl rfl (by omega) (by omega) (by omega) | exact a_eqS rfl rfl rfl | exact a_addS rfl rfl (by first | omega | (simp only [List.length_append, List.length_cons, List.length_nil]; omega))); exact rfl; exact rfl)
      | (refine o_gs rfl rfl (fun hc => ?_) (fun hc => ?_) <;> (try simp only [decide_eq_true_eq, decide_eq_false_iff_not, Bool.not_eq_true', Bool.not_eq_false', Bool.not_eq_true, Bool.not_eq_false, Bool.and_eq_true, Bool.or_eq_false_iff, Bool.not_not] at hc) <;> (try (first | contradiction | (exfalso; omega))))
      | (refine g_cond rfl (fun hc => ?_) (fun hc => ?_) <;> (try simp only [decide_eq_true_eq, decide_eq_false_iff_not, Bool.not_eq_true', Bool.not_eq_false', Bool.not_eq_true, Bool.not_eq_false, Bool.and_eq_true, Bool.or_eq_false_iff, Bool.not_not] at hc) <;> (try (first | contradiction | (exfalso; omega))))
    · have hs : sepT m.sy i = [59] := by unfold sepT; rw [if_neg (by omega), if_pos hc]
      have h4 := hR i.toNat (by omega)
      have d1 := dec_le (n := (m.ru[i.toNat]'(by omega)).w) (by omega) (by omega)
      have d2 := dec_le (n := (m.ru[i.toNat]'(by omega)).n) (by omega) (by omega)
      by_cases hz : m.ru[i.toNat]'(by omega) = ⟨0, 0, -1⟩
      · have hu : rulT (m.ru[i.toNat]'(by omega)) = [45, 45, 45] := by unfold rulT; rw [if_pos hz]
        repeat' first
          | refine g_seq ?_
          | refine g_skip ?_
          | refine g_exit ?_
          | refine g_block ?_
          | refine g_reg ?_
          | refine g_if_t rfl ?_
          | refine g_if_f rfl ?_
          | refine o_nil ?_
          | refine q_s ?_
          | refine q_se ?_
          | refine q_b ?_
          | refine q_be rfl ?_
          | refine q_bn rfl ?_
          | refine q_le ?_
          | refine q_ce ?_
          | (apply n3; exact a_new (gb := .bx _) rfl; exact rfl; (try dsimp only [List.map_cons, List.map_nil, scC, Nat.reduceAdd]))
          | (apply p3; (first | exact pu1 | exact puL | exact puN | exact a_len_str rfl (fT rfl) | exact puC | exact a_rem rfl rfl (by omega) (by omega) (by omega) | exact a_eqS rfl rfl rfl | exact a_addS rfl rfl (by first | omega | (simp only [List.length_append, List.length_cons, List.length_nil]; omega)) | exact a_add rfl rfl (by omega) (by omega) | exact puI); exact rfl)
          | (apply w3; (first | exact a_st_bx rfl rfl rfl rfl (fN rfl rfl) (Nat.le_of_ble_eq_true rfl) rfl | exact a_stE (E := eR) ⟨_, _, _⟩ rfl rfl rfl rfl (fN rfl rfl) bnd (by exact rfl)); exact rfl; (try dsimp only [setRow, List.map_cons, List.map_nil, scC, List.set_cons_zero, List.set_cons_succ, List.take_succ_cons, List.take_zero, List.drop_succ_cons, List.drop_zero, Nat.reduceAdd]))
          | refine o_no rfl rfl rfl rfl ?_
          | refine o_noN rfl rfl rfl ?_
          | (apply py3; exact rfl; exact rfl; (first | exact pu1 | exact puL | exact puN | exact a_len_str rfl (fT rfl) | exact puC | exact a_rem rfl rfl (by omega) (by omega) (by omega) | exact a_eqS rfl rfl rfl | exact a_addS rfl rfl (by first | omega | (simp only [List.length_append, List.length_cons, List.length_nil]; omega)) | exact a_add rfl rfl (by omega) (by omega) | exact puI); exact rfl; exact rfl)
          | (apply ny3; exact rfl; exact rfl; exact a_new (gb := .bx _) rfl; exact rfl; exact rfl)
          | (apply g_drN (id := 10) okM [[], [], [0, 1]] [([], []), ([], []), ([], [])] 0; (focus (all_goals refine dp 0 0 [41] [] puL ?_; all_goals refine dp 1 0 [40] [] (callD1 (n := _) 0 (θ := []) (hD := l05None_ok)) ?_; all_goals refine dp 2 3 [] [] (by first | exact a_eqRule rfl rfl | exact a_eqRule (s := ⟨_, _, _⟩) rfl rfl | exact a_eqRule (r := ⟨_, _, _⟩) rfl rfl | exact a_eqRule (r := ⟨_, _, _⟩) (s := ⟨_, _, _⟩) rfl rfl) ?_; all_goals (refine d_nil ?_; dsimp only [selT, selH, trues, SV.ren, C.ren, C.ren.all, tRen, GB.ren, calF, upOf, List.cons_append, List.nil_append, Nat.reduceAdd, setRow, List.map_cons, List.map_nil, scC, List.set_cons_zero, List.set_cons_succ, List.take_succ_cons, List.take_zero, List.drop_succ_cons, List.drop_zero]))); any_goals kernel_rfl)
          | (apply g_drN (id := 15) okM [[], [], [1], [1, 2], [], [1, 2, 3, 4], [], [6], [1, 2, 3, 6, 7], [1, 2, 3, 4, 5, 6, 7, 8], [0, 1, 2, 3, 4, 5, 6, 7, 8, 9], [0, 1, 2, 3, 4, 5, 6, 7, 8, 9, 10]] [([], []), ([], []), ([], []), ([], []), ([], []), ([], []), ([], []), ([], []), ([], []), ([], []), ([], []), ([], [])] 0; (focus (all_goals refine dp 0 0 [49, 50, 51, 52, 53, 54, 55, 56, 57] [] pu1 ?_; all_goals refine dp 1 0 [48, 52, 54, 55] [] (a_pure (sv := .one _) rfl) ?_; all_goals refine dp 2 1 [48, 52, 54, 55] [] puL ?_; all_goals refine dp 3 3 [48, 52, 54, 55] [] (callD1 (n := _) 0 (θ := []) (hD := (l01Dec_ok _ preB51 preB51))) ?_; all_goals refine dp 4 0 [48, 49, 50, 51, 54, 55, 56] [] pu1 ?_; all_goals refine dp 5 15 [48, 54, 55, 56] [] (a_addS rfl rfl (by first | omega | (simp only [List.length_append, List.length_cons, List.length_nil]; omega))) ?_; all_goals refine dp 6 0 [48, 49, 50, 51, 52, 53] [] (a_pure (sv := .one _) rfl) ?_; all_goals refine dp 7 1 [48, 49, 50, 51, 52, 53] [] puL ?_; all_goals refine dp 8 115 [48, 52, 53] [] (callD1 (n := _) 0 (θ := []) (hD := (l01Dec_ok _ preB51 preB51))) ?_; all_goals refine dp 9 255 [48] [] (a_addS rfl rfl (by first | omega | (simp only [List.length_append, List.length_cons, List.length_nil]; omega))) ?_; all_goals refine dp 10 1023 [] [] (a_addS rfl rfl (by first | omega | (simp only [List.length_append, List.length_cons, List.length_nil]; omega))) ?_; all_goals refine dp 11 2047 [] [] pu1 ?_; all_goals (refine d_nil ?_; dsimp only [selT, selH, trues, SV.ren, C.ren, C.ren.all, tRen, GB.ren, calF, upOf, List.cons_append, List.nil_append, Nat.reduceAdd, setRow, List.map_cons, List.map_nil, scC, List.set_cons_zero, List.set_cons_succ, List.take_succ_cons, List.take_zero, List.drop_succ_cons, List.drop_zero]))); any_goals kernel_rfl)
          | (refine o_gs rfl rfl (fun hc => ?_) (fun hc => ?_) <;> (try simp only [decide_eq_true_eq, decide_eq_false_iff_not, Bool.not_eq_true', Bool.not_eq_false', Bool.not_eq_true, Bool.not_eq_false, Bool.and_eq_true, Bool.or_eq_false_iff, Bool.not_not] at hc) <;> (try (first | contradiction | (exfalso; omega))))
          | (refine g_cond rfl (fun hc => ?_) (fun hc => ?_) <;> (try simp only [decide_eq_true_eq, decide_eq_false_iff_not, Bool.not_eq_true', Bool.not_eq_false', Bool.not_eq_true, Bool.not_eq_false, Bool.and_eq_true, Bool.or_eq_false_iff, Bool.not_not] at hc) <;> (try (first | contradiction | (exfalso; omega))))
        refine q_again (i + 1, _) [] (by exact stk) ?_ ?_
        · dsimp only
          refine ⟨by omega, by omega, ?_, ?_⟩
          · simp only [List.length_append, List.length_cons, List.length_nil]
            omega
          · rw [← j3, macF_at j0 (by omega), hs, hu]
            try simp only [List.append_assoc, List.nil_append, List.append_nil]
        · dsimp only; omega
      · by_cases hm2 : (m.ru[i.toNat]'(by omega)).m < 0
        · have hu : rulT (m.ru[i.toNat]'(by omega)) = decT (m.ru[i.toNat]'(by omega)).w ++ [76] ++ decT (m.ru[i.toNat]'(by omega)).n := by unfold rulT; rw [if_neg hz, if_pos hm2]
          repeat' first
            | refine g_seq ?_
            | refine g_skip ?_
            | refine g_exit ?_
            | refine g_block ?_
            | refine g_reg ?_
            | refine g_if_t rfl ?_
            | refine g_if_f rfl ?_
            | refine o_nil ?_
            | refine q_s ?_
            | refine q_se ?_
            | refine q_b ?_
            | refine q_be rfl ?_
            | refine q_bn rfl ?_
            | refine q_le ?_
            | refine q_ce ?_
            | (apply n3; exact a_new (gb := .bx _) rfl; exact rfl; (try dsimp only [List.map_cons, List.map_nil, scC, Nat.reduceAdd]))
            | (apply p3; (first | exact pu1 | exact puL | exact puN | exact a_len_str rfl (fT rfl) | exact puC | exact a_rem rfl rfl (by omega) (by omega) (by omega) | exact a_eqS rfl rfl rfl | exact a_addS rfl rfl (by first | omega | (simp only [List.length_append, List.length_cons, List.length_nil]; omega)) | exact a_add rfl rfl (by omega) (by omega) | exact puI); exact rfl)
            | (apply w3; (first | exact a_st_bx rfl rfl rfl rfl (fN rfl rfl) (Nat.le_of_ble_eq_true rfl) rfl | exact a_stE (E := eR) ⟨_, _, _⟩ rfl rfl rfl rfl (fN rfl rfl) bnd (by exact rfl)); exact rfl; (try dsimp only [setRow, List.map_cons, List.map_nil, scC, List.set_cons_zero, List.set_cons_succ, List.take_succ_cons, List.take_zero, List.drop_succ_cons, List.drop_zero, Nat.reduceAdd]))
            | refine o_no rfl rfl rfl rfl ?_
            | refine o_noN rfl rfl rfl ?_
            | (apply py3; exact rfl; exact rfl; (first | exact pu1 | exact puL | exact puN | exact a_len_str rfl (fT rfl) | exact puC | exact a_rem rfl rfl (by omega) (by omega) (by omega) | exact a_eqS rfl rfl rfl | exact a_addS rfl rfl (by first | omega | (simp only [List.length_append, List.length_cons, List.length_nil]; omega)) | exact a_add rfl rfl (by omega) (by omega) | exact puI); exact rfl; exact rfl)
            | (apply ny3; exact rfl; exact rfl; exact a_new (gb := .bx _) rfl; exact rfl; exact rfl)
            | (apply g_drN (id := 10) okM [[], [], [0, 1]] [([], []), ([], []), ([], [])] 0; (focus (all_goals refine dp 0 0 [41] [] puL ?_; all_goals refine dp 1 0 [40] [] (callD1 (n := _) 0 (θ := []) (hD := l05None_ok)) ?_; all_goals refine dp 2 3 [] [] (by first | exact a_eqRule rfl rfl | exact a_eqRule (s := ⟨_, _, _⟩) rfl rfl | exact a_eqRule (r := ⟨_, _, _⟩) rfl rfl | exact a_eqRule (r := ⟨_, _, _⟩) (s := ⟨_, _, _⟩) rfl rfl) ?_; all_goals (refine d_nil ?_; dsimp only [selT, selH, trues, SV.ren, C.ren, C.ren.all, tRen, GB.ren, calF, upOf, List.cons_append, List.nil_append, Nat.reduceAdd, setRow, List.map_cons, List.map_nil, scC, List.set_cons_zero, List.set_cons_succ, List.take_succ_cons, List.take_zero, List.drop_succ_cons, List.drop_zero]))); any_goals kernel_rfl)
            | (apply g_drN (id := 15) okM [[], [], [1], [1, 2], [], [1, 2, 3, 4], [], [6], [1, 2, 3, 6, 7], [1, 2, 3, 4, 5, 6, 7, 8], [0, 1, 2, 3, 4, 5, 6, 7, 8, 9], [0, 1, 2, 3, 4, 5, 6, 7, 8, 9, 10]] [([], []), ([], []), ([], []), ([], []), ([], []), ([], []), ([], []), ([], []), ([], []), ([], []), ([], []), ([], [])] 0; (focus (all_goals refine dp 0 0 [49, 50, 51, 52, 53, 54, 55, 56, 57] [] pu1 ?_; all_goals refine dp 1 0 [48, 52, 54, 55] [] (a_pure (sv := .one _) rfl) ?_; all_goals refine dp 2 1 [48, 52, 54, 55] [] puL ?_; all_goals refine dp 3 3 [48, 52, 54, 55] [] (callD1 (n := _) 0 (θ := []) (hD := (l01Dec_ok _ preB51 preB51))) ?_; all_goals refine dp 4 0 [48, 49, 50, 51, 54, 55, 56] [] pu1 ?_; all_goals refine dp 5 15 [48, 54, 55, 56] [] (a_addS rfl rfl (by first | omega | (simp only [List.length_append, List.length_cons, List.length_nil]; omega))) ?_; all_goals refine dp 6 0 [48, 49, 50, 51, 52, 53] [] (a_pure (sv := .one _) rfl) ?_; all_goals refine dp 7 1 [48, 49, 50, 51, 52, 53] [] puL ?_; all_goals refine dp 8 115 [48, 52, 53] [] (callD1 (n := _) 0 (θ := []) (hD := (l01Dec_ok _ preB51 preB51))) ?_; all_goals refine dp 9 255 [48] [] (a_addS rfl rfl (by first | omega | (simp only [List.length_append, List.length_cons, List.length_nil]; omega))) ?_; all_goals refine dp 10 1023 [] [] (a_addS rfl rfl (by first | omega | (simp only [List.length_append, List.length_cons, List.length_nil]; omega))) ?_; all_goals refine dp 11 2047 [] [] pu1 ?_; all_goals (refine d_nil ?_; dsimp only [selT, selH, trues, SV.ren, C.ren, C.ren.all, tRen, GB.ren, calF, upOf, List.cons_append, List.nil_append, Nat.reduceAdd, setRow, List.map_cons, List.map_nil, scC, List.set_cons_zero, List.set_cons_succ, List.take_succ_cons, List.take_zero, List.drop_succ_cons, List.drop_zero]))); any_goals kernel_rfl)
            | (refine o_gs rfl rfl (fun hc => ?_) (fun hc => ?_) <;> (try simp only [decide_eq_true_eq, decide_eq_false_iff_not, Bool.not_eq_true', Bool.not_eq_false', Bool.not_eq_true, Bool.not_eq_false, Bool.and_eq_true, Bool.or_eq_false_iff, Bool.not_not] at hc) <;> (try (first | contradiction | (exfalso; omega))))
            | (refine g_cond rfl (fun hc => ?_) (fun hc => ?_) <;> (try simp only [decide_eq_true_eq, decide_eq_false_iff_not, Bool.not_eq_true', Bool.not_eq_false', Bool.not_eq_true, Bool.not_eq_false, Bool.and_eq_true, Bool.or_eq_false_iff, Bool.not_not] at hc) <;> (try (first | contradiction | (exfalso; omega))))
          refine q_again (i + 1, _) [] (by exact stk) ?_ ?_
          · dsimp only
            refine ⟨by omega, by omega, ?_, ?_⟩
            · simp only [List.length_append, List.length_cons, List.length_nil]
              omega
            · rw [← j3, macF_at j0 (by omega), hs, hu]
              try simp only [List.append_assoc, List.nil_append, List.append_nil]
          · dsimp only; omega
        · have hu : rulT (m.ru[i.toNat]'(by omega)) = decT (m.ru[i.toNat]'(by omega)).w ++ [82] ++ decT (m.ru[i.toNat]'(by omega)).n := by unfold rulT; rw [if_neg hz, if_neg hm2]
          repeat' first
            | refine g_seq ?_
            | refine g_skip ?_
            | refine g_exit ?_
            | refine g_block ?_
            | refine g_reg ?_
            | refine g_if_t rfl ?_
            | refine g_if_f rfl ?_
            | refine o_nil ?_
            | refine q_s ?_
            | refine q_se ?_
            | refine q_b ?_
            | refine q_be rfl ?_
            | refine q_bn rfl ?_
            | refine q_le ?_
            | refine q_ce ?_
            | (apply n3; exact a_new (gb := .bx _) rfl; exact rfl; (try dsimp only [List.map_cons, List.map_nil, scC, Nat.reduceAdd]))
            | (apply p3; (first | exact pu1 | exact puL | exact puN | exact a_len_str rfl (fT rfl) | exact puC | exact a_rem rfl rfl (by omega) (by omega) (by omega) | exact a_eqS rfl rfl rfl | exact a_addS rfl rfl (by first | omega | (simp only [List.length_append, List.length_cons, List.length_nil]; omega)) | exact a_add rfl rfl (by omega) (by omega) | exact puI); exact rfl)
            | (apply w3; (first | exact a_st_bx rfl rfl rfl rfl (fN rfl rfl) (Nat.le_of_ble_eq_true rfl) rfl | exact a_stE (E := eR) ⟨_, _, _⟩ rfl rfl rfl rfl (fN rfl rfl) bnd (by exact rfl)); exact rfl; (try dsimp only [setRow, List.map_cons, List.map_nil, scC, List.set_cons_zero, List.set_cons_succ, List.take_succ_cons, List.take_zero, List.drop_succ_cons, List.drop_zero, Nat.reduceAdd]))
            | refine o_no rfl rfl rfl rfl ?_
            | refine o_noN rfl rfl rfl ?_
            | (apply py3; exact rfl; exact rfl; (first | exact pu1 | exact puL | exact puN | exact a_len_str rfl (fT rfl) | exact puC | exact a_rem rfl rfl (by omega) (by omega) (by omega) | exact a_eqS rfl rfl rfl | exact a_addS rfl rfl (by first | omega | (simp only [List.length_append, List.length_cons, List.length_nil]; omega)) | exact a_add rfl rfl (by omega) (by omega) | exact puI); exact rfl; exact rfl)
            | (apply ny3; exact rfl; exact rfl; exact a_new (gb := .bx _) rfl; exact rfl; exact rfl)
            | (apply g_drN (id := 10) okM [[], [], [0, 1]] [([], []), ([], []), ([], [])] 0; (focus (all_goals refine dp 0 0 [41] [] puL ?_; all_goals refine dp 1 0 [40] [] (callD1 (n := _) 0 (θ := []) (hD := l05None_ok)) ?_; all_goals refine dp 2 3 [] [] (by first | exact a_eqRule rfl rfl | exact a_eqRule (s := ⟨_, _, _⟩) rfl rfl | exact a_eqRule (r := ⟨_, _, _⟩) rfl rfl | exact a_eqRule (r := ⟨_, _, _⟩) (s := ⟨_, _, _⟩) rfl rfl) ?_; all_goals (refine d_nil ?_; dsimp only [selT, selH, trues, SV.ren, C.ren, C.ren.all, tRen, GB.ren, calF, upOf, List.cons_append, List.nil_append, Nat.reduceAdd, setRow, List.map_cons, List.map_nil, scC, List.set_cons_zero, List.set_cons_succ, List.take_succ_cons, List.take_zero, List.drop_succ_cons, List.drop_zero]))); any_goals kernel_rfl)
            | (apply g_drN (id := 15) okM [[], [], [1], [1, 2], [], [1, 2, 3, 4], [], [6], [1, 2, 3, 6, 7], [1, 2, 3, 4, 5, 6, 7, 8], [0, 1, 2, 3, 4, 5, 6, 7, 8, 9], [0, 1, 2, 3, 4, 5, 6, 7, 8, 9, 10]] [([], []), ([], []), ([], []), ([], []), ([], []), ([], []), ([], []), ([], []), ([], []), ([], []), ([], []), ([], [])] 0; (focus (all_goals refine dp 0 0 [49, 50, 51, 52, 53, 54, 55, 56, 57] [] pu1 ?_; all_goals refine dp 1 0 [48, 52, 54, 55] [] (a_pure (sv := .one _) rfl) ?_; all_goals refine dp 2 1 [48, 52, 54, 55] [] puL ?_; all_goals refine dp 3 3 [48, 52, 54, 55] [] (callD1 (n := _) 0 (θ := []) (hD := (l01Dec_ok _ preB51 preB51))) ?_; all_goals refine dp 4 0 [48, 49, 50, 51, 54, 55, 56] [] pu1 ?_; all_goals refine dp 5 15 [48, 54, 55, 56] [] (a_addS rfl rfl (by first | omega | (simp only [List.length_append, List.length_cons, List.length_nil]; omega))) ?_; all_goals refine dp 6 0 [48, 49, 50, 51, 52, 53] [] (a_pure (sv := .one _) rfl) ?_; all_goals refine dp 7 1 [48, 49, 50, 51, 52, 53] [] puL ?_; all_goals refine dp 8 115 [48, 52, 53] [] (callD1 (n := _) 0 (θ := []) (hD := (l01Dec_ok _ preB51 preB51))) ?_; all_goals refine dp 9 255 [48] [] (a_addS rfl rfl (by first | omega | (simp only [List.length_append, List.length_cons, List.length_nil]; omega))) ?_; all_goals refine dp 10 1023 [] [] (a_addS rfl rfl (by first | omega | (simp only [List.length_append, List.length_cons, List.length_nil]; omega))) ?_; all_goals refine dp 11 2047 [] [] pu1 ?_; all_goals (refine d_nil ?_; dsimp only [selT, selH, trues, SV.ren, C.ren, C.ren.all, tRen, GB.ren, calF, upOf, List.cons_append, List.nil_append, Nat.reduceAdd, setRow, List.map_cons, List.map_nil, scC, List.set_cons_zero, List.set_cons_succ, List.take_succ_cons, List.take_zero, List.drop_succ_cons, List.drop_zero]))); any_goals kernel_rfl)
            | (refine o_gs rfl rfl (fun hc => ?_) (fun hc => ?_) <;> (try simp only [decide_eq_true_eq, decide_eq_false_iff_not, Bool.not_eq_true', Bool.not_eq_false', Bool.not_eq_true, Bool.not_eq_false, Bool.and_eq_true, Bool.or_eq_false_iff, Bool.not_not] at hc) <;> (try (first | contradiction | (exfalso; omega))))
            | (refine g_cond rfl (fun hc => ?_) (fun hc => ?_) <;> (try simp only [decide_eq_true_eq, decide_eq_false_iff_not, Bool.not_eq_true', Bool.not_eq_false', Bool.not_eq_true, Bool.not_eq_false, Bool.and_eq_true, Bool.or_eq_false_iff, Bool.not_not] at hc) <;> (try (first | contradiction | (exfalso; omega))))
          refine q_again (i + 1, _) [] (by exact stk) ?_ ?_
          · dsimp only
            refine ⟨by omega, by omega, ?_, ?_⟩
            · simp only [List.length_append, List.length_cons, List.length_nil]
              omega
            · rw [← j3, macF_at j0 (by omega), hs, hu]
              try simp only [List.append_assoc, List.nil_append, List.append_nil]
          · dsimp only; omega
    · have hs : sepT m.sy i = [44] := by unfold sepT; rw [if_neg (by omega), if_neg (by assumption)]
      have h4 := hR i.toNat (by omega)
      have d1 := dec_le (n := (m.ru[i.toNat]'(by omega)).w) (by omega) (by omega)
      have d2 := dec_le (n := (m.ru[i.toNat]'(by omega)).n) (by omega) (by omega)
      by_cases hz : m.ru[i.toNat]'(by omega) = ⟨0, 0, -1⟩
      · have hu : rulT (m.ru[i.toNat]'(by omega)) = [45, 45, 45] := by unfold rulT; rw [if_pos hz]
        repeat' first
          | refine g_seq ?_
          | refine g_skip ?_
          | refine g_exit ?_
          | refine g_block ?_
          | refine g_reg ?_
          | refine g_if_t rfl ?_
          | refine g_if_f rfl ?_
          | refine o_nil ?_
          | refine q_s ?_
          | refine q_se ?_
          | refine q_b ?_
          | refine q_be rfl ?_
          | refine q_bn rfl ?_
          | refine q_le ?_
          | refine q_ce ?_
          | (apply n3; exact a_new (gb := .bx _) rfl; exact rfl; (try dsimp only [List.map_cons, List.map_nil, scC, Nat.reduceAdd]))
          | (apply p3; (first | exact pu1 | exact puL | exact puN | exact a_len_str rfl (fT rfl) | exact puC | exact a_rem rfl rfl (by omega) (by omega) (by omega) | exact a_eqS rfl rfl rfl | exact a_addS rfl rfl (by first | omega | (simp only [List.length_append, List.length_cons, List.length_nil]; omega)) | exact a_add rfl rfl (by omega) (by omega) | exact puI); exact rfl)
          | (apply w3; (first | exact a_st_bx rfl rfl rfl rfl (fN rfl rfl) (Nat.le_of_ble_eq_true rfl) rfl | exact a_stE (E := eR) ⟨_, _, _⟩ rfl rfl rfl rfl (fN rfl rfl) bnd (by exact rfl)); exact rfl; (try dsimp only [setRow, List.map_cons, List.map_nil, scC, List.set_cons_zero, List.set_cons_succ, List.take_succ_cons, List.take_zero, List.drop_succ_cons, List.drop_zero, Nat.reduceAdd]))
          | refine o_no rfl rfl rfl rfl ?_
          | refine o_noN rfl rfl rfl ?_
          | (apply py3; exact rfl; exact rfl; (first | exact pu1 | exact puL | exact puN | exact a_len_str rfl (fT rfl) | exact puC | exact a_rem rfl rfl (by omega) (by omega) (by omega) | exact a_eqS rfl rfl rfl | exact a_addS rfl rfl (by first | omega | (simp only [List.length_append, List.length_cons, List.length_nil]; omega)) | exact a_add rfl rfl (by omega) (by omega) | exact puI); exact rfl; exact rfl)
          | (apply ny3; exact rfl; exact rfl; exact a_new (gb := .bx _) rfl; exact rfl; exact rfl)
          | (apply g_drN (id := 10) okM [[], [], [0, 1]] [([], []), ([], []), ([], [])] 0; (focus (all_goals refine dp 0 0 [41] [] puL ?_; all_goals refine dp 1 0 [40] [] (callD1 (n := _) 0 (θ := []) (hD := l05None_ok)) ?_; all_goals refine dp 2 3 [] [] (by first | exact a_eqRule rfl rfl | exact a_eqRule (s := ⟨_, _, _⟩) rfl rfl | exact a_eqRule (r := ⟨_, _, _⟩) rfl rfl | exact a_eqRule (r := ⟨_, _, _⟩) (s := ⟨_, _, _⟩) rfl rfl) ?_; all_goals (refine d_nil ?_; dsimp only [selT, selH, trues, SV.ren, C.ren, C.ren.all, tRen, GB.ren, calF, upOf, List.cons_append, List.nil_append, Nat.reduceAdd, setRow, List.map_cons, List.map_nil, scC, List.set_cons_zero, List.set_cons_succ, List.take_succ_cons, List.take_zero, List.drop_succ_cons, List.drop_zero]))); any_goals kernel_rfl)
          | (apply g_drN (id := 15) okM [[], [], [1], [1, 2], [], [1, 2, 3, 4], [], [6], [1, 2, 3, 6, 7], [1, 2, 3, 4, 5, 6, 7, 8], [0, 1, 2, 3, 4, 5, 6, 7, 8, 9], [0, 1, 2, 3, 4, 5, 6, 7, 8, 9, 10]] [([], []), ([], []), ([], []), ([], []), ([], []), ([], []), ([], []), ([], []), ([], []), ([], []), ([], []), ([], [])] 0; (focus (all_goals refine dp 0 0 [49, 50, 51, 52, 53, 54, 55, 56, 57] [] pu1 ?_; all_goals refine dp 1 0 [48, 52, 54, 55] [] (a_pure (sv := .one _) rfl) ?_; all_goals refine dp 2 1 [48, 52, 54, 55] [] puL ?_; all_goals refine dp 3 3 [48, 52, 54, 55] [] (callD1 (n := _) 0 (θ := []) (hD := (l01Dec_ok _ preB51 preB51))) ?_; all_goals refine dp 4 0 [48, 49, 50, 51, 54, 55, 56] [] pu1 ?_; all_goals refine dp 5 15 [48, 54, 55, 56] [] (a_addS rfl rfl (by first | omega | (simp only [List.length_append, List.length_cons, List.length_nil]; omega))) ?_; all_goals refine dp 6 0 [48, 49, 50, 51, 52, 53] [] (a_pure (sv := .one _) rfl) ?_; all_goals refine dp 7 1 [48, 49, 50, 51, 52, 53] [] puL ?_; all_goals refine dp 8 115 [48, 52, 53] [] (callD1 (n := _) 0 (θ := []) (hD := (l01Dec_ok _ preB51 preB51))) ?_; all_goals refine dp 9 255 [48] [] (a_addS rfl rfl (by first | omega | (simp only [List.length_append, List.length_cons, List.length_nil]; omega))) ?_; all_goals refine dp 10 1023 [] [] (a_addS rfl rfl (by first | omega | (simp only [List.length_append, List.length_cons, List.length_nil]; omega))) ?_; all_goals refine dp 11 2047 [] [] pu1 ?_; all_goals (refine d_nil ?_; dsimp only [selT, selH, trues, SV.ren, C.ren, C.ren.all, tRen, GB.ren, calF, upOf, List.cons_append, List.nil_append, Nat.reduceAdd, setRow, List.map_cons, List.map_nil, scC, List.set_cons_zero, List.set_cons_succ, List.take_succ_cons, List.take_zero, List.drop_succ_cons, List.drop_zero]))); any_goals kernel_rfl)
          | (refine o_gs rfl rfl (fun hc => ?_) (fun hc => ?_) <;> (try simp only [decide_eq_true_eq, decide_eq_false_iff_not, Bool.not_eq_true', Bool.not_eq_false', Bool.not_eq_true, Bool.not_eq_false, Bool.and_eq_true, Bool.or_eq_false_iff, Bool.not_not] at hc) <;> (try (first | contradiction | (exfalso; omega))))
          | (refine g_cond rfl (fun hc => ?_) (fun hc => ?_) <;> (try simp only [decide_eq_true_eq, decide_eq_false_iff_not, Bool.not_eq_true', Bool.not_eq_false', Bool.not_eq_true, Bool.not_eq_false, Bool.and_eq_true, Bool.or_eq_false_iff, Bool.not_not] at hc) <;> (try (first | contradiction | (exfalso; omega))))
        refine q_again (i + 1, _) [] (by exact stk) ?_ ?_
        · dsimp only
          refine ⟨by omega, by omega, ?_, ?_⟩
          · simp only [List.length_append, List.length_cons, List.length_nil]
            omega
          · rw [← j3, macF_at j0 (by omega), hs, hu]
            try simp only [List.append_assoc, List.nil_append, List.append_nil]
        · dsimp only; omega
      · by_cases hm2 : (m.ru[i.toNat]'(by omega)).m < 0
        · have hu : rulT (m.ru[i.toNat]'(by omega)) = decT (m.ru[i.toNat]'(by omega)).w ++ [76] ++ decT (m.ru[i.toNat]'(by omega)).n := by unfold rulT; rw [if_neg hz, if_pos hm2]
          repeat' first
            | refine g_seq ?_
            | refine g_skip ?_
            | refine g_exit ?_
            | refine g_block ?_
            | refine g_reg ?_
            | refine g_if_t rfl ?_
            | refine g_if_f rfl ?_
            | refine o_nil ?_
            | refine q_s ?_
            | refine q_se ?_
            | refine q_b ?_
            | refine q_be rfl ?_
            | refine q_bn rfl ?_
            | refine q_le ?_
            | refine q_ce ?_
            | (apply n3; exact a_new (gb := .bx _) rfl; exact rfl; (try dsimp only [List.map_cons, List.map_nil, scC, Nat.reduceAdd]))
            | (apply p3; (first | exact pu1 | exact puL | exact puN | exact a_len_str rfl (fT rfl) | exact puC | exact a_rem rfl rfl (by omega) (by omega) (by omega) | exact a_eqS rfl rfl rfl | exact a_addS rfl rfl (by first | omega | (simp only [List.length_append, List.length_cons, List.length_nil]; omega)) | exact a_add rfl rfl (by omega) (by omega) | exact puI); exact rfl)
            | (apply w3; (first | exact a_st_bx rfl rfl rfl rfl (fN rfl rfl) (Nat.le_of_ble_eq_true rfl) rfl | exact a_stE (E := eR) ⟨_, _, _⟩ rfl rfl rfl rfl (fN rfl rfl) bnd (by exact rfl)); exact rfl; (try dsimp only [setRow, List.map_cons, List.map_nil, scC, List.set_cons_zero, List.set_cons_succ, List.take_succ_cons, List.take_zero, List.drop_succ_cons, List.drop_zero, Nat.reduceAdd]))
            | refine o_no rfl rfl rfl rfl ?_
            | refine o_noN rfl rfl rfl ?_
            | (apply py3; exact rfl; exact rfl; (first | exact pu1 | exact puL | exact puN | exact a_len_str rfl (fT rfl) | exact puC | exact a_rem rfl rfl (by omega) (by omega) (by omega) | exact a_eqS rfl rfl rfl | exact a_addS rfl rfl (by first | omega | (simp only [List.length_append, List.length_cons, List.length_nil]; omega)) | exact a_add rfl rfl (by omega) (by omega) | exact puI); exact rfl; exact rfl)
            | (apply ny3; exact rfl; exact rfl; exact a_new (gb := .bx _) rfl; exact rfl; exact rfl)
            | (apply g_drN (id := 10) okM [[], [], [0, 1]] [([], []), ([], []), ([], [])] 0; (focus (all_goals refine dp 0 0 [41] [] puL ?_; all_goals refine dp 1 0 [40] [] (callD1 (n := _) 0 (θ := []) (hD := l05None_ok)) ?_; all_goals refine dp 2 3 [] [] (by first | exact a_eqRule rfl rfl | exact a_eqRule (s := ⟨_, _, _⟩) rfl rfl | exact a_eqRule (r := ⟨_, _, _⟩) rfl rfl | exact a_eqRule (r := ⟨_, _, _⟩) (s := ⟨_, _, _⟩) rfl rfl) ?_; all_goals (refine d_nil ?_; dsimp only [selT, selH, trues, SV.ren, C.ren, C.ren.all, tRen, GB.ren, calF, upOf, List.cons_append, List.nil_append, Nat.reduceAdd, setRow, List.map_cons, List.map_nil, scC, List.set_cons_zero, List.set_cons_succ, List.take_succ_cons, List.take_zero, List.drop_succ_cons, List.drop_zero]))); any_goals kernel_rfl)
            | (apply g_drN (id := 15) okM [[], [], [1], [1, 2], [], [1, 2, 3, 4], [], [6], [1, 2, 3, 6, 7], [1, 2, 3, 4, 5, 6, 7, 8], [0, 1, 2, 3, 4, 5, 6, 7, 8, 9], [0, 1, 2, 3, 4, 5, 6, 7, 8, 9, 10]] [([], []), ([], []), ([], []), ([], []), ([], []), ([], []), ([], []), ([], []), ([], []), ([], []), ([], []), ([], [])] 0; (focus (all_goals refine dp 0 0 [49, 50, 51, 52, 53, 54, 55, 56, 57] [] pu1 ?_; all_goals refine dp 1 0 [48, 52, 54, 55] [] (a_pure (sv := .one _) rfl) ?_; all_goals refine dp 2 1 [48, 52, 54, 55] [] puL ?_; all_goals refine dp 3 3 [48, 52, 54, 55] [] (callD1 (n := _) 0 (θ := []) (hD := (l01Dec_ok _ preB51 preB51))) ?_; all_goals refine dp 4 0 [48, 49, 50, 51, 54, 55, 56] [] pu1 ?_; all_goals refine dp 5 15 [48, 54, 55, 56] [] (a_addS rfl rfl (by first | omega | (simp only [List.length_append, List.length_cons, List.length_nil]; omega))) ?_; all_goals refine dp 6 0 [48, 49, 50, 51, 52, 53] [] (a_pure (sv := .one _) rfl) ?_; all_goals refine dp 7 1 [48, 49, 50, 51, 52, 53] [] puL ?_; all_goals refine dp 8 115 [48, 52, 53] [] (callD1 (n := _) 0 (θ := []) (hD := (l01Dec_ok _ preB51 preB51))) ?_; all_goals refine dp 9 255 [48] [] (a_addS rfl rfl (by first | omega | (simp only [List.length_append, List.length_cons, List.length_nil]; omega))) ?_; all_goals refine dp 10 1023 [] [] (a_addS rfl rfl (by first | omega | (simp only [List.length_append, List.length_cons, List.length_nil]; omega))) ?_; all_goals refine dp 11 2047 [] [] pu1 ?_; all_goals (refine d_nil ?_; dsimp only [selT, selH, trues, SV.ren, C.ren, C.ren.all, tRen, GB.ren, calF, upOf, List.cons_append, List.nil_append, Nat.reduceAdd, setRow, List.map_cons, List.map_nil, scC, List.set_cons_zero, List.set_cons_succ, List.take_succ_cons, List.take_zero, List.drop_succ_cons, List.drop_zero]))); any_goals kernel_rfl)
            | (refine o_gs rfl rfl (fun hc => ?_) (fun hc => ?_) <;> (try simp only [decide_eq_true_eq, decide_eq_false_iff_not, Bool.not_eq_true', Bool.not_eq_false', Bool.not_eq_true, Bool.not_eq_false, Bool.and_eq_true, Bool.or_eq_false_iff, Bool.not_not] at hc) <;> (try (first | contradiction | (exfalso; omega))))
            | (refine g_cond rfl (fun hc => ?_) (fun hc => ?_) <;> (try simp only [decide_eq_true_eq, decide_eq_false_iff_not, Bool.not_eq_true', Bool.not_eq_false', Bool.not_eq_true, Bool.not_eq_false, Bool.and_eq_true, Bool.or_eq_false_iff, Bool.not_not] at hc) <;> (try (first | contradiction | (exfalso; omega))))
          refine q_again (i + 1, _) [] (by exact stk) ?_ ?_
          · dsimp only
            refine ⟨by omega, by omega, ?_, ?_⟩
            · simp only [List.length_append, List.length_cons, List.length_nil]
              omega
            · rw [← j3, macF_at j0 (by omega), hs, hu]
              try simp only [List.append_assoc, List.nil_append, List.append_nil]
          · dsimp only; omega
        · have hu : rulT (m.ru[i.toNat]'(by omega)) = decT (m.ru[i.toNat]'(by omega)).w ++ [82] ++ decT (m.ru[i.toNat]'(by omega)).n := by unfold rulT; rw [if_neg hz, if_neg hm2]
          repeat' first
            | refine g_seq ?_
            | refine g_skip ?_
            | refine g_exit ?_
            | refine g_block ?_
            | refine g_reg ?_
            | refine g_if_t rfl ?_
            | refine g_if_f rfl ?_
            | refine o_nil ?_
            | refine q_s ?_
            | refine q_se ?_
            | refine q_b ?_
            | refine q_be rfl ?_
            | refine q_bn rfl ?_
            | refine q_le ?_
            | refine q_ce ?_
            | (apply n3; exact a_new (gb := .bx _) rfl; exact rfl; (try dsimp only [List.map_cons, List.map_nil, scC, Nat.reduceAdd]))
            | (apply p3; (first | exact pu1 | exact puL | exact puN | exact a_len_str rfl (fT rfl) | exact puC | exact a_rem rfl rfl (by omega) (by omega) (by omega) | exact a_eqS rfl rfl rfl | exact a_addS rfl rfl (by first | omega | (simp only [List.length_append, List.length_cons, List.length_nil]; omega)) | exact a_add rfl rfl (by omega) (by omega) | exact puI); exact rfl)
            | (apply w3; (first | exact a_st_bx rfl rfl rfl rfl (fN rfl rfl) (Nat.le_of_ble_eq_true rfl) rfl | exact a_stE (E := eR) ⟨_, _, _⟩ rfl rfl rfl rfl (fN rfl rfl) bnd (by exact rfl)); exact rfl; (try dsimp only [setRow, List.map_cons, List.map_nil, scC, List.set_cons_zero, List.set_cons_succ, List.take_succ_cons, List.take_zero, List.drop_succ_cons, List.drop_zero, Nat.reduceAdd]))
            | refine o_no rfl rfl rfl rfl ?_
            | refine o_noN rfl rfl rfl ?_
            | (apply py3; exact rfl; exact rfl; (first | exact pu1 | exact puL | exact puN | exact a_len_str rfl (fT rfl) | exact puC | exact a_rem rfl rfl (by omega) (by omega) (by omega) | exact a_eqS rfl rfl rfl | exact a_addS rfl rfl (by first | omega | (simp only [List.length_append, List.length_cons, List.length_nil]; omega)) | exact a_add rfl rfl (by omega) (by omega) | exact puI); exact rfl; exact rfl)
            | (apply ny3; exact rfl; exact rfl; exact a_new (gb := .bx _) rfl; exact rfl; exact rfl)
            | (apply g_drN (id := 10) okM [[], [], [0, 1]] [([], []), ([], []), ([], [])] 0; (focus (all_goals refine dp 0 0 [41] [] puL ?_; all_goals refine dp 1 0 [40] [] (callD1 (n := _) 0 (θ := []) (hD := l05None_ok)) ?_; all_goals refine dp 2 3 [] [] (by first | exact a_eqRule rfl rfl | exact a_eqRule (s := ⟨_, _, _⟩) rfl rfl | exact a_eqRule (r := ⟨_, _, _⟩) rfl rfl | exact a_eqRule (r := ⟨_, _, _⟩) (s := ⟨_, _, _⟩) rfl rfl) ?_; all_goals (refine d_nil ?_; dsimp only [selT, selH, trues, SV.ren, C.ren, C.ren.all, tRen, GB.ren, calF, upOf, List.cons_append, List.nil_append, Nat.reduceAdd, setRow, List.map_cons, List.map_nil, scC, List.set_cons_zero, List.set_cons_succ, List.take_succ_cons, List.take_zero, List.drop_succ_cons, List.drop_zero]))); any_goals kernel_rfl)
            | (apply g_drN (id := 15) okM [[], [], [1], [1, 2], [], [1, 2, 3, 4], [], [6], [1, 2, 3, 6, 7], [1, 2, 3, 4, 5, 6, 7, 8], [0, 1, 2, 3, 4, 5, 6, 7, 8, 9], [0, 1, 2, 3, 4, 5, 6, 7, 8, 9, 10]] [([], []), ([], []), ([], []), ([], []), ([], []), ([], []), ([], []), ([], []), ([], []), ([], []), ([], []), ([], [])] 0; (focus (all_goals refine dp 0 0 [49, 50, 51, 52, 53, 54, 55, 56, 57] [] pu1 ?_; all_goals refine dp 1 0 [48, 52, 54, 55] [] (a_pure (sv := .one _) rfl) ?_; all_goals refine dp 2 1 [48, 52, 54, 55] [] puL ?_; all_goals refine dp 3 3 [48, 52, 54, 55] [] (callD1 (n := _) 0 (θ := []) (hD := (l01Dec_ok _ preB51 preB51))) ?_; all_goals refine dp 4 0 [48, 49, 50, 51, 54, 55, 56] [] pu1 ?_; all_goals refine dp 5 15 [48, 54, 55, 56] [] (a_addS rfl rfl (by first | omega | (simp only [List.length_append, List.length_cons, List.length_nil]; omega))) ?_; all_goals refine dp 6 0 [48, 49, 50, 51, 52, 53] [] (a_pure (sv := .one _) rfl) ?_; all_goals refine dp 7 1 [48, 49, 50, 51, 52, 53] [] puL ?_; all_goals refine dp 8 115 [48, 52, 53] [] (callD1 (n := _) 0 (θ := []) (hD := (l01Dec_ok _ preB51 preB51))) ?_; all_goals refine dp 9 255 [48] [] (a_addS rfl rfl (by first | omega | (simp only [List.length_append, List.length_cons, List.length_nil]; omega))) ?_; all_goals refine dp 10 1023 [] [] (a_addS rfl rfl (by first | omega | (simp only [List.length_append, List.length_cons, List.length_nil]; omega))) ?_; all_goals refine dp 11 2047 [] [] pu1 ?_; all_goals (refine d_nil ?_; dsimp only [selT, selH, trues, SV.ren, C.ren, C.ren.all, tRen, GB.ren, calF, upOf, List.cons_append, List.nil_append, Nat.reduceAdd, setRow, List.map_cons, List.map_nil, scC, List.set_cons_zero, List.set_cons_succ, List.take_succ_cons, List.take_zero, List.drop_succ_cons, List.drop_zero]))); any_goals kernel_rfl)
            | (refine o_gs rfl rfl (fun hc => ?_) (fun hc => ?_) <;> (try simp only [decide_eq_true_eq, decide_eq_false_iff_not, Bool.not_eq_true', Bool.not_eq_false', Bool.not_eq_true, Bool.not_eq_false, Bool.and_eq_true, Bool.or_eq_false_iff, Bool.not_not] at hc) <;> (try (first | contradiction | (exfalso; omega))))
            | (refine g_cond rfl (fun hc => ?_) (fun hc => ?_) <;> (try simp only [decide_eq_true_eq, decide_eq_false_iff_not, Bool.not_eq_true', Bool.not_eq_false', Bool.not_eq_true, Bool.not_eq_false, Bool.and_eq_true, Bool.or_eq_false_iff, Bool.not_not] at hc) <;> (try (first | contradiction | (exfalso; omega))))
          refine q_again (i + 1, _) [] (by exact stk) ?_ ?_
          · dsimp only
            refine ⟨by omega, by omega, ?_, ?_⟩
            · simp only [List.length_append, List.length_cons, List.length_nil]
              omega
            · rw [← j3, macF_at j0 (by omega), hs, hu]
              try simp only [List.append_assoc, List.nil_append, List.append_nil]
          · dsimp only; omega
    · have hs : sepT m.sy i = [] := by unfold sepT; rw [if_pos (by omega)]
      have h4 := hR i.toNat (by omega)
      have d1 := dec_le (n := (m.ru[i.toNat]'(by omega)).w) (by omega) (by omega)
      have d2 := dec_le (n := (m.ru[i.toNat]'(by omega)).n) (by omega) (by omega)
      by_cases hz : m.ru[i.toNat]'(by omega) = ⟨0, 0, -1⟩
      · have hu : rulT (m.ru[i.toNat]'(by omega)) = [45, 45, 45] := by unfold rulT; rw [if_pos hz]
        repeat' first
          | refine g_seq ?_
          | refine g_skip ?_
          | refine g_exit ?_
          | refine g_block ?_
          | refine g_reg ?_
          | refine g_if_t rfl ?_
          | refine g_if_f rfl ?_
          | refine o_nil ?_
          | refine q_s ?_
          | refine q_se ?_
          | refine q_b ?_
          | refine q_be rfl ?_
          | refine q_bn rfl ?_
          | refine q_le ?_
          | refine q_ce ?_
          | (apply n3; exact a_new (gb := .bx _) rfl; exact rfl; (try dsimp only [List.map_cons, List.map_nil, scC, Nat.reduceAdd]))
          | (apply p3; (first | exact pu1 | exact puL | exact puN | exact a_len_str rfl (fT rfl) | exact puC | exact a_rem rfl rfl (by omega) (by omega) (by omega) | exact a_eqS rfl rfl rfl | exact a_addS rfl rfl (by first | omega | (simp only [List.length_append, List.length_cons, List.length_nil]; omega)) | exact a_add rfl rfl (by omega) (by omega) | exact puI); exact rfl)
          | (apply w3; (first | exact a_st_bx rfl rfl rfl rfl (fN rfl rfl) (Nat.le_of_ble_eq_true rfl) rfl | exact a_stE (E := eR) ⟨_, _, _⟩ rfl rfl rfl rfl (fN rfl rfl) bnd (by exact rfl)); exact rfl; (try dsimp only [setRow, List.map_cons, List.map_nil, scC, List.set_cons_zero, List.set_cons_succ, List.take_succ_cons, List.take_zero, List.drop_succ_cons, List.drop_zero, Nat.reduceAdd]))
          | refine o_no rfl rfl rfl rfl ?_
          | refine o_noN rfl rfl rfl ?_
          | (apply py3; exact rfl; exact rfl; (first | exact pu1 | exact puL | exact puN | exact a_len_str rfl (fT rfl) | exact puC | exact a_rem rfl rfl (by omega) (by omega) (by omega) | exact a_eqS rfl rfl rfl | exact a_addS rfl rfl (by first | omega | (simp only [List.length_append, List.length_cons, List.length_nil]; omega)) | exact a_add rfl rfl (by omega) (by omega) | exact puI); exact rfl; exact rfl)
          | (apply ny3; exact rfl; exact rfl; exact a_new (gb := .bx _) rfl; exact rfl; exact rfl)
          | (apply g_drN (id := 10) okM [[], [], [0, 1]] [([], []), ([], []), ([], [])] 0; (focus (all_goals refine dp 0 0 [41] [] puL ?_; all_goals refine dp 1 0 [40] [] (callD1 (n := _) 0 (θ := []) (hD := l05None_ok)) ?_; all_goals refine dp 2 3 [] [] (by first | exact a_eqRule rfl rfl | exact a_eqRule (s := ⟨_, _, _⟩) rfl rfl | exact a_eqRule (r := ⟨_, _, _⟩) rfl rfl | exact a_eqRule (r := ⟨_, _, _⟩) (s := ⟨_, _, _⟩) rfl rfl) ?_; all_goals (refine d_nil ?_; dsimp only [selT, selH, trues, SV.ren, C.ren, C.ren.all, tRen, GB.ren, calF, upOf, List.cons_append, List.nil_append, Nat.reduceAdd, setRow, List.map_cons, List.map_nil, scC, List.set_cons_zero, List.set_cons_succ, List.take_succ_cons, List.take_zero, List.drop_succ_cons, List.drop_zero]))); any_goals kernel_rfl)
          | (apply g_drN (id := 15) okM [[], [], [1], [1, 2], [], [1, 2, 3, 4], [], [6], [1, 2, 3, 6, 7], [1, 2, 3, 4, 5, 6, 7, 8], [0, 1, 2, 3, 4, 5, 6, 7, 8, 9], [0, 1, 2, 3, 4, 5, 6, 7, 8, 9, 10]] [([], []), ([], []), ([], []), ([], []), ([], []), ([], []), ([], []), ([], []), ([], []), ([], []), ([], []), ([], [])] 0; (focus (all_goals refine dp 0 0 [49, 50, 51, 52, 53, 54, 55, 56, 57] [] pu1 ?_; all_goals refine dp 1 0 [48, 52, 54, 55] [] (a_pure (sv := .one _) rfl) ?_; all_goals refine dp 2 1 [48, 52, 54, 55] [] puL ?_; all_goals refine dp 3 3 [48, 52, 54, 55] [] (callD1 (n := _) 0 (θ := []) (hD := (l01Dec_ok _ preB51 preB51))) ?_; all_goals refine dp 4 0 [48, 49, 50, 51, 54, 55, 56] [] pu1 ?_; all_goals refine dp 5 15 [48, 54, 55, 56] [] (a_addS rfl rfl (by first | omega | (simp only [List.length_append, List.length_cons, List.length_nil]; omega))) ?_; all_goals refine dp 6 0 [48, 49, 50, 51, 52, 53] [] (a_pure (sv := .one _) rfl) ?_; all_goals refine dp 7 1 [48, 49, 50, 51, 52, 53] [] puL ?_; all_goals refine dp 8 115 [48, 52, 53] [] (callD1 (n := _) 0 (θ := []) (hD := (l01Dec_ok _ preB51 preB51))) ?_; all_goals refine dp 9 255 [48] [] (a_addS rfl rfl (by first | omega | (simp only [List.length_append, List.length_cons, List.length_nil]; omega))) ?_; all_goals refine dp 10 1023 [] [] (a_addS rfl rfl (by first | omega | (simp only [List.length_append, List.length_cons, List.length_nil]; omega))) ?_; all_goals refine dp 11 2047 [] [] pu1 ?_; all_goals (refine d_nil ?_; dsimp only [selT, selH, trues, SV.ren, C.ren, C.ren.all, tRen, GB.ren, calF, upOf, List.cons_append, List.nil_append, Nat.reduceAdd, setRow, List.map_cons, List.map_nil, scC, List.set_cons_zero, List.set_cons_succ, List.take_succ_cons, List.take_zero, List.drop_succ_cons, List.drop_zero]))); any_goals kernel_rfl)
          | (refine o_gs rfl rfl (fun hc => ?_) (fun hc => ?_) <;> (try simp only [decide_eq_true_eq, decide_eq_false_iff_not, Bool.not_eq_true', Bool.not_eq_false', Bool.not_eq_true, Bool.not_eq_false, Bool.and_eq_true, Bool.or_eq_false_iff, Bool.not_not] at hc) <;> (try (first | contradiction | (exfalso; omega))))
          | (refine g_cond rfl (fun hc => ?_) (fun hc => ?_) <;> (try simp only [decide_eq_true_eq, decide_eq_false_iff_not, Bool.not_eq_true', Bool.not_eq_false', Bool.not_eq_true, Bool.not_eq_false, Bool.and_eq_true, Bool.or_eq_false_iff, Bool.not_not] at hc) <;> (try (first | contradiction | (exfalso; omega))))
        refine q_again (i + 1, _) [] (by exact stk) ?_ ?_
        · dsimp only
          refine ⟨by omega, by omega, ?_, ?_⟩
          · simp only [List.length_append, List.length_cons, List.length_nil]
            omega
          · rw [← j3, macF_at j0 (by omega), hs, hu]
            try simp only [List.append_assoc, List.nil_append, List.append_nil]
        · dsimp only; omega
      · by_cases hm2 : (m.ru[i.toNat]'(by omega)).m < 0
        · have hu : rulT (m.ru[i.toNat]'(by omega)) = decT (m.ru[i.toNat]'(by omega)).w ++ [76] ++ decT (m.ru[i.toNat]'(by omega)).n := by unfold rulT; rw [if_neg hz, if_pos hm2]
          repeat' first
            | refine g_seq ?_
            | refine g_skip ?_
            | refine g_exit ?_
            | refine g_block ?_
            | refine g_reg ?_
            | refine g_if_t rfl ?_
            | refine g_if_f rfl ?_
            | refine o_nil ?_
            | refine q_s ?_
            | refine q_se ?_
            | refine q_b ?_
            | refine q_be rfl ?_
            | refine q_bn rfl ?_
            | refine q_le ?_
            | refine q_ce ?_
            | (apply n3; exact a_new (gb := .bx _) rfl; exact rfl; (try dsimp only [List.map_cons, List.map_nil, scC, Nat.reduceAdd]))
            | (apply p3; (first | exact pu1 | exact puL | exact puN | exact a_len_str rfl (fT rfl) | exact puC | exact a_rem rfl rfl (by omega) (by omega) (by omega) | exact a_eqS rfl rfl rfl | exact a_addS rfl rfl (by first | omega | (simp only [List.length_append, List.length_cons, List.length_nil]; omega)) | exact a_add rfl rfl (by omega) (by omega) | exact puI); exact rfl)
            | (apply w3; (first | exact a_st_bx rfl rfl rfl rfl (fN rfl rfl) (Nat.le_of_ble_eq_true rfl) rfl | exact a_stE (E := eR) ⟨_, _, _⟩ rfl rfl rfl rfl (fN rfl rfl) bnd (by exact rfl)); exact rfl; (try dsimp only [setRow, List.map_cons, List.map_nil, scC, List.set_cons_zero, List.set_cons_succ, List.take_succ_cons, List.take_zero, List.drop_succ_cons, List.drop_zero, Nat.reduceAdd]))
            | refine o_no rfl rfl rfl rfl ?_
            | refine o_noN rfl rfl rfl ?_
            | (apply py3; exact rfl; exact rfl; (first | exact pu1 | exact puL | exact puN | exact a_len_str rfl (fT rfl) | exact puC | exact a_rem rfl rfl (by omega) (by omega) (by omega) | exact a_eqS rfl rfl rfl | exact a_addS rfl rfl (by first | omega | (simp only [List.length_append, List.length_cons, List.length_nil]; omega)) | exact a_add rfl rfl (by omega) (by omega) | exact puI); exact rfl; exact rfl)
            | (apply ny3; exact rfl; exact rfl; exact a_new (gb := .bx _) rfl; exact rfl; exact rfl)
            | (apply g_drN (id := 10) okM [[], [], [0, 1]] [([], []), ([], []), ([], [])] 0; (focus (all_goals refine dp 0 0 [41] [] puL ?_; all_goals refine dp 1 0 [40] [] (callD1 (n := _) 0 (θ := []) (hD := l05None_ok)) ?_; all_goals refine dp 2 3 [] [] (by first | exact a_eqRule rfl rfl | exact a_eqRule (s := ⟨_, _, _⟩) rfl rfl | exact a_eqRule (r := ⟨_, _, _⟩) rfl rfl | exact a_eqRule (r := ⟨_, _, _⟩) (s := ⟨_, _, _⟩) rfl rfl) ?_; all_goals (refine d_nil ?_; dsimp only [selT, selH, trues, SV.ren, C.ren, C.ren.all, tRen, GB.ren, calF, upOf, List.cons_append, List.nil_append, Nat.reduceAdd, setRow, List.map_cons, List.map_nil, scC, List.set_cons_zero, List.set_cons_succ, List.take_succ_cons, List.take_zero, List.drop_succ_cons, List.drop_zero]))); any_goals kernel_rfl)
            | (apply g_drN (id := 15) okM [[], [], [1], [1, 2], [], [1, 2, 3, 4], [], [6], [1, 2, 3, 6, 7], [1, 2, 3, 4, 5, 6, 7, 8], [0, 1, 2, 3, 4, 5, 6, 7, 8, 9], [0, 1, 2, 3, 4, 5, 6, 7, 8, 9, 10]] [([], []), ([], []), ([], []), ([], []), ([], []), ([], []), ([], []), ([], []), ([], []), ([], []), ([], []), ([], [])] 0; (focus (all_goals refine dp 0 0 [49, 50, 51, 52, 53, 54, 55, 56, 57] [] pu1 ?_; all_goals refine dp 1 0 [48, 52, 54, 55] [] (a_pure (sv := .one _) rfl) ?_; all_goals refine dp 2 1 [48, 52, 54, 55] [] puL ?_; all_goals refine dp 3 3 [48, 52, 54, 55] [] (callD1 (n := _) 0 (θ := []) (hD := (l01Dec_ok _ preB51 preB51))) ?_; all_goals refine dp 4 0 [48, 49, 50, 51, 54, 55, 56] [] pu1 ?_; all_goals refine dp 5 15 [48, 54, 55, 56] [] (a_addS rfl rfl (by first | omega | (simp only [List.length_append, List.length_cons, List.length_nil]; omega))) ?_; all_goals refine dp 6 0 [48, 49, 50, 51, 52, 53] [] (a_pure (sv := .one _) rfl) ?_; all_goals refine dp 7 1 [48, 49, 50, 51, 52, 53] [] puL ?_; all_goals refine dp 8 115 [48, 52, 53] [] (callD1 (n := _) 0 (θ := []) (hD := (l01Dec_ok _ preB51 preB51))) ?_; all_goals refine dp 9 255 [48] [] (a_addS rfl rfl (by first | omega | (simp only [List.length_append, List.length_cons, List.length_nil]; omega))) ?_; all_goals refine dp 10 1023 [] [] (a_addS rfl rfl (by first | omega | (simp only [List.length_append, List.length_cons, List.length_nil]; omega))) ?_; all_goals refine dp 11 2047 [] [] pu1 ?_; all_goals (refine d_nil ?_; dsimp only [selT, selH, trues, SV.ren, C.ren, C.ren.all, tRen, GB.ren, calF, upOf, List.cons_append, List.nil_append, Nat.reduceAdd, setRow, List.map_cons, List.map_nil, scC, List.set_cons_zero, List.set_cons_succ, List.take_succ_cons, List.take_zero, List.drop_succ_cons, List.drop_zero]))); any_goals kernel_rfl)
            | (refine o_gs rfl rfl (fun hc => ?_) (fun hc => ?_) <;> (try simp only [decide_eq_true_eq, decide_eq_false_iff_not, Bool.not_eq_true', Bool.not_eq_false', Bool.not_eq_true, Bool.not_eq_false, Bool.and_eq_true, Bool.or_eq_false_iff, Bool.not_not] at hc) <;> (try (first | contradiction | (exfalso; omega))))
            | (refine g_cond rfl (fun hc => ?_) (fun hc => ?_) <;> (try simp only [decide_eq_true_eq, decide_eq_false_iff_not, Bool.not_eq_true', Bool.not_eq_false', Bool.not_eq_true, Bool.not_eq_false, Bool.and_eq_true, Bool.or_eq_false_iff, Bool.not_not] at hc) <;> (try (first | contradiction | (exfalso; omega))))
          refine q_again (i + 1, _) [] (by exact stk) ?_ ?_
          · dsimp only
            refine ⟨by omega, by omega, ?_, ?_⟩
            · simp only [List.length_append, List.length_cons, List.length_nil]
              omega
            · rw [← j3, macF_at j0 (by omega), hs, hu]
              try simp only [List.append_assoc, List.nil_append, List.append_nil]
          · dsimp only; omega
        · have hu : rulT (m.ru[i.toNat]'(by omega)) = decT (m.ru[i.toNat]'(by omega)).w ++ [82] ++ decT (m.ru[i.toNat]'(by omega)).n := by unfold rulT; rw [if_neg hz, if_neg hm2]
          repeat' first
            | refine g_seq ?_
            | refine g_skip ?_
            | refine g_exit ?_
            | refine g_block ?_
            | refine g_reg ?_
            | refine g_if_t rfl ?_
            | refine g_if_f rfl ?_
            | refine o_nil ?_
            | refine q_s ?_
            | refine q_se ?_
            | refine q_b ?_
            | refine q_be rfl ?_
            | refine q_bn rfl ?_
            | refine q_le ?_
            | refine q_ce ?_
            | (apply n3; exact a_new (gb := .bx _) rfl; exact rfl; (try dsimp only [List.map_cons, List.map_nil, scC, Nat.reduceAdd]))
            | (apply p3; (first | exact pu1 | exact puL | exact puN | exact a_len_str rfl (fT rfl) | exact puC | exact a_rem rfl rfl (by omega) (by omega) (by omega) | exact a_eqS rfl rfl rfl | exact a_addS rfl rfl (by first | omega | (simp only [List.length_append, List.length_cons, List.length_nil]; omega)) | exact a_add rfl rfl (by omega) (by omega) | exact puI); exact rfl)
            | (apply w3; (first | exact a_st_bx rfl rfl rfl rfl (fN rfl rfl) (Nat.le_of_ble_eq_true rfl) rfl | exact a_stE (E := eR) ⟨_, _, _⟩ rfl rfl rfl rfl (fN rfl rfl) bnd (by exact rfl)); exact rfl; (try dsimp only [setRow, List.map_cons, List.map_nil, scC, List.set_cons_zero, List.set_cons_succ, List.take_succ_cons, List.take_zero, List.drop_succ_cons, List.drop_zero, Nat.reduceAdd]))
            | refine o_no rfl rfl rfl rfl ?_
            | refine o_noN rfl rfl rfl ?_
            | (apply py3; exact rfl; exact rfl; (first | exact pu1 | exact puL | exact puN | exact a_len_str rfl (fT rfl) | exact puC | exact a_rem rfl rfl (by omega) (by omega) (by omega) | exact a_eqS rfl rfl rfl | exact a_addS rfl rfl (by first | omega | (simp only [List.length_append, List.length_cons, List.length_nil]; omega)) | exact a_add rfl rfl (by omega) (by omega) | exact puI); exact rfl; exact rfl)
            | (apply ny3; exact rfl; exact rfl; exact a_new (gb := .bx _) rfl; exact rfl; exact rfl)
            | (apply g_drN (id := 10) okM [[], [], [0, 1]] [([], []), ([], []), ([], [])] 0; (focus (all_goals refine dp 0 0 [41] [] puL ?_; all_goals refine dp 1 0 [40] [] (callD1 (n := _) 0 (θ := []) (hD := l05None_ok)) ?_; all_goals refine dp 2 3 [] [] (by first | exact a_eqRule rfl rfl | exact a_eqRule (s := ⟨_, _, _⟩) rfl rfl | exact a_eqRule (r := ⟨_, _, _⟩) rfl rfl | exact a_eqRule (r := ⟨_, _, _⟩) (s := ⟨_, _, _⟩) rfl rfl) ?_; all_goals (refine d_nil ?_; dsimp only [selT, selH, trues, SV.ren, C.ren, C.ren.all, tRen, GB.ren, calF, upOf, List.cons_append, List.nil_append, Nat.reduceAdd, setRow, List.map_cons, List.map_nil, scC, List.set_cons_zero, List.set_cons_succ, List.take_succ_cons, List.take_zero, List.drop_succ_cons, List.drop_zero]))); any_goals kernel_rfl)
            | (apply g_drN (id := 15) okM [[], [], [1], [1, 2], [], [1, 2, 3, 4], [], [6], [1, 2, 3, 6, 7], [1, 2, 3, 4, 5, 6, 7, 8], [0, 1, 2, 3, 4, 5, 6, 7, 8, 9], [0, 1, 2, 3, 4, 5, 6, 7, 8, 9, 10]] [([], []), ([], []), ([], []), ([], []), ([], []), ([], []), ([], []), ([], []), ([], []), ([], []), ([], []), ([], [])] 0; (focus (all_goals refine dp 0 0 [49, 50, 51, 52, 53, 54, 55, 56, 57] [] pu1 ?_; all_goals refine dp 1 0 [48, 52, 54, 55] [] (a_pure (sv := .one _) rfl) ?_; all_goals refine dp 2 1 [48, 52, 54, 55] [] puL ?_; all_goals refine dp 3 3 [48, 52, 54, 55] [] (callD1 (n := _) 0 (θ := []) (hD := (l01Dec_ok _ preB51 preB51))) ?_; all_goals refine dp 4 0 [48, 49, 50, 51, 54, 55, 56] [] pu1 ?_; all_goals refine dp 5 15 [48, 54, 55, 56] [] (a_addS rfl rfl (by first | omega | (simp only [List.length_append, List.length_cons, List.length_nil]; omega))) ?_; all_goals refine dp 6 0 [48, 49, 50, 51, 52, 53] [] (a_pure (sv := .one _) rfl) ?_; all_goals refine dp 7 1 [48, 49, 50, 51, 52, 53] [] puL ?_; all_goals refine dp 8 115 [48, 52, 53] [] (callD1 (n := _) 0 (θ := []) (hD := (l01Dec_ok _ preB51 preB51))) ?_; all_goals refine dp 9 255 [48] [] (a_addS rfl rfl (by first | omega | (simp only [List.length_append, List.length_cons, List.length_nil]; omega))) ?_; all_goals refine dp 10 1023 [] [] (a_addS rfl rfl (by first | omega | (simp only [List.length_append, List.length_cons, List.length_nil]; omega))) ?_; all_goals refine dp 11 2047 [] [] pu1 ?_; all_goals (refine d_nil ?_; dsimp only [selT, selH, trues, SV.ren, C.ren, C.ren.all, tRen, GB.ren, calF, upOf, List.cons_append, List.nil_append, Nat.reduceAdd, setRow, List.map_cons, List.map_nil, scC, List.set_cons_zero, List.set_cons_succ, List.take_succ_cons, List.take_zero, List.drop_succ_cons, List.drop_zero]))); any_goals kernel_rfl)
            | (refine o_gs rfl rfl (fun hc => ?_) (fun hc => ?_) <;> (try simp only [decide_eq_true_eq, decide_eq_false_iff_not, Bool.not_eq_true', Bool.not_eq_false', Bool.not_eq_true, Bool.not_eq_false, Bool.and_eq_true, Bool.or_eq_false_iff, Bool.not_not] at hc) <;> (try (first | contradiction | (exfalso; omega))))
            | (refine g_cond rfl (fun hc => ?_) (fun hc => ?_) <;> (try simp only [decide_eq_true_eq, decide_eq_false_iff_not, Bool.not_eq_true', Bool.not_eq_false', Bool.not_eq_true, Bool.not_eq_false, Bool.and_eq_true, Bool.or_eq_false_iff, Bool.not_not] at hc) <;> (try (first | contradiction | (exfalso; omega))))
          refine q_again (i + 1, _) [] (by exact stk) ?_ ?_
          · dsimp only
            refine ⟨by omega, by omega, ?_, ?_⟩
            · simp only [List.length_append, List.length_cons, List.length_nil]
              omega
            · rw [← j3, macF_at j0 (by omega), hs, hu]
              try simp only [List.append_assoc, List.nil_append, List.append_nil]
          · dsimp only; omega
    · have e : out = macT m := by unfold macT; rw [← j3, List.drop_eq_nil_of_le (by omega), macF, List.append_nil]
      rw [e]
      repeat' first
        | refine g_seq ?_
        | refine g_skip ?_
        | refine g_exit ?_
        | refine g_block ?_
        | refine g_reg ?_
        | refine g_if_t rfl ?_
        | refine g_if_f rfl ?_
        | refine o_nil ?_
        | refine q_s ?_
        | refine q_se ?_
        | refine q_b ?_
        | refine q_be rfl ?_
        | refine q_bn rfl ?_
        | refine q_le ?_
        | refine q_ce ?_
        | (apply n3; exact a_new (gb := .bx _) rfl; exact rfl; (try dsimp only [List.map_cons, List.map_nil, scC, Nat.reduceAdd]))
        | (apply p3; (first | exact pu1 | exact puL | exact puN | exact a_len_str rfl (fT rfl) | exact puC | exact a_rem rfl rfl (by omega) (by omega) (by omega) | exact a_eqS rfl rfl rfl | exact a_addS rfl rfl (by first | omega | (simp only [List.length_append, List.length_cons, List.length_nil]; omega)) | exact a_add rfl rfl (by omega) (by omega) | exact puI); exact rfl)
        | (apply w3; (first | exact a_st_bx rfl rfl rfl rfl (fN rfl rfl) (Nat.le_of_ble_eq_true rfl) rfl | exact a_stE (E := eR) ⟨_, _, _⟩ rfl rfl rfl rfl (fN rfl rfl) bnd (by exact rfl)); exact rfl; (try dsimp only [setRow, List.map_cons, List.map_nil, scC, List.set_cons_zero, List.set_cons_succ, List.take_succ_cons, List.take_zero, List.drop_succ_cons, List.drop_zero, Nat.reduceAdd]))
        | refine o_no rfl rfl rfl rfl ?_
        | refine o_noN rfl rfl rfl ?_
        | (apply py3; exact rfl; exact rfl; (first | exact pu1 | exact puL | exact puN | exact a_len_str rfl (fT rfl) | exact puC | exact a_rem rfl rfl (by omega) (by omega) (by omega) | exact a_eqS rfl rfl rfl | exact a_addS rfl rfl (by first | omega | (simp only [List.length_append, List.length_cons, List.length_nil]; omega)) | exact a_add rfl rfl (by omega) (by omega) | exact puI); exact rfl; exact rfl)
        | (apply ny3; exact rfl; exact rfl; exact a_new (gb := .bx _) rfl; exact rfl; exact rfl)
        | (apply g_drN (id := 10) okM [[], [], [0, 1]] [([], []), ([], []), ([], [])] 0; (focus (all_goals refine dp 0 0 [41] [] puL ?_; all_goals refine dp 1 0 [40] [] (callD1 (n := _) 0 (θ := []) (hD := l05None_ok)) ?_; all_goals refine dp 2 3 [] [] (by first | exact a_eqRule rfl rfl | exact a_eqRule (s := ⟨_, _, _⟩) rfl rfl | exact a_eqRule (r := ⟨_, _, _⟩) rfl rfl | exact a_eqRule (r := ⟨_, _, _⟩) (s := ⟨_, _, _⟩) rfl rfl) ?_; all_goals (refine d_nil ?_; dsimp only [selT, selH, trues, SV.ren, C.ren, C.ren.all, tRen, GB.ren, calF, upOf, List.cons_append, List.nil_append, Nat.reduceAdd, setRow, List.map_cons, List.map_nil, scC, List.set_cons_zero, List.set_cons_succ, List.take_succ_cons, List.take_zero, List.drop_succ_cons, List.drop_zero]))); any_goals kernel_rfl)
        | (apply g_drN (id := 15) okM [[], [], [1], [1, 2], [], [1, 2, 3, 4], [], [6], [1, 2, 3, 6, 7], [1, 2, 3, 4, 5, 6, 7, 8], [0, 1, 2, 3, 4, 5, 6, 7, 8, 9], [0, 1, 2, 3, 4, 5, 6, 7, 8, 9, 10]] [([], []), ([], []), ([], []), ([], []), ([], []), ([], []), ([], []), ([], []), ([], []), ([], []), ([], []), ([], [])] 0; (focus (all_goals refine dp 0 0 [49, 50, 51, 52, 53, 54, 55, 56, 57] [] pu1 ?_; all_goals refine dp 1 0 [48, 52, 54, 55] [] (a_pure (sv := .one _) rfl) ?_; all_goals refine dp 2 1 [48, 52, 54, 55] [] puL ?_; all_goals refine dp 3 3 [48, 52, 54, 55] [] (callD1 (n := _) 0 (θ := []) (hD := (l01Dec_ok _ preB51 preB51))) ?_; all_goals refine dp 4 0 [48, 49, 50, 51, 54, 55, 56] [] pu1 ?_; all_goals refine dp 5 15 [48, 54, 55, 56] [] (a_addS rfl rfl (by first | omega | (simp only [List.length_append, List.length_cons, List.length_nil]; omega))) ?_; all_goals refine dp 6 0 [48, 49, 50, 51, 52, 53] [] (a_pure (sv := .one _) rfl) ?_; all_goals refine dp 7 1 [48, 49, 50, 51, 52, 53] [] puL ?_; all_goals refine dp 8 115 [48, 52, 53] [] (callD1 (n := _) 0 (θ := []) (hD := (l01Dec_ok _ preB51 preB51))) ?_; all_goals refine dp 9 255 [48] [] (a_addS rfl rfl (by first | omega | (simp only [List.length_append, List.length_cons, List.length_nil]; omega))) ?_; all_goals refine dp 10 1023 [] [] (a_addS rfl rfl (by first | omega | (simp only [List.length_append, List.length_cons, List.length_nil]; omega))) ?_; all_goals refine dp 11 2047 [] [] pu1 ?_; all_goals (refine d_nil ?_; dsimp only [selT, selH, trues, SV.ren, C.ren, C.ren.all, tRen, GB.ren, calF, upOf, List.cons_append, List.nil_append, Nat.reduceAdd, setRow, List.map_cons, List.map_nil, scC, List.set_cons_zero, List.set_cons_succ, List.take_succ_cons, List.take_zero, List.drop_succ_cons, List.drop_zero]))); any_goals kernel_rfl)
        | (refine o_gs rfl rfl (fun hc => ?_) (fun hc => ?_) <;> (try simp only [decide_eq_true_eq, decide_eq_false_iff_not, Bool.not_eq_true', Bool.not_eq_false', Bool.not_eq_true, Bool.not_eq_false, Bool.and_eq_true, Bool.or_eq_false_iff, Bool.not_not] at hc) <;> (try (first | contradiction | (exfalso; omega))))
        | (refine g_cond rfl (fun hc => ?_) (fun hc => ?_) <;> (try simp only [decide_eq_true_eq, decide_eq_false_iff_not, Bool.not_eq_true', Bool.not_eq_false', Bool.not_eq_true, Bool.not_eq_false, Bool.and_eq_true, Bool.or_eq_false_iff, Bool.not_not] at hc) <;> (try (first | contradiction | (exfalso; omega))))
      repeat (first | refine g_ret ?_ | refine q_sr ?_ | refine q_br ?_ | refine q_lr ?_ | refine q_cr ?_)
      refine ends_id ?_
      refine endK [] (h2 := ?_) (h3 := ?_) (nd := ?_)
      all_goals (repeat' first | with_reducible exact SVLe.refl | exact SVLe.any | exact SVLe.one (.sh rfl) | exact SVLe.one (.nil (by decide)) | refine SVLe.agg ?_ | refine SVLe.tup ?_ | exact TLe.nil | refine TLe.cons ?_ ?_ | exact CsLe.nil | refine CsLe.cons ?_ ?_ | exact CLe.refl | exact CLe.sh rfl | exact CLe.nil (by decide) | refine cle_i ?_ | refine cle_b ?_ | exact trivial | refine And.intro ?_ ?_ | exact Or.inl rfl | exact Or.inr rfl | refine Or.inr (row_eq ?_) | (refine Or.inr (bx_eq rfl rfl ?_); (try dsimp only [C.ren, C.ren.all]); (try exact rfl)) | exact SVLe.refl | refine sle_i ?_ | refine sle_b ?_)
      all_goals first | exact (show nodupB _ = true from rfl) | exact Or.inr rfl | (rfl)
end Go.Proofs.YtbekdojhcokalaaGreatDoor
end
section
set_option linter.unusedVariables false
set_option linter.unusedSimpArgs false
set_option maxRecDepth 100000
namespace Go.Proofs.YtbekdojhcokalaaGreatDoor
open Go Foot
section
variable {P : Program} {g : Gh} {dst : Option Tmp} {ty : TypeId} {pos : String} {after : Array Edge} {guard : Option (Nat × Bool)} {st : St} {x y : Operand}
theorem run_slice3 {w : World} {T z len cap l u : Nat} {ad : Option Addr} {lo hi mx : Value} (hT : sliceB P T z = true) (hlo : ∃ k, lo = .int k l) (hhi : ∃ k, hi = .int k u) (hmx : ∃ k, mx = .int k u) (h1 : l ≤ u) (h2 : u ≤ len) (h3 : len ≤ cap) :
    (Instr.sliceAt T (.slice ad len cap) (some lo) (some hi) (some mx)).run P w = .ok (.slice (if u = l then ad else ad.map (·.add (l * z))) (u - l) (u - l)) w := by
  unfold sliceB at hT
  split at hT
  · rename_i e hu
    split at hT
    · rename_i i hi'
      have hs := Nat.eq_of_beq_eq_true hT
      subst hs
      have a1 : (u : Int) ≤ cap := by omega
      have a2 : (l : Int) ≤ u := by omega
      have b1 : u ≤ cap := by omega
      obtain ⟨k, rfl⟩ := hlo
      obtain ⟨k', rfl⟩ := hhi
      obtain ⟨k'', rfl⟩ := hmx
      simp [Instr.sliceAt, run_underlying hu, Instr.slice, Instr.sliceBounds, Instr.sliceBound, asIntOf, sizeOf, typeInfo, hi', a1, a2, b1, h1]
    · cases hT
  · cases hT
theorem a_slice_imm3 {T zz l u : Nat} {c : C} {row es : List D} {lo hi mx : Operand} (hc : opd st x = .one c) (hs : shv st c = some (zz, row)) (hlo : bndOk st 0 (some lo) l) (hhi : bndOk st (cnt zz row) (some hi) u) (hmx : bndOk st (cnt zz row) (some mx) u) (hT : sliceB P T zz = true) (h1 : l ≤ u) (h2 : u ≤ cnt zz row) (he : (row.drop (l * zz)).take ((u - l) * zz) = es) :
    Acts P g ⟨dst, .slice T x (some lo) (some hi) (some mx), ty, pos, after, guard⟩ st (.one (.d (.sl false zz es))) [] [] := by
  subst he
  refine acts_of fun a w S ρ F h => ?_
  have hx1 := h.shv (opd_one h hc) hs
  obtain ⟨ad, len, cap, hv, hlr, hz, hlc, hcn⟩ := sl_len hx1
  simp only [RepS, RepC, Rep, Bool.false_eq_true, if_false] at hx1 ⊢
  obtain ⟨ad', len', cap', he, hlr', hz', hlc', h2'⟩ := hx1
  rw [hv] at he
  simp only [Value.slice.injEq] at he
  obtain ⟨e1, e2, e3⟩ := he
  subst e1 e2 e3
  rw [hcn] at hhi hmx h2
  have hm : (u - l) * zz + l * zz = u * zz := by rw [← Nat.add_mul]; congr 1; omega
  have hm2 : u * zz ≤ row.length := by rw [hlr]; exact Nat.mul_le_mul_right _ h2
  have ev : ∀ {d n : Nat} {z : Operand}, bndOk st d (some z) n → ∃ k, a.eval z = .int k n := fun {d n z} hb => by
    rcases bnd_eval h hb with ⟨e, _⟩ | ⟨k, e⟩
    · cases e
    · exact ⟨k, by simpa using e⟩
  refine ⟨.slice (if u = l then ad else ad.map (·.add (l * zz))) (u - l) (u - l), ?_, ⟨_, u - l, u - l, rfl, ?_, hz, by omega, ?_⟩⟩
  · show (do pure (.value (← Instr.sliceAt T (a.eval x) ((some lo).map a.eval) ((some hi).map a.eval) ((some mx).map a.eval))) : Sem Next).run P w = _
    rw [hv]
    have := run_slice3 (P := P) (w := w) (ad := ad) (cap := cap) hT (ev hlo) (ev hhi) (ev hmx) h1 h2 hlc
    simp only [Option.map_some, Sem.run_bind, this]
    rfl
  · simp only [List.length_take, List.length_drop]; omega
  · rcases h2' with ⟨rfl, _⟩ | ⟨b, of0, vs, G, rfl, hl, hrs, hle, rfl⟩
    · exact .inl ⟨by omega, fun h => by cases h⟩
    · refine .inr ?_
      split
      · rename_i hcl
        have hul : u - l = 0 := by omega
        refine ⟨b, of0, [], no, rfl, fun i v hv => by simp at hv, ?_, ?_, rfl⟩
        · rw [hul]; simp [Reps]
        · rw [hul]; simp only [Nat.zero_mul, List.take_zero, List.length_nil]; rintro b' o' ⟨_, e1, e2⟩; omega
      · refine ⟨b, of0 + l * zz, (vs.drop (l * zz)).take ((u - l) * zz), no, by simp [addr_add], (hl.drop _).take _, (hrs.drop _).take _, ?_, rfl⟩
        rintro b' o' ⟨rfl, e1, e2⟩
        simp only [List.length_take, List.length_drop] at e2
        exact hle _ _ ⟨rfl, by omega, by omega⟩
theorem a_slX {α : Type} {E : Enc α} {l : List α} {lo hi mx : Operand} {T zz : Nat} {c : C} {a b : Int} (hc : opd st x = .one c) (hs : shv st c = some (zz, rows E l)) (hlo : opd st lo = .one (int a)) (hhi : opd st hi = .one (int b)) (hmx : opd st mx = .one (int b)) (hT : sliceB P T zz = true) (h0 : 0 ≤ a) (h1 : a ≤ b) (h2 : b ≤ l.length) (hz : E.z = zz) :
    Acts P g ⟨dst, .slice T x (some lo) (some hi) (some mx), ty, pos, after, guard⟩ st (.one (.d (.sl false zz (rows E ((l.drop a.toNat).take (b.toNat - a.toNat)))))) [] [] := by
  subst hz
  exact a_slice_imm3 hc hs (bnd_i hlo h0) (bnd_i hhi (by omega)) (bnd_i hmx (by omega)) hT (by omega) (by rw [cnt_rows']; omega) (sl_mid E l _ _)
/-- A field of a frozen struct, no more of what lies behind than asked. -/
theorem a_fa_immT {T f off : Nat} (n : Nat) {row row' : List D} (hc : opd st x = .one (.d (.bx false row))) (hT : fieldB P T f off = true) (hr : (row.drop off).take n = row') : Acts P g ⟨dst, .fieldAddr T x f, ty, pos, after, guard⟩ st (.one (.d (.bx false row'))) [] [] := by
  subst hr
  refine acts_of fun a w S ρ F h => ?_
  have h1 := opd_one h hc
  simp only [RepS, RepC, Rep, Bool.false_eq_true, if_false] at h1 ⊢
  obtain ⟨b, of0, vs, G, he, hl, hrs, hle, rfl⟩ := h1
  refine ⟨.pointer (some ⟨b, of0 + off, none⟩), ?_, ⟨b, of0 + off, (vs.drop off).take n, no, rfl, (hl.drop off).take n, (hrs.drop off).take n, ?_, rfl⟩⟩
  · show (do pure (.value (← Instr.fieldAt T (a.eval x) f)) : Sem Next).run P w = _
    rw [he]
    simp [run_fieldAt hT]
  · rintro b' o' ⟨rfl, h1, h2⟩
    simp only [List.length_take, List.length_drop] at h2
    exact hle _ _ ⟨rfl, by omega, by omega⟩
end
end Go.Proofs.YtbekdojhcokalaaGreatDoor
end
section
set_option linter.unusedVariables false
set_option linter.unusedSimpArgs false
set_option maxRecDepth 100000
set_option maxHeartbeats 4000000
namespace Go.Proofs.YtbekdojhcokalaaGreatDoor
open Go Foot
/-- Pieces, each but the first with something ahead of it. -/
def jf (sep : Bs) : Nat → List Bs → Bs
  | _, [] => []
  | i, b :: r => (if i = 0 then [] else sep) ++ (b ++ jf sep (i + 1) r)
theorem jf_s (sep : Bs) : ∀ (l : List Bs) (i : Nat), jf sep (i + 1) l = Lib.joinTail sep l
  | [], i => by simp [jf, Lib.joinTail]
  | b :: r, i => by
    have := jf_s sep r (i + 1)
    simp only [Lib.joinTail, List.map_cons, List.flatten_cons, jf] at this ⊢
    rw [this, if_neg (by omega)]
    simp
theorem jf_0 (sep : Bs) (l : List Bs) : jf sep 0 l = joinT l sep := by
  unfold joinT
  cases l with
  | nil => rfl
  | cons b r => rw [Lib.join_cons, jf, jf_s]; simp
theorem jf_at {sep : Bs} {α : Type} {f : α → Bs} {l : List α} {i : Int} (h0 : 0 ≤ i) (h : i < l.length) (out : Bs) : out ++ jf sep i.toNat ((l.drop i.toNat).map f) = out ++ (if i = 0 then [] else sep) ++ f (l[i.toNat]'(by omega)) ++ jf sep (i + 1).toNat ((l.drop (i + 1).toNat).map f) := by
  rw [List.drop_eq_getElem_cons (show i.toNat < l.length by omega), show (i + 1).toNat = i.toNat + 1 by omega, List.map_cons, jf]
  by_cases hi : i = 0
  · rw [if_pos hi, if_pos (by omega)]; simp only [List.append_assoc, List.nil_append]
  · rw [if_neg hi, if_neg (by omega)]; simp only [List.append_assoc]
theorem jt_le {sep : Bs} {k : Nat} : ∀ {l : List Bs}, (∀ b ∈ l, b.length ≤ k) → (Lib.joinTail sep l).length ≤ (k + sep.length) * l.length
  | [], _ => by simp [Lib.joinTail]
  | b :: r, h => by
    have h1 := jt_le (sep := sep) (k := k) (l := r) fun x hx => h x (by simp [hx])
    have h2 := h b (by simp)
    simp only [Lib.joinTail, List.map_cons, List.flatten_cons, List.length_append, List.length_cons] at h1 ⊢
    rw [Nat.mul_succ]
    omega
theorem joinT_le {sep : Bs} {k : Nat} {l : List Bs} (h : ∀ b ∈ l, b.length ≤ k) : (joinT l sep).length ≤ (k + sep.length) * l.length := by
  unfold joinT
  cases l with
  | nil => simp [Lib.join_nil]
  | cons b r =>
    rw [Lib.join_cons, List.length_append, List.length_cons, Nat.mul_succ]
    have h1 := jt_le (sep := sep) (k := k) (l := r) fun x hx => h x (by simp [hx])
    have h2 := h b (by simp)
    omega
/-- A list in parts of so many. -/
def chs {α : Type} (n : Nat) (l : List α) : List (List α) := if h : l.length = 0 ∨ n = 0 then [] else l.take n :: chs n (l.drop n)
termination_by l.length
decreasing_by rw [List.length_drop]; omega
theorem chs_0 {α : Type} (n : Nat) {l : List α} (h : l.length = 0) : chs n l = [] := by rw [chs]; simp [h]
theorem chs_s {α : Type} {n : Nat} {l : List α} (hn : n ≠ 0) (h : l.length ≠ 0) : chs n l = l.take n :: chs n (l.drop n) := by rw [chs]; simp [h, hn]
/-- The text of some rules that stand together. -/
@[irreducible] def chT (a : List Rule') : Bs := joinT (a.map rulT) [44]
theorem mac_chunk {sy : Nat} : ∀ (c rest : List Rule') (q j : Nat), 0 < j → j + c.length ≤ sy → macF sy (q * sy + j) (c ++ rest) = Lib.joinTail [44] (c.map rulT) ++ macF sy (q * sy + j + c.length) rest
  | [], rest, q, j, h0, h => by simp [Lib.joinTail]
  | r :: c, rest, q, j, h0, h => by
    simp only [List.length_cons] at h
    have e : sepT sy ((q * sy + j : Nat) : Int) = [44] := by
      have h2 : (q * sy + j) % sy = j := by have := Nat.mul_add_mod sy q j; rw [Nat.mul_comm, this]; exact Nat.mod_eq_of_lt (by omega)
      unfold sepT
      have h3 : ((q * sy + j : Nat) : Int) ≠ 0 := by omega
      have h4 : ((q * sy + j : Nat) : Int) % (sy : Int) ≠ 0 := by rw [← Int.natCast_emod, h2]; omega
      rw [if_neg h3, if_neg h4]
    have := mac_chunk (sy := sy) c rest q (j + 1) (by omega) (by omega)
    rw [List.cons_append, macF, e, Nat.add_assoc (q * sy) j 1, this, List.length_cons, show q * sy + j + (c.length + 1) = q * sy + (j + 1) + c.length by omega]
    simp [Lib.joinTail]
theorem chs_mac {sy : Nat} (hs : sy ≠ 0) (n : Nat) : ∀ (l : List Rule') (q : Nat), l.length ≤ n → macF sy (q * sy) l = jf [59] q ((chs sy l).map chT) := by
  induction n with
  | zero =>
    intro l q h
    have : l = [] := List.eq_nil_of_length_eq_zero (by omega)
    subst this
    rw [chs_0 _ rfl]; rfl
  | succ n ih =>
    intro l q h
    cases l with
    | nil => rw [chs_0 _ rfl]; rfl
    | cons r rs =>
      obtain ⟨k, rfl⟩ : ∃ k, sy = k + 1 := ⟨sy - 1, by omega⟩
      rw [chs_s hs (by simp), List.take_succ_cons, List.drop_succ_cons, List.map_cons, jf, macF]
      have h1 := mac_chunk (sy := k + 1) (rs.take k) (rs.drop k) q 1 (by omega) (by rw [List.length_take]; omega)
      rw [List.take_append_drop] at h1
      rw [h1]
      have e1 : sepT ((k + 1 : Nat) : Int) ((q * (k + 1) : Nat) : Int) = if q = 0 then [] else [59] := by
        unfold sepT
        by_cases hq : q = 0
        · subst hq; simp
        · rw [if_neg hq, if_neg, if_pos]
          · rw [← Int.natCast_emod, Nat.mul_mod_left]; rfl
          · have : 0 < q * (k + 1) := Nat.mul_pos (by omega) (by omega)
            omega
      have e2 : chT (r :: rs.take k) = rulT r ++ Lib.joinTail [44] ((rs.take k).map rulT) := by
        unfold chT joinT
        rw [List.map_cons, Lib.join_cons]
      have e3 : macF ((k + 1 : Nat) : Int) (q * (k + 1) + 1 + (rs.take k).length) (rs.drop k) = jf [59] (q + 1) ((chs (k + 1) (rs.drop k)).map chT) := by
        by_cases hr : rs.length ≤ k
        · rw [List.drop_eq_nil_of_le hr, chs_0 _ rfl]; rfl
        · rw [show q * (k + 1) + 1 + (rs.take k).length = (q + 1) * (k + 1) by rw [List.length_take, Nat.min_eq_left (by omega), Nat.succ_mul]; omega]
          exact ih _ _ (by rw [List.length_drop]; simp only [List.length_cons] at h; omega)
      rw [e1, e2, e3]
      simp only [List.append_assoc]
theorem macT_eq {m : Mach} (h : 1 ≤ m.sy) : macT m = joinT ((chs m.sy.toNat m.ru).map chT) [59] := by
  have := chs_mac (sy := m.sy.toNat) (by omega) m.ru.length m.ru 0 (Nat.le_refl _)
  rw [jf_0, Nat.zero_mul, show ((m.sy.toNat : Nat) : Int) = m.sy by omega] at this
  unfold macT
  exact this
theorem chT_le {a : List Rule'} (h : ∀ r ∈ a, RuBd r) : ((chT a).length : Int) ≤ 44 * a.length := by
  unfold chT
  have := joinT_le (sep := [44]) (k := 43) (l := a.map rulT) fun b hb => by
    obtain ⟨r, hr, rfl⟩ := List.mem_map.1 hb
    have := rulT_le (h r hr)
    omega
  simp only [List.length_map, List.length_cons, List.length_nil] at this
  omega
end Go.Proofs.YtbekdojhcokalaaGreatDoor
end
section
set_option linter.unusedVariables false
set_option linter.unusedSimpArgs false
set_option maxRecDepth 100000
set_option maxHeartbeats 4000000
namespace Go.Proofs.YtbekdojhcokalaaGreatDoor
open Go Foot
theorem preB53 {p : Prop} (h : p := by first | with_reducible assumption | omega | (simp only [List.length_append, List.length_cons, List.length_nil, List.length_set, List.length_replicate, List.length_take, List.length_drop, List.length_tail, List.length_dropLast, List.length_reverse] at *; omega) | exact mem_len (by assumption) (by omega) | (with_reducible refine Int.le_trans (Int.ofNat_le.2 (trimR_len _)) ?_; simp only [List.length_cons, List.length_tail]; omega) | (exact (ruAt_ok (by assumption) (by assumption) (by assumption)).2.1) | (exact (ruAt_ok (by assumption) (by assumption) (by assumption)).2.1) | (have := vMach_bd (by assumption); omega) | (simp only [mC_ch, mC_tu]; omega) | (have := vTag_bd (by assumption); omega) | (have := (‹Gd _ _›).le; omega) | (exact tgHalts_no (by assumption)) | (exact tgHead (by assumption) (by assumption) (by assumption)) | (exact Int.le_trans (tgStep_gd (by assumption) (by assumption) (by assumption) (by assumption)).le (by decide)) | (exact vTag_r (by assumption)) | (with_reducible refine Int.le_trans (Int.ofNat_le.2 (pushL_len _ _)) ?_; simp only [List.length_dropLast]; omega) | exact (ask_ok (by assumption)).1 | exact (ask_ok (by assumption)).2.1 | exact (ask_ok (by assumption)).2.2.1 | exact (ask_ok (by assumption)).2.2.2 | trivial) : p := h
theorem chunk_ok (ru : List Rule') (n : Int) (h1 : 1 ≤ n) : Does Tryz.prog 135 [.one (shR ru), .one (int n)] [] (.one (.fn (.func 194) [.gv 0, .gv 1])) [.bx [shR ru], .bx [int n]] := by
  refine does_of (k := 0) Tryz.func135 rfl Tryz.ntmps135 rfl rfl fun w F0 S0 ρ0 => ?_
  dsimp only [argT, argH]
  repeat' first
    | refine g_seq ?_
    | refine g_skip ?_
    | refine g_exit ?_
    | refine g_block ?_
    | refine g_reg ?_
    | refine g_if_t rfl ?_
    | refine g_if_f rfl ?_
    | refine o_nil ?_
    | refine q_s ?_
    | refine q_se ?_
    | refine q_b ?_
    | refine q_be rfl ?_
    | refine q_bn rfl ?_
    | refine q_le ?_
    | refine q_ce ?_
    | (apply n3; exact a_new (gb := .bx _) rfl; exact rfl; (try dsimp only [List.map_cons, List.map_nil, scC, Nat.reduceAdd]))
    | (apply p3; (first | exact pu1 | exact puL | exact puC); exact rfl)
    | (refine o_gs rfl rfl (fun hc => ?_) (fun hc => ?_) <;> (try simp only [decide_eq_true_eq, decide_eq_false_iff_not, Bool.not_eq_true', Bool.not_eq_false', Bool.not_eq_true, Bool.not_eq_false, Bool.and_eq_true, Bool.or_eq_false_iff, Bool.not_not] at hc) <;> (try (first | contradiction | (exfalso; omega))))
    | (refine g_cond rfl (fun hc => ?_) (fun hc => ?_) <;> (try simp only [decide_eq_true_eq, decide_eq_false_iff_not, Bool.not_eq_true', Bool.not_eq_false', Bool.not_eq_true, Bool.not_eq_false, Bool.and_eq_true, Bool.or_eq_false_iff, Bool.not_not] at hc) <;> (try (first | contradiction | (exfalso; omega))))
  repeat (first | refine g_ret ?_ | refine q_sr ?_ | refine q_br ?_ | refine q_lr ?_ | refine q_cr ?_)
  refine ends_id ?_
  refine endK [?_, ?_] (h2 := ?_) (h3 := ?_) (nd := ?_)
  rotate_left 2
  all_goals (repeat' first | with_reducible exact SVLe.refl | exact SVLe.any | exact SVLe.one (.sh rfl) | exact SVLe.one (.nil (by decide)) | refine SVLe.agg ?_ | refine SVLe.tup ?_ | exact TLe.nil | refine TLe.cons ?_ ?_ | exact CsLe.nil | refine CsLe.cons ?_ ?_ | exact CLe.refl | exact CLe.sh rfl | exact CLe.nil (by decide) | refine cle_i ?_ | refine cle_b ?_ | exact trivial | refine And.intro ?_ ?_ | exact Or.inl rfl | exact Or.inr rfl | refine Or.inr (row_eq ?_) | (refine Or.inr (bx_eq rfl rfl ?_); (try dsimp only [C.ren, C.ren.all]); (try exact rfl)) | exact SVLe.refl | refine sle_i ?_ | refine sle_b ?_)
  all_goals first | exact (show nodupB _ = true from rfl) | exact Or.inr rfl | (rfl)
structure ChPre (x : List Bs) (a : List Rule') : Prop where
  xl : (x.length : Int) ≤ 6000
  al : (a.length : Int) ≤ 6000
  ab : ∀ r ∈ a, RuBd r
@[irreducible] def chX (n : Int) (ru : List Rule') : List Bs := (chs n.toNat ru).map chT
theorem chX_0 {n : Int} {ru : List Rule'} {i : Int} (h : ¬ i < ru.length) : chX n (ru.drop i.toNat) = [] := by
  unfold chX
  rw [chs_0 _ (by rw [List.length_drop]; omega)]; rfl
theorem chX_s {n i : Int} {ru : List Rule'} (h1 : 1 ≤ n) (h0 : 0 ≤ i) (h : i < ru.length) : chX n (ru.drop i.toNat) = chT ((ru.drop i.toNat).take n.toNat) :: chX n (ru.drop (i + n).toNat) := by
  unfold chX
  rw [chs_s (by omega) (by rw [List.length_drop]; omega), List.map_cons, List.drop_drop, show i.toNat + n.toNat = (i + n).toNat by omega]
theorem map_take_s {α β : Type} (f : α → β) {l : List α} {i : Int} (h0 : 0 ≤ i) (h : i < l.length) : (l.take i.toNat).map f ++ [f (l[i.toNat]'(by omega))] = (l.take (i + 1).toNat).map f := by
  rw [show (i + 1).toNat = i.toNat + 1 by omega, List.take_succ_eq_append_getElem (by omega), List.map_append]
  rfl
theorem chX_le {n : Int} (h1 : 1 ≤ n) : ∀ (k : Nat) (ru : List Rule'), ru.length ≤ k → (chX n ru).length ≤ ru.length
  | 0, ru, h => by
    unfold chX
    rw [chs_0 _ (by omega)]; simp
  | k + 1, ru, h => by
    by_cases h0 : ru.length = 0
    · unfold chX
      rw [chs_0 _ h0]; simp
    · have := chX_le h1 k (ru.drop n.toNat) (by rw [List.length_drop]; omega)
      unfold chX at this ⊢
      rw [chs_s (by omega) h0, List.map_cons, List.length_cons]
      rw [List.length_drop] at this
      omega
theorem ch_take {n i : Int} {ru : List Rule'} (h1 : 1 ≤ n) (h0 : 0 ≤ i) (h : i < ru.length) : ∃ z : Int, (if ((ru.drop i.toNat).length : Int) < n then ((ru.drop i.toNat).length : Int) else n) = z ∧ 0 ≤ z ∧ z ≤ n ∧ i + z ≤ ru.length ∧ (ru.drop i.toNat).take ((i + z).toNat - i.toNat) = (ru.drop i.toNat).take n.toNat := by
  have hl : (ru.drop i.toNat).length = ru.length - i.toNat := List.length_drop
  by_cases hn : ((ru.drop i.toNat).length : Int) < n
  · refine ⟨_, if_pos hn, by omega, by omega, by omega, ?_⟩
    rw [List.take_of_length_le (by omega), List.take_of_length_le (by omega)]
  · refine ⟨_, if_neg hn, by omega, by omega, by omega, ?_⟩
    congr 1; omega
theorem chunkIt_ok (ru : List Rule') (n : Int) (l : Nat) (R : List Bs → Option Code → Opq) (h1 : 1 ≤ n) (hn : n ≤ 1000) (hl : (ru.length : Int) ≤ 6000) (hR : ∀ r ∈ ru, RuBd r) (hY : ∀ x a, ChPre x a → DoesW (YC Tryz.prog l) [.one (shR a)] [.opq (R x none) []] (.one (boo true)) [.opq (R (x ++ [chT a]) none) []]) : Does Tryz.prog 194 [.one (.d (.fn (.yield l) [])), .one (.gv 1), .one (.gv 2)] [.opq (R [] none) [], .bx [shR ru], .bx [int n]] (.tup []) [.opq (R (chX n ru) none) [], .bx [shR ru], .bx [int n]] := by
  refine does_of (k := 3) Tryz.func194 rfl Tryz.ntmps194 rfl rfl fun w F0 S0 ρ0 => ?_
  dsimp only [argT, argH]
  repeat' first
    | refine g_seq ?_
    | refine g_skip ?_
    | refine g_exit ?_
    | refine g_block ?_
    | refine g_reg ?_
    | refine g_if_t rfl ?_
    | refine g_if_f rfl ?_
    | refine o_nil ?_
    | refine q_s ?_
    | refine q_se ?_
    | refine q_b ?_
    | refine q_be rfl ?_
    | refine q_bn rfl ?_
    | refine q_le ?_
    | refine q_ce ?_
    | (apply p3; (first | exact pu1 | exact puL | exact puN | exact a_len_str rfl (fT rfl) | exact puC | exact a_add rfl rfl (by omega) (by omega) | exact a_slX rfl rfl rfl rfl rfl (fS rfl) (by omega) bnd bnd (by exact rfl)); exact rfl)
    | (apply c4 0; exact callY (θ := [0]) (hD := (hY _ _ (by assumption))); exact rfl; exact rfl; exact rfl; (try dsimp only [SV.ren, C.ren, C.ren.all, tRen, GB.ren, calF, upOf, List.cons_append, List.nil_append, Nat.reduceAdd]))
    | (apply g_drN (id := 3) okM [[], [], [], [1, 2], [1, 2, 3], [0, 1, 2, 3, 4], [0, 1, 2, 3, 4, 5]] [([], []), ([], []), ([], []), ([], []), ([], []), ([], []), ([], [])] 0; (focus (all_goals refine dp 0 0 [14, 15, 16, 17] [] puL ?_; all_goals refine dp 1 0 [13, 15] [] puL ?_; all_goals refine dp 2 0 [13, 14] [] pu1 ?_; all_goals refine dp 3 3 [13] [] (by first | exact a_slT rfl rfl rfl (fS rfl) (by omega) (by omega) (by exact rfl) | exact atS 0 (fun _ hj => a_slTO rfl rfl rfl (fS rfl) (by omega) (by omega) (by exact rfl) hj) (by decide)) ?_; all_goals refine dp 4 7 [13] [] (by first | exact puN | exact a_pure (sv := .one _) rfl | exact a_len_str rfl (fT rfl)) ?_; all_goals refine dp 5 31 [] [] (a_min rfl rfl) ?_; all_goals refine dp 6 63 [] [] pu1 ?_; all_goals (refine d_nil ?_; dsimp only [selT, selH, trues, SV.ren, C.ren, C.ren.all, tRen, GB.ren, calF, upOf, List.cons_append, List.nil_append, Nat.reduceAdd, setRow, List.map_cons, List.map_nil, scC, List.set_cons_zero, List.set_cons_succ, List.take_succ_cons, List.take_zero, List.drop_succ_cons, List.drop_zero]))); any_goals kernel_rfl)
    | (refine o_gs rfl rfl (fun hc => ?_) (fun hc => ?_) <;> (try simp only [decide_eq_true_eq, decide_eq_false_iff_not, Bool.not_eq_true', Bool.not_eq_false', Bool.not_eq_true, Bool.not_eq_false, Bool.and_eq_true, Bool.or_eq_false_iff, Bool.not_not] at hc) <;> (try (first | contradiction | (exfalso; omega))))
    | (refine g_cond rfl (fun hc => ?_) (fun hc => ?_) <;> (try simp only [decide_eq_true_eq, decide_eq_false_iff_not, Bool.not_eq_true', Bool.not_eq_false', Bool.not_eq_true, Bool.not_eq_false, Bool.and_eq_true, Bool.or_eq_false_iff, Bool.not_not] at hc) <;> (try (first | contradiction | (exfalso; omega))))
  refine g_loop_id ?_
  refine loopK [0, 1, 2] [0] (fun y : List Bs × Int => 0 ≤ y.2 ∧ (y.1.length : Int) ≤ y.2 ∧ (y.1.length : Int) ≤ 6000 ∧ y.1 ++ chX n (ru.drop y.2.toNat) = chX n ru) (fun y => [(4, .one (int y.2))]) (fun y => [(0, .opq (R y.1 none) [])]) (fun y => (ru.length - y.2).toNat) ([], (0 : Int)) [0, 1, 2] (hI := ?_) (hr := ?_)
  · exact ⟨by simp, by simp, by simp, by simp⟩
  · rintro ⟨x, i⟩ ⟨k1, k2, k3, k4⟩
    dsimp only [List.cons_append, List.nil_append] at *
    skip
    repeat' first
      | refine g_seq ?_
      | refine g_skip ?_
      | refine g_exit ?_
      | refine g_block ?_
      | refine g_reg (id := 1) ?_
      | refine g_if_t rfl ?_
      | refine g_if_f rfl ?_
      | refine o_nil ?_
      | refine q_s ?_
      | refine q_se ?_
      | refine q_b ?_
      | refine q_be rfl ?_
      | refine q_bn rfl ?_
      | refine q_le ?_
      | refine q_ce ?_
      | (apply p3; (first | exact pu1 | exact puL | exact puN | exact a_len_str rfl (fT rfl) | exact puC); exact rfl)
      | (apply g_drN (id := 3) okM [[], [], [], [1, 2], [1, 2, 3], [0, 1, 2, 3, 4], [0, 1, 2, 3, 4, 5]] [([], []), ([], []), ([], []), ([], []), ([], []), ([], []), ([], [])] 0; (focus (all_goals refine dp 0 0 [14, 15, 16, 17] [] puL ?_; all_goals refine dp 1 0 [13, 15] [] puL ?_; all_goals refine dp 2 0 [13, 14] [] pu1 ?_; all_goals refine dp 3 3 [13] [] (by first | exact a_slT rfl rfl rfl (fS rfl) (by omega) (by omega) (by exact rfl) | exact atS 0 (fun _ hj => a_slTO rfl rfl rfl (fS rfl) (by omega) (by omega) (by exact rfl) hj) (by decide)) ?_; all_goals refine dp 4 7 [13] [] (by first | exact puN | exact a_pure (sv := .one _) rfl | exact a_len_str rfl (fT rfl)) ?_; all_goals refine dp 5 31 [] [] (a_min rfl rfl) ?_; all_goals refine dp 6 63 [] [] pu1 ?_; all_goals (refine d_nil ?_; dsimp only [selT, selH, trues, SV.ren, C.ren, C.ren.all, tRen, GB.ren, calF, upOf, List.cons_append, List.nil_append, Nat.reduceAdd, setRow, List.map_cons, List.map_nil, scC, List.set_cons_zero, List.set_cons_succ, List.take_succ_cons, List.take_zero, List.drop_succ_cons, List.drop_zero]))); any_goals kernel_rfl)
      | (refine o_gs rfl rfl (fun hc => ?_) (fun hc => ?_) <;> (try simp only [decide_eq_true_eq, decide_eq_false_iff_not, Bool.not_eq_true', Bool.not_eq_false', Bool.not_eq_true, Bool.not_eq_false, Bool.and_eq_true, Bool.or_eq_false_iff, Bool.not_not] at hc) <;> (try (first | contradiction | (exfalso; omega))))
      | (refine g_cond rfl (fun hc => ?_) (fun hc => ?_) <;> (try simp only [decide_eq_true_eq, decide_eq_false_iff_not, Bool.not_eq_true', Bool.not_eq_false', Bool.not_eq_true, Bool.not_eq_false, Bool.and_eq_true, Bool.or_eq_false_iff, Bool.not_not] at hc) <;> (try (first | contradiction | (exfalso; omega))))
    · obtain ⟨z, ez, z0, z1, z2, e⟩ := ch_take (n := n) h1 k1 hc
      have hp : ChPre x ((ru.drop i.toNat).take ((i + z).toNat - i.toNat)) := ⟨k3, by rw [List.length_take, List.length_drop]; omega, fun r hr => hR r (List.mem_of_mem_drop (List.mem_of_mem_take hr))⟩
      rw [ez]
      repeat' first
        | refine g_seq ?_
        | refine g_skip ?_
        | refine g_exit ?_
        | refine g_block ?_
        | refine g_reg ?_
        | refine g_if_t rfl ?_
        | refine g_if_f rfl ?_
        | refine o_nil ?_
        | refine q_s ?_
        | refine q_se ?_
        | refine q_b ?_
        | refine q_be rfl ?_
        | refine q_bn rfl ?_
        | refine q_le ?_
        | refine q_ce ?_
        | (apply p3; (first | exact pu1 | exact puL | exact puN | exact a_len_str rfl (fT rfl) | exact puC | exact a_add rfl rfl (by omega) (by omega) | exact a_slX rfl rfl rfl rfl rfl (fS rfl) (by omega) bnd bnd (by exact rfl)); exact rfl)
        | (apply c4 0; exact callY (θ := [0]) (hD := (hY _ _ (by assumption))); exact rfl; exact rfl; exact rfl; (try dsimp only [SV.ren, C.ren, C.ren.all, tRen, GB.ren, calF, upOf, List.cons_append, List.nil_append, Nat.reduceAdd]))
        | (apply g_drN (id := 3) okM [[], [], [], [1, 2], [1, 2, 3], [0, 1, 2, 3, 4], [0, 1, 2, 3, 4, 5]] [([], []), ([], []), ([], []), ([], []), ([], []), ([], []), ([], [])] 0; (focus (all_goals refine dp 0 0 [14, 15, 16, 17] [] puL ?_; all_goals refine dp 1 0 [13, 15] [] puL ?_; all_goals refine dp 2 0 [13, 14] [] pu1 ?_; all_goals refine dp 3 3 [13] [] (by first | exact a_slT rfl rfl rfl (fS rfl) (by omega) (by omega) (by exact rfl) | exact atS 0 (fun _ hj => a_slTO rfl rfl rfl (fS rfl) (by omega) (by omega) (by exact rfl) hj) (by decide)) ?_; all_goals refine dp 4 7 [13] [] (by first | exact puN | exact a_pure (sv := .one _) rfl | exact a_len_str rfl (fT rfl)) ?_; all_goals refine dp 5 31 [] [] (a_min rfl rfl) ?_; all_goals refine dp 6 63 [] [] pu1 ?_; all_goals (refine d_nil ?_; dsimp only [selT, selH, trues, SV.ren, C.ren, C.ren.all, tRen, GB.ren, calF, upOf, List.cons_append, List.nil_append, Nat.reduceAdd, setRow, List.map_cons, List.map_nil, scC, List.set_cons_zero, List.set_cons_succ, List.take_succ_cons, List.take_zero, List.drop_succ_cons, List.drop_zero]))); any_goals kernel_rfl)
        | (refine o_gs rfl rfl (fun hc => ?_) (fun hc => ?_) <;> (try simp only [decide_eq_true_eq, decide_eq_false_iff_not, Bool.not_eq_true', Bool.not_eq_false', Bool.not_eq_true, Bool.not_eq_false, Bool.and_eq_true, Bool.or_eq_false_iff, Bool.not_not] at hc) <;> (try (first | contradiction | (exfalso; omega))))
        | (refine g_cond rfl (fun hc => ?_) (fun hc => ?_) <;> (try simp only [decide_eq_true_eq, decide_eq_false_iff_not, Bool.not_eq_true', Bool.not_eq_false', Bool.not_eq_true, Bool.not_eq_false, Bool.and_eq_true, Bool.or_eq_false_iff, Bool.not_not] at hc) <;> (try (first | contradiction | (exfalso; omega))))
      rw [e]
      refine q_again (x ++ [chT ((ru.drop i.toNat).take n.toNat)], i + n) [0, 1, 2] (by exact stk) ?_ ?_
      · dsimp only
        refine ⟨by omega, ?_, ?_, ?_⟩
        · rw [List.length_append, List.length_cons, List.length_nil]; omega
        · rw [List.length_append, List.length_cons, List.length_nil]; omega
        · rw [← k4, chX_s h1 k1 hc]; simp
      · dsimp only; omega
    · have e : x = chX n ru := by rw [← k4, chX_0 hc, List.append_nil]
      rw [← e]
      repeat (first | refine g_ret ?_ | refine q_sr ?_ | refine q_br ?_ | refine q_lr ?_ | refine q_cr ?_)
      refine ends_id ?_
      refine endK [] (h2 := ?_) (h3 := ?_) (nd := ?_)
      all_goals (repeat' first | with_reducible exact SVLe.refl | exact SVLe.any | exact SVLe.one (.sh rfl) | exact SVLe.one (.nil (by decide)) | refine SVLe.agg ?_ | refine SVLe.tup ?_ | exact TLe.nil | refine TLe.cons ?_ ?_ | exact CsLe.nil | refine CsLe.cons ?_ ?_ | exact CLe.refl | exact CLe.sh rfl | exact CLe.nil (by decide) | refine cle_i ?_ | refine cle_b ?_ | exact trivial | refine And.intro ?_ ?_ | exact Or.inl rfl | exact Or.inr rfl | refine Or.inr (row_eq ?_) | (refine Or.inr (bx_eq rfl rfl ?_); (try dsimp only [C.ren, C.ren.all]); (try exact rfl)) | exact SVLe.refl | refine sle_i ?_ | refine sle_b ?_)
      all_goals first | exact (show nodupB _ = true from rfl) | exact Or.inr rfl | (rfl)
theorem MachineText_ok (m : Mach) (hm : vMach m = true) : Does Tryz.prog 72 [.agg (maC m)] [] (.one (str (macT m))) [] := by
  have hb := vMach_bd hm
  have hR := vMach_rb hm
  have h3 : m.sy * m.st ≤ 6 * 1000 := Int.mul_le_mul (by omega) (by omega) (by omega) (by omega)
  have hl : (m.ru.length : Int) ≤ 6000 := by omega
  have hT := macT_eq (m := m) (by omega)
  have hX : (chs m.sy.toNat m.ru).map chT = chX m.sy m.ru := by unfold chX; rfl
  rw [hX] at hT
  have hj := macT_le hm
  have hx := chX_le (n := m.sy) (by omega) m.ru.length m.ru (Nat.le_refl _)
  rw [hT] at hj ⊢
  refine does_of (k := 0) Tryz.func72 rfl Tryz.ntmps72 rfl rfl fun w F0 S0 ρ0 => ?_
  dsimp only [argT, argH]
  repeat' first
    | refine g_seq ?_
    | refine g_skip ?_
    | refine g_exit ?_
    | refine g_block ?_
    | refine g_reg ?_
    | refine g_if_t rfl ?_
    | refine g_if_f rfl ?_
    | refine o_nil ?_
    | refine q_s ?_
    | refine q_se ?_
    | refine q_b ?_
    | refine q_be rfl ?_
    | refine q_bn rfl ?_
    | refine q_le ?_
    | refine q_ce ?_
    | (apply n3; (first | exact a_new (gb := .bx _) rfl | exact a_litE eS [] rfl rfl rfl rfl rfl rfl rfl rfl | exact a_litE eS [_] rfl rfl rfl rfl rfl rfl rfl rfl | exact a_appN (fP rfl) rfl rfl rfl nowR (by first | omega | (simp; omega)) (by decide) (by exact rfl)); exact rfl; (try dsimp only [List.map_cons, List.map_nil, scC, Nat.reduceAdd]))
    | (apply p3; (first | exact pu1 | exact puL | exact puN | exact a_len_str rfl (fT rfl) | exact puC | exact a_add rfl rfl (by omega) (by omega) | exact puI); exact rfl)
    | (apply s3; exact a_appE (fP rfl) rfl rfl rfl rfl nowR (by first | omega | (simp; omega)) (by decide) (by decide) (by exact rfl); exact rfl; exact rfl)
    | (apply w3; (first | exact a_st_bx rfl rfl rfl rfl (fN rfl rfl) (Nat.le_of_ble_eq_true rfl) rfl | exact a_stF (E := eR) ⟨_, _, _⟩ rfl rfl rfl rfl (fN rfl rfl) (Nat.le_of_ble_eq_true rfl) (Nat.le_of_ble_eq_true rfl) (by first | exact List.getElem?_set_self bnd | exact List.getElem?_eq_getElem bnd) (by (try dsimp only [setRow, List.set_cons_succ, List.set_cons_zero]); first | done | exact rfl) rfl | exact a_stE (E := eR) ⟨_, _, _⟩ rfl rfl rfl rfl (fN rfl rfl) bnd (by exact rfl)); exact rfl; (try dsimp only [setRow, List.map_cons, List.map_nil, scC, List.set_cons_zero, List.set_cons_succ, List.take_succ_cons, List.take_zero, List.drop_succ_cons, List.drop_zero, Nat.reduceAdd]))
    | (apply c4 0; exact callK1 (θ := []) (hD := (ValidMachine_ok _ preB53)); exact rfl; exact rfl; exact rfl; (try dsimp only [SV.ren, C.ren, C.ren.all, tRen, GB.ren, calF, upOf, List.cons_append, List.nil_append, Nat.reduceAdd]))
    | (apply c4 2; exact callK0 (θ := []) (hD := (chunk_ok _ _ preB53)); exact rfl; exact rfl; exact rfl; (try dsimp only [SV.ren, C.ren, C.ren.all, tRen, GB.ren, calF, upOf, List.cons_append, List.nil_append, Nat.reduceAdd]))
    | (apply c4 0; exact callK1 (θ := []) (hD := (ruleText_ok _ preB53 preB53)); exact rfl; exact rfl; exact rfl; (try dsimp only [SV.ren, C.ren, C.ren.all, tRen, GB.ren, calF, upOf, List.cons_append, List.nil_append, Nat.reduceAdd]))
    | (apply c4 0; exact callK1 (θ := []) (hD := (Join_ok _ _ preB53 preB53)); exact rfl; exact rfl; exact rfl; (try dsimp only [SV.ren, C.ren, C.ren.all, tRen, GB.ren, calF, upOf, List.cons_append, List.nil_append, Nat.reduceAdd]))
    | (apply g_drN (id := 12) okM [[], [], [1], [1, 2], [0, 1, 2, 3], [0, 1, 2, 3, 4]] [([], []), ([], []), ([], []), ([0], []), ([1], [_]), ([], [2])] 2; (focus (all_goals refine dp 0 0 [32, 33, 34] [(true, 0)] puL ?_; all_goals refine dp 1 0 [31] [] pu1 ?_; all_goals refine dp 2 1 [31] [] (callD1 (n := _) 0 (θ := []) (hD := (Join_ok _ _ preB53 preB53))) ?_; all_goals refine duE 3 3 [31] [] (atN 0 (fun _ => a_litE eS [_] rfl rfl rfl rfl rfl rfl rfl rfl)) (by exact rfl) (by exact rfl) ?_; all_goals refine duE 4 15 [] [] (atS 1 (fun _ hj => a_appE (fP rfl) rfl rfl rfl rfl nowR (by first | omega | (simp; omega)) (by decide) hj (by exact rfl)) (by decide)) (by exact rfl) (by exact rfl) ?_; all_goals refine duE 5 31 [] [] (by first | exact a_st_bx rfl rfl rfl rfl (fN rfl rfl) (Nat.le_of_ble_eq_true rfl) rfl | exact a_stF (E := eR) ⟨_, _, _⟩ rfl rfl rfl rfl (fN rfl rfl) (Nat.le_of_ble_eq_true rfl) (Nat.le_of_ble_eq_true rfl) (by first | exact List.getElem?_set_self bnd | exact List.getElem?_eq_getElem bnd) (by (try dsimp only [setRow, List.set_cons_succ, List.set_cons_zero]); first | done | exact rfl) rfl) (by exact rfl) (by exact rfl) ?_; all_goals (refine d_nil ?_; dsimp only [selT, selH, trues, SV.ren, C.ren, C.ren.all, tRen, GB.ren, calF, upOf, List.cons_append, List.nil_append, Nat.reduceAdd, setRow, List.map_cons, List.map_nil, scC, List.set_cons_zero, List.set_cons_succ, List.take_succ_cons, List.take_zero, List.drop_succ_cons, List.drop_zero]))); any_goals kernel_rfl)
    | (refine o_gs rfl rfl (fun hc => ?_) (fun hc => ?_) <;> (try simp only [decide_eq_true_eq, decide_eq_false_iff_not, Bool.not_eq_true', Bool.not_eq_false', Bool.not_eq_true, Bool.not_eq_false, Bool.and_eq_true, Bool.or_eq_false_iff, Bool.not_not] at hc) <;> (try (first | contradiction | (exfalso; omega))))
    | (refine g_cond rfl (fun hc => ?_) (fun hc => ?_) <;> (try simp only [decide_eq_true_eq, decide_eq_false_iff_not, Bool.not_eq_true', Bool.not_eq_false', Bool.not_eq_true, Bool.not_eq_false, Bool.and_eq_true, Bool.or_eq_false_iff, Bool.not_not] at hc) <;> (try (first | contradiction | (exfalso; omega))))
  · rw [hm] at hc; cases hc
  refine g_conv (t_mvB (i := 1) (j := 2) (k := 0) rfl rfl rfl rfl rfl rfl) ?_
  try dsimp only [setRow, List.map_cons, List.map_nil, scC, List.set_cons_zero, List.set_cons_succ]
  refine rangeK [2, 3, 16] [2, 5] (fun x : List Bs => [(5, .row 1 (rows eS x)), (2, .bx [.gv 5])]) [0, 1, 2, 3, 4, 5] 5 5 [3, 4] [] [] [] [] (fun a : List Rule' => [.one (shR a)]) (fun _ => []) (fun x a => (x ++ [chT a], none)) ChPre [] (n1 := 6) (hD := fun l R hY => chunkIt_ok m.ru m.sy l R (by omega) (by omega) hl hR hY) (hr := ?_) (hn := ?_) (hs := ?_)
  · rintro x a ⟨k0, k1, k2⟩ lp0 w0 F0 S0 ρ0 rc0
    dsimp only [parT, upOf, deadR, thN, List.cons_append, List.nil_append, GB.ren, C.ren, C.ren.all, Nat.reduceAdd] at *
    repeat' first
      | refine g_seq ?_
      | refine g_reg ?_
      | (apply p3; (first | exact a_pure (sv := .one _) rfl | exact a_pure (sv := .agg _) rfl); exact rfl)
      | refine o_nil ?_
      | refine q_s ?_
      | refine qAsg.go rfl ?_
    dsimp only
    repeat' first
      | refine g_seq ?_
      | refine g_skip ?_
      | refine g_exit ?_
      | refine g_block ?_
      | refine g_reg ?_
      | refine g_if_t rfl ?_
      | refine g_if_f rfl ?_
      | refine o_nil ?_
      | refine q_s ?_
      | refine q_se ?_
      | refine q_b ?_
      | refine q_be rfl ?_
      | refine q_bn rfl ?_
      | refine q_le ?_
      | refine q_ce ?_
      | (apply n3; (first | exact a_litE eS [] rfl rfl rfl rfl rfl rfl rfl rfl | exact a_new (gb := .bx _) rfl | exact a_litE eS [_] rfl rfl rfl rfl rfl rfl rfl rfl | exact a_appN (fP rfl) rfl rfl rfl nowR (by first | omega | (simp; omega)) (by decide) (by exact rfl)); exact rfl; (try dsimp only [List.map_cons, List.map_nil, scC, Nat.reduceAdd]))
      | (apply p3; (first | exact pu1 | exact puL | exact puN | exact a_len_str rfl (fT rfl) | exact puC | exact a_add rfl rfl (by omega) (by omega) | exact puI); exact rfl)
      | (apply s3; exact a_appE (fP rfl) rfl rfl rfl rfl nowR (by first | omega | (simp; omega)) (by decide) (by decide) (by exact rfl); exact rfl; exact rfl)
      | (apply w3; (first | exact a_st_bx rfl rfl rfl rfl (fN rfl rfl) (Nat.le_of_ble_eq_true rfl) rfl | exact a_stE (E := eR) ⟨_, _, _⟩ rfl rfl rfl rfl (fN rfl rfl) bnd (by exact rfl)); exact rfl; (try dsimp only [setRow, List.map_cons, List.map_nil, scC, List.set_cons_zero, List.set_cons_succ, List.take_succ_cons, List.take_zero, List.drop_succ_cons, List.drop_zero, Nat.reduceAdd]))
      | (apply c4 0; exact callK1 (θ := []) (hD := (ruleText_ok _ preB53 preB53)); exact rfl; exact rfl; exact rfl; (try dsimp only [SV.ren, C.ren, C.ren.all, tRen, GB.ren, calF, upOf, List.cons_append, List.nil_append, Nat.reduceAdd]))
      | (apply c4 0; exact callK1 (θ := []) (hD := (Join_ok _ _ preB53 preB53)); exact rfl; exact rfl; exact rfl; (try dsimp only [SV.ren, C.ren, C.ren.all, tRen, GB.ren, calF, upOf, List.cons_append, List.nil_append, Nat.reduceAdd]))
      | (apply g_drN (id := 12) okM [[], [], [1], [1, 2], [0, 1, 2, 3], [0, 1, 2, 3, 4]] [([], []), ([], []), ([], []), ([0], []), ([1], [_]), ([], [2])] 2; (focus (all_goals refine dp 0 0 [32, 33, 34] [(true, 0)] puL ?_; all_goals refine dp 1 0 [31] [] pu1 ?_; all_goals refine dp 2 1 [31] [] (callD1 (n := _) 0 (θ := []) (hD := (Join_ok _ _ preB53 preB53))) ?_; all_goals refine duE 3 3 [31] [] (atN 0 (fun _ => a_litE eS [_] rfl rfl rfl rfl rfl rfl rfl rfl)) (by exact rfl) (by exact rfl) ?_; all_goals refine duE 4 15 [] [] (atS 1 (fun _ hj => a_appE (fP rfl) rfl rfl rfl rfl nowR (by first | omega | (simp; omega)) (by decide) hj (by exact rfl)) (by decide)) (by exact rfl) (by exact rfl) ?_; all_goals refine duE 5 31 [] [] (by first | exact a_st_bx rfl rfl rfl rfl (fN rfl rfl) (Nat.le_of_ble_eq_true rfl) rfl | exact a_stF (E := eR) ⟨_, _, _⟩ rfl rfl rfl rfl (fN rfl rfl) (Nat.le_of_ble_eq_true rfl) (Nat.le_of_ble_eq_true rfl) (by first | exact List.getElem?_set_self bnd | exact List.getElem?_eq_getElem bnd) (by (try dsimp only [setRow, List.set_cons_succ, List.set_cons_zero]); first | done | exact rfl) rfl) (by exact rfl) (by exact rfl) ?_; all_goals (refine d_nil ?_; dsimp only [selT, selH, trues, SV.ren, C.ren, C.ren.all, tRen, GB.ren, calF, upOf, List.cons_append, List.nil_append, Nat.reduceAdd, setRow, List.map_cons, List.map_nil, scC, List.set_cons_zero, List.set_cons_succ, List.take_succ_cons, List.take_zero, List.drop_succ_cons, List.drop_zero]))); any_goals kernel_rfl)
      | (refine o_gs rfl rfl (fun hc => ?_) (fun hc => ?_) <;> (try simp only [decide_eq_true_eq, decide_eq_false_iff_not, Bool.not_eq_true', Bool.not_eq_false', Bool.not_eq_true, Bool.not_eq_false, Bool.and_eq_true, Bool.or_eq_false_iff, Bool.not_not] at hc) <;> (try (first | contradiction | (exfalso; omega))))
      | (refine g_cond rfl (fun hc => ?_) (fun hc => ?_) <;> (try simp only [decide_eq_true_eq, decide_eq_false_iff_not, Bool.not_eq_true', Bool.not_eq_false', Bool.not_eq_true, Bool.not_eq_false, Bool.and_eq_true, Bool.or_eq_false_iff, Bool.not_not] at hc) <;> (try (first | contradiction | (exfalso; omega))))
    refine g_loop_id ?_
    refine loopK [2, 3, 5, 19, 20] [7] (fun y : Int × List Bs => 0 ≤ y.1 ∧ y.1 ≤ a.length ∧ y.2 = (a.take y.1.toNat).map rulT) (fun y => [(21, .one (int y.1))]) (fun y => [(7, .row 1 (rows eS y.2))]) (fun y => (a.length - y.1).toNat) ((0 : Int), []) [0, 1, 2, 3, 4, 5, 6, 7] (hI := ?_) (hr := ?_)
    · exact ⟨by simp, by simp, by simp⟩
    · rintro ⟨i, ts⟩ ⟨j0, j1, j2⟩
      dsimp only [List.cons_append, List.nil_append] at *
      skip
      have jl : (ts.length : Int) ≤ 6000 := by rw [j2, List.length_map, List.length_take]; omega
      repeat' first
        | refine g_seq ?_
        | refine g_skip ?_
        | refine g_exit ?_
        | refine g_block ?_
        | refine g_reg (id := 8) ?_
        | refine g_reg (id := 9) ?_
        | refine g_reg (id := 13) ?_
        | refine g_if_t rfl ?_
        | refine g_if_f rfl ?_
        | refine o_nil ?_
        | refine q_s ?_
        | refine q_se ?_
        | refine q_b ?_
        | refine q_be rfl ?_
        | refine q_bn rfl ?_
        | refine q_le ?_
        | refine q_ce ?_
        | (apply n3; exact a_new (gb := .bx _) rfl; exact rfl; (try dsimp only [List.map_cons, List.map_nil, scC, Nat.reduceAdd]))
        | (apply p3; (first | exact pu1 | exact puL | exact puC | exact puI); exact rfl)
        | (apply w3; (first | exact a_st_bx rfl rfl rfl rfl (fN rfl rfl) (Nat.le_of_ble_eq_true rfl) rfl | exact a_stE (E := eR) ⟨_, _, _⟩ rfl rfl rfl rfl (fN rfl rfl) bnd (by exact rfl)); exact rfl; (try dsimp only [setRow, List.map_cons, List.map_nil, scC, List.set_cons_zero, List.set_cons_succ, List.take_succ_cons, List.take_zero, List.drop_succ_cons, List.drop_zero, Nat.reduceAdd]))
        | (apply c4 0; exact callK1 (θ := []) (hD := (Join_ok _ _ preB53 preB53)); exact rfl; exact rfl; exact rfl; (try dsimp only [SV.ren, C.ren, C.ren.all, tRen, GB.ren, calF, upOf, List.cons_append, List.nil_append, Nat.reduceAdd]))
        | (refine o_gs rfl rfl (fun hc => ?_) (fun hc => ?_) <;> (try simp only [decide_eq_true_eq, decide_eq_false_iff_not, Bool.not_eq_true', Bool.not_eq_false', Bool.not_eq_true, Bool.not_eq_false, Bool.and_eq_true, Bool.or_eq_false_iff, Bool.not_not] at hc) <;> (try (first | contradiction | (exfalso; omega))))
        | (refine g_cond rfl (fun hc => ?_) (fun hc => ?_) <;> (try simp only [decide_eq_true_eq, decide_eq_false_iff_not, Bool.not_eq_true', Bool.not_eq_false', Bool.not_eq_true, Bool.not_eq_false, Bool.and_eq_true, Bool.or_eq_false_iff, Bool.not_not] at hc) <;> (try (first | contradiction | (exfalso; omega))))
      · obtain ⟨w1, w2, w3⟩ : RuBd (a[i.toNat]'(by omega)) := k2 _ (List.getElem_mem _)
        repeat' first
          | refine g_seq ?_
          | refine g_skip ?_
          | refine g_exit ?_
          | refine g_block ?_
          | refine g_reg ?_
          | refine g_if_t rfl ?_
          | refine g_if_f rfl ?_
          | refine o_nil ?_
          | refine q_s ?_
          | refine q_se ?_
          | refine q_b ?_
          | refine q_be rfl ?_
          | refine q_bn rfl ?_
          | refine q_le ?_
          | refine q_ce ?_
          | (apply n3; (first | exact a_new (gb := .bx _) rfl | exact a_litE eS [_] rfl rfl rfl rfl rfl rfl rfl rfl | exact a_appN (fP rfl) rfl rfl rfl nowR (by first | omega | (simp; omega)) (by decide) (by exact rfl)); exact rfl; (try dsimp only [List.map_cons, List.map_nil, scC, Nat.reduceAdd]))
          | (apply p3; (first | exact pu1 | exact puL | exact puC | exact a_add rfl rfl (by omega) (by omega) | exact puI); exact rfl)
          | (apply s3; exact a_appE (fP rfl) rfl rfl rfl rfl nowR (by first | omega | (simp; omega)) (by decide) (by decide) (by exact rfl); exact rfl; exact rfl)
          | (apply w3; (first | exact a_st_bx rfl rfl rfl rfl (fN rfl rfl) (Nat.le_of_ble_eq_true rfl) rfl | exact a_stE (E := eR) ⟨_, _, _⟩ rfl rfl rfl rfl (fN rfl rfl) bnd (by exact rfl)); exact rfl; (try dsimp only [setRow, List.map_cons, List.map_nil, scC, List.set_cons_zero, List.set_cons_succ, List.take_succ_cons, List.take_zero, List.drop_succ_cons, List.drop_zero, Nat.reduceAdd]))
          | (apply c4 0; exact callK1 (θ := []) (hD := (ruleText_ok _ preB53 preB53)); exact rfl; exact rfl; exact rfl; (try dsimp only [SV.ren, C.ren, C.ren.all, tRen, GB.ren, calF, upOf, List.cons_append, List.nil_append, Nat.reduceAdd]))
          | (apply c4 0; exact callK1 (θ := []) (hD := (Join_ok _ _ preB53 preB53)); exact rfl; exact rfl; exact rfl; (try dsimp only [SV.ren, C.ren, C.ren.all, tRen, GB.ren, calF, upOf, List.cons_append, List.nil_append, Nat.reduceAdd]))
          | (apply g_drN (id := 12) okM [[], [], [1], [1, 2], [0, 1, 2, 3], [0, 1, 2, 3, 4]] [([], []), ([], []), ([], []), ([0], []), ([1], [_]), ([], [2])] 2; (focus (all_goals refine dp 0 0 [32, 33, 34] [(true, 0)] puL ?_; all_goals refine dp 1 0 [31] [] pu1 ?_; all_goals refine dp 2 1 [31] [] (callD1 (n := _) 0 (θ := []) (hD := (Join_ok _ _ preB53 preB53))) ?_; all_goals refine duE 3 3 [31] [] (atN 0 (fun _ => a_litE eS [_] rfl rfl rfl rfl rfl rfl rfl rfl)) (by exact rfl) (by exact rfl) ?_; all_goals refine duE 4 15 [] [] (atS 1 (fun _ hj => a_appE (fP rfl) rfl rfl rfl rfl nowR (by first | omega | (simp; omega)) (by decide) hj (by exact rfl)) (by decide)) (by exact rfl) (by exact rfl) ?_; all_goals refine duE 5 31 [] [] (by first | exact a_st_bx rfl rfl rfl rfl (fN rfl rfl) (Nat.le_of_ble_eq_true rfl) rfl | exact a_stF (E := eR) ⟨_, _, _⟩ rfl rfl rfl rfl (fN rfl rfl) (Nat.le_of_ble_eq_true rfl) (Nat.le_of_ble_eq_true rfl) (by first | exact List.getElem?_set_self bnd | exact List.getElem?_eq_getElem bnd) (by (try dsimp only [setRow, List.set_cons_succ, List.set_cons_zero]); first | done | exact rfl) rfl) (by exact rfl) (by exact rfl) ?_; all_goals (refine d_nil ?_; dsimp only [selT, selH, trues, SV.ren, C.ren, C.ren.all, tRen, GB.ren, calF, upOf, List.cons_append, List.nil_append, Nat.reduceAdd, setRow, List.map_cons, List.map_nil, scC, List.set_cons_zero, List.set_cons_succ, List.take_succ_cons, List.take_zero, List.drop_succ_cons, List.drop_zero]))); any_goals kernel_rfl)
          | (refine o_gs rfl rfl (fun hc => ?_) (fun hc => ?_) <;> (try simp only [decide_eq_true_eq, decide_eq_false_iff_not, Bool.not_eq_true', Bool.not_eq_false', Bool.not_eq_true, Bool.not_eq_false, Bool.and_eq_true, Bool.or_eq_false_iff, Bool.not_not] at hc) <;> (try (first | contradiction | (exfalso; omega))))
          | (refine g_cond rfl (fun hc => ?_) (fun hc => ?_) <;> (try simp only [decide_eq_true_eq, decide_eq_false_iff_not, Bool.not_eq_true', Bool.not_eq_false', Bool.not_eq_true, Bool.not_eq_false, Bool.and_eq_true, Bool.or_eq_false_iff, Bool.not_not] at hc) <;> (try (first | contradiction | (exfalso; omega))))
        refine q_again (i + 1, _) [0, 1, 2, 3, 4, 5, 6, 10] (by exact stk) ?_ ?_
        · dsimp only
          exact ⟨by omega, by omega, by rw [j2, map_take_s rulT j0 hc]⟩
        · dsimp only; omega
      · have e : ts = a.map rulT := by rw [j2, List.take_of_length_le (by omega)]
        have e2 : joinT (a.map rulT) [44] = chT a := by unfold chT; rfl
        have e3 := chT_le k2
        rw [← e2, ← e] at e3
        repeat' first
          | refine g_seq ?_
          | refine g_skip ?_
          | refine g_exit ?_
          | refine g_block ?_
          | refine g_reg ?_
          | refine g_if_t rfl ?_
          | refine g_if_f rfl ?_
          | refine o_nil ?_
          | refine q_s ?_
          | refine q_se ?_
          | refine q_b ?_
          | refine q_be rfl ?_
          | refine q_bn rfl ?_
          | refine q_le ?_
          | refine q_ce ?_
          | (apply n3; (first | exact a_new (gb := .bx _) rfl | exact a_litE eS [_] rfl rfl rfl rfl rfl rfl rfl rfl | exact a_appN (fP rfl) rfl rfl rfl nowR (by first | omega | (simp; omega)) (by decide) (by exact rfl)); exact rfl; (try dsimp only [List.map_cons, List.map_nil, scC, Nat.reduceAdd]))
          | (apply p3; (first | exact pu1 | exact puL | exact puC | exact a_add rfl rfl (by omega) (by omega) | exact puI); exact rfl)
          | (apply s3; exact a_appE (fP rfl) rfl rfl rfl rfl nowR (by first | omega | (simp; omega)) (by decide) (by decide) (by exact rfl); exact rfl; exact rfl)
          | (apply w3; (first | exact a_st_bx rfl rfl rfl rfl (fN rfl rfl) (Nat.le_of_ble_eq_true rfl) rfl | exact a_stE (E := eR) ⟨_, _, _⟩ rfl rfl rfl rfl (fN rfl rfl) bnd (by exact rfl)); exact rfl; (try dsimp only [setRow, List.map_cons, List.map_nil, scC, List.set_cons_zero, List.set_cons_succ, List.take_succ_cons, List.take_zero, List.drop_succ_cons, List.drop_zero, Nat.reduceAdd]))
          | (apply c4 0; exact callK1 (θ := []) (hD := (ruleText_ok _ preB53 preB53)); exact rfl; exact rfl; exact rfl; (try dsimp only [SV.ren, C.ren, C.ren.all, tRen, GB.ren, calF, upOf, List.cons_append, List.nil_append, Nat.reduceAdd]))
          | (apply c4 0; exact callK1 (θ := []) (hD := (Join_ok _ _ preB53 preB53)); exact rfl; exact rfl; exact rfl; (try dsimp only [SV.ren, C.ren, C.ren.all, tRen, GB.ren, calF, upOf, List.cons_append, List.nil_append, Nat.reduceAdd]))
          | (apply g_drN (id := 12) okM [[], [], [1], [1, 2], [0, 1, 2, 3], [0, 1, 2, 3, 4]] [([], []), ([], []), ([], []), ([0], []), ([1], [5]), ([], [2])] 2; (focus (all_goals refine dp 0 0 [32, 33, 34] [(true, 0)] puL ?_; all_goals refine dp 1 0 [31] [] pu1 ?_; all_goals refine dp 2 1 [31] [] (callD1 (n := _) 0 (θ := []) (hD := (Join_ok _ _ preB53 preB53))) ?_; all_goals refine duE 3 3 [31] [] (atN 0 (fun _ => a_litE eS [_] rfl rfl rfl rfl rfl rfl rfl rfl)) (by exact rfl) (by exact rfl) ?_; all_goals refine duE 4 15 [] [] (atS 1 (fun _ hj => a_appE (fP rfl) rfl rfl rfl rfl nowR (by first | omega | (simp; omega)) (by decide) hj (by exact rfl)) (by decide)) (by exact rfl) (by exact rfl) ?_; all_goals refine duE 5 31 [] [] (by first | exact a_st_bx rfl rfl rfl rfl (fN rfl rfl) (Nat.le_of_ble_eq_true rfl) rfl | exact a_stF (E := eR) ⟨_, _, _⟩ rfl rfl rfl rfl (fN rfl rfl) (Nat.le_of_ble_eq_true rfl) (Nat.le_of_ble_eq_true rfl) (by first | exact List.getElem?_set_self bnd | exact List.getElem?_eq_getElem bnd) (by (try dsimp only [setRow, List.set_cons_succ, List.set_cons_zero]); first | done | exact rfl) rfl) (by exact rfl) (by exact rfl) ?_; all_goals (refine d_nil ?_; dsimp only [selT, selH, trues, SV.ren, C.ren, C.ren.all, tRen, GB.ren, calF, upOf, List.cons_append, List.nil_append, Nat.reduceAdd, setRow, List.map_cons, List.map_nil, scC, List.set_cons_zero, List.set_cons_succ, List.take_succ_cons, List.take_zero, List.drop_succ_cons, List.drop_zero]))); any_goals kernel_rfl)
          | (refine o_gs rfl rfl (fun hc => ?_) (fun hc => ?_) <;> (try simp only [decide_eq_true_eq, decide_eq_false_iff_not, Bool.not_eq_true', Bool.not_eq_false', Bool.not_eq_true, Bool.not_eq_false, Bool.and_eq_true, Bool.or_eq_false_iff, Bool.not_not] at hc) <;> (try (first | contradiction | (exfalso; omega))))
          | (refine g_cond rfl (fun hc => ?_) (fun hc => ?_) <;> (try simp only [decide_eq_true_eq, decide_eq_false_iff_not, Bool.not_eq_true', Bool.not_eq_false', Bool.not_eq_true, Bool.not_eq_false, Bool.and_eq_true, Bool.or_eq_false_iff, Bool.not_not] at hc) <;> (try (first | contradiction | (exfalso; omega))))
        rw [e, e2]
        refine q_next (x ++ [chT a]) [0, 1, 2, 3, 4, 9, 6] (by exact stk) ?_
        rfl
  · rintro hj2
    dsimp only [upOf, deadR, calF, List.cons_append, List.nil_append, GB.ren, C.ren, C.ren.all, List.length_cons, List.length_nil, Nat.reduceAdd, Nat.reduceSub] at *
    skip
    repeat' first
      | refine g_seq ?_
      | refine g_skip ?_
      | refine g_exit ?_
      | refine g_block ?_
      | refine g_reg ?_
      | refine g_if_t rfl ?_
      | refine g_if_f rfl ?_
      | refine o_nil ?_
      | refine q_s ?_
      | refine q_se ?_
      | refine q_b ?_
      | refine q_be rfl ?_
      | refine q_bn rfl ?_
      | refine q_le ?_
      | refine q_ce ?_
      | (apply p3; (first | exact pu1 | exact puL); exact rfl)
      | (apply c4 0; exact callK1 (θ := []) (hD := (Join_ok _ _ preB53 preB53)); exact rfl; exact rfl; exact rfl; (try dsimp only [SV.ren, C.ren, C.ren.all, tRen, GB.ren, calF, upOf, List.cons_append, List.nil_append, Nat.reduceAdd]))
      | (apply g_drN (id := 12) okM [[], [], [1], [1, 2], [0, 1, 2, 3], [0, 1, 2, 3, 4]] [([], []), ([], []), ([], []), ([0], []), ([1], [5]), ([], [2])] 2; (focus (all_goals refine dp 0 0 [32, 33, 34] [(true, 0)] puL ?_; all_goals refine dp 1 0 [31] [] pu1 ?_; all_goals refine dp 2 1 [31] [] (callD1 (n := _) 0 (θ := []) (hD := (Join_ok _ _ preB53 preB53))) ?_; all_goals refine duE 3 3 [31] [] (atN 0 (fun _ => a_litE eS [_] rfl rfl rfl rfl rfl rfl rfl rfl)) (by exact rfl) (by exact rfl) ?_; all_goals refine duE 4 15 [] [] (atS 1 (fun _ hj => a_appE (fP rfl) rfl rfl rfl rfl nowR (by first | omega | (simp; omega)) (by decide) hj (by exact rfl)) (by decide)) (by exact rfl) (by exact rfl) ?_; all_goals refine duE 5 31 [] [] (by first | exact a_st_bx rfl rfl rfl rfl (fN rfl rfl) (Nat.le_of_ble_eq_true rfl) rfl | exact a_stF (E := eR) ⟨_, _, _⟩ rfl rfl rfl rfl (fN rfl rfl) (Nat.le_of_ble_eq_true rfl) (Nat.le_of_ble_eq_true rfl) (by first | exact List.getElem?_set_self bnd | exact List.getElem?_eq_getElem bnd) (by (try dsimp only [setRow, List.set_cons_succ, List.set_cons_zero]); first | done | exact rfl) rfl) (by exact rfl) (by exact rfl) ?_; all_goals (refine d_nil ?_; dsimp only [selT, selH, trues, SV.ren, C.ren, C.ren.all, tRen, GB.ren, calF, upOf, List.cons_append, List.nil_append, Nat.reduceAdd, setRow, List.map_cons, List.map_nil, scC, List.set_cons_zero, List.set_cons_succ, List.take_succ_cons, List.take_zero, List.drop_succ_cons, List.drop_zero]))); any_goals kernel_rfl)
      | (refine o_gs rfl rfl (fun hc => ?_) (fun hc => ?_) <;> (try simp only [decide_eq_true_eq, decide_eq_false_iff_not, Bool.not_eq_true', Bool.not_eq_false', Bool.not_eq_true, Bool.not_eq_false, Bool.and_eq_true, Bool.or_eq_false_iff, Bool.not_not] at hc) <;> (try (first | contradiction | (exfalso; omega))))
      | (refine g_cond rfl (fun hc => ?_) (fun hc => ?_) <;> (try simp only [decide_eq_true_eq, decide_eq_false_iff_not, Bool.not_eq_true', Bool.not_eq_false', Bool.not_eq_true, Bool.not_eq_false, Bool.and_eq_true, Bool.or_eq_false_iff, Bool.not_not] at hc) <;> (try (first | contradiction | (exfalso; omega))))
    repeat' first
      | refine g_seq ?_
      | refine g_skip ?_
      | refine g_exit ?_
      | refine g_block ?_
      | refine g_reg ?_
      | refine g_if_t rfl ?_
      | refine g_if_f rfl ?_
      | refine o_nil ?_
      | refine q_s ?_
      | refine q_se ?_
      | refine q_b ?_
      | refine q_be rfl ?_
      | refine q_bn rfl ?_
      | refine q_le ?_
      | refine q_ce ?_
      | (apply p3; (first | exact pu1 | exact puL); exact rfl)
      | (apply c4 0; exact callK1 (θ := []) (hD := (Join_ok _ _ preB53 preB53)); exact rfl; exact rfl; exact rfl; (try dsimp only [SV.ren, C.ren, C.ren.all, tRen, GB.ren, calF, upOf, List.cons_append, List.nil_append, Nat.reduceAdd]))
      | (apply g_drN (id := 12) okM [[], [], [1], [1, 2], [0, 1, 2, 3], [0, 1, 2, 3, 4]] [([], []), ([], []), ([], []), ([0], []), ([1], [5]), ([], [2])] 2; (focus (all_goals refine dp 0 0 [32, 33, 34] [(true, 0)] puL ?_; all_goals refine dp 1 0 [31] [] pu1 ?_; all_goals refine dp 2 1 [31] [] (callD1 (n := _) 0 (θ := []) (hD := (Join_ok _ _ preB53 preB53))) ?_; all_goals refine duE 3 3 [31] [] (atN 0 (fun _ => a_litE eS [_] rfl rfl rfl rfl rfl rfl rfl rfl)) (by exact rfl) (by exact rfl) ?_; all_goals refine duE 4 15 [] [] (atS 1 (fun _ hj => a_appE (fP rfl) rfl rfl rfl rfl nowR (by first | omega | (simp; omega)) (by decide) hj (by exact rfl)) (by decide)) (by exact rfl) (by exact rfl) ?_; all_goals refine duE 5 31 [] [] (by first | exact a_st_bx rfl rfl rfl rfl (fN rfl rfl) (Nat.le_of_ble_eq_true rfl) rfl | exact a_stF (E := eR) ⟨_, _, _⟩ rfl rfl rfl rfl (fN rfl rfl) (Nat.le_of_ble_eq_true rfl) (Nat.le_of_ble_eq_true rfl) (by first | exact List.getElem?_set_self bnd | exact List.getElem?_eq_getElem bnd) (by (try dsimp only [setRow, List.set_cons_succ, List.set_cons_zero]); first | done | exact rfl) rfl) (by exact rfl) (by exact rfl) ?_; all_goals (refine d_nil ?_; dsimp only [selT, selH, trues, SV.ren, C.ren, C.ren.all, tRen, GB.ren, calF, upOf, List.cons_append, List.nil_append, Nat.reduceAdd, setRow, List.map_cons, List.map_nil, scC, List.set_cons_zero, List.set_cons_succ, List.take_succ_cons, List.take_zero, List.drop_succ_cons, List.drop_zero]))); any_goals kernel_rfl)
      | (refine o_gs rfl rfl (fun hc => ?_) (fun hc => ?_) <;> (try simp only [decide_eq_true_eq, decide_eq_false_iff_not, Bool.not_eq_true', Bool.not_eq_false', Bool.not_eq_true, Bool.not_eq_false, Bool.and_eq_true, Bool.or_eq_false_iff, Bool.not_not] at hc) <;> (try (first | contradiction | (exfalso; omega))))
      | (refine g_cond rfl (fun hc => ?_) (fun hc => ?_) <;> (try simp only [decide_eq_true_eq, decide_eq_false_iff_not, Bool.not_eq_true', Bool.not_eq_false', Bool.not_eq_true, Bool.not_eq_false, Bool.and_eq_true, Bool.or_eq_false_iff, Bool.not_not] at hc) <;> (try (first | contradiction | (exfalso; omega))))
    repeat (first | refine g_ret ?_ | refine q_sr ?_ | refine q_br ?_ | refine q_lr ?_ | refine q_cr ?_)
    refine ends_id ?_
    refine endK [] (h2 := ?_) (h3 := ?_) (nd := ?_)
    all_goals (repeat' first | with_reducible exact SVLe.refl | exact SVLe.any | exact SVLe.one (.sh rfl) | exact SVLe.one (.nil (by decide)) | refine SVLe.agg ?_ | refine SVLe.tup ?_ | exact TLe.nil | refine TLe.cons ?_ ?_ | exact CsLe.nil | refine CsLe.cons ?_ ?_ | exact CLe.refl | exact CLe.sh rfl | exact CLe.nil (by decide) | refine cle_i ?_ | refine cle_b ?_ | exact trivial | refine And.intro ?_ ?_ | exact Or.inl rfl | exact Or.inr rfl | refine Or.inr (row_eq ?_) | (refine Or.inr (bx_eq rfl rfl ?_); (try dsimp only [C.ren, C.ren.all]); (try exact rfl)) | exact SVLe.refl | refine sle_i ?_ | refine sle_b ?_)
    all_goals first | exact (show nodupB _ = true from rfl) | exact Or.inr rfl | (rfl)
  · intro _ h; cases h
end Go.Proofs.YtbekdojhcokalaaGreatDoor
end
