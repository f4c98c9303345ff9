/- Parts of the proof (13 of 14). -/
import Derived.Test.YtncccjpbaeaafaaQ12
section
set_option linter.unusedVariables false
set_option linter.unusedSimpArgs false
set_option maxRecDepth 100000
set_option maxHeartbeats 4000000
namespace Go.Proofs.Ytncccjpbaeaafaa
open Go Foot
theorem part_head {l : List Int} {a e : Int} (h0 : 0 ≤ a) (h1 : a ≤ e) (h2 : e < l.length) : ((l.drop a.toNat).take ((e + 1).toNat - a.toNat)).headD 0 = posAt l a := by
  rw [← posAt_get (by omega), List.drop_eq_getElem_cons (by omega), show (e + 1).toNat - a.toNat = ((e + 1).toNat - a.toNat - 1) + 1 by omega]
  rfl
theorem back_behind {l : List Int} {a e sd d : Int} (h0 : 0 ≤ a) (h1 : a ≤ e) (h2 : e < l.length) (hs : (sd = 1 ∧ 0 < d) ∨ (sd = -1 ∧ d < 0)) : backF l a e sd = behind ((l.drop a.toNat).take ((e + 1).toNat - a.toNat)) d := by
  have hh := part_head h0 h1 h2
  unfold backF behind
  generalize (l.drop a.toNat).take ((e + 1).toNat - a.toNat) = Q at *
  rw [hh]
  rcases hs with ⟨rfl, hd⟩ | ⟨rfl, hd⟩
  · rw [if_pos hd]
    have := fold_min (posAt l a) Q (posAt l a)
    rw [Int.sub_self] at this
    unfold minL
    rw [hh, ← this]
    congr 1
    funext z q
    congr 1
    omega
  · rw [if_neg (by omega)]
    have := fold_max (posAt l a) Q (posAt l a)
    rw [Int.sub_self] at this
    unfold maxL
    rw [hh, ← this]
    congr 1
    funext z q
    congr 1
    omega
theorem recL_get {l : List Rec} {i : Nat} (h : i < (recL l).length) (h2 : i < l.length) : (recL l)[i] = [(l[i]).n, (l[i]).sd, (l[i]).c.st] := by
  apply Option.some.inj
  rw [← List.getElem?_eq_getElem h]
  unfold recL
  rw [List.getElem?_map, List.getElem?_eq_getElem h2]
  rfl
theorem recC_get {l : List Rec} {i : Nat} (h : i < (recC l).length) (h2 : i < l.length) : (recC l)[i] = (l[i]).c := by
  apply Option.some.inj
  rw [← List.getElem?_eq_getElem h]
  unfold recC
  rw [List.getElem?_map, List.getElem?_eq_getElem h2]
  rfl
theorem fs_wo (m : Mach) (b : Int) : (fsRes m b).1.wo = [] := by
  have key : ∀ (pos : List Int) (rs : List Rec) (j k : Nat) (p : Prf), fndT pos rs j k = some p → p.wo = [] := by
    intro pos rs j
    induction j with
    | zero => intro k p h; unfold fndT at h; cases h
    | succ j ih =>
      intro k p h
      unfold fndT at h
      split at h
      · cases h
      · split at h
        · cases h; unfold prfOf; rfl
        · exact ih _ _ h
  unfold fsRes
  split
  · rfl
  · split
    · rfl
    · split
      · rename_i h; exact key _ _ _ _ _ h
      · rfl
theorem preB43 {p : Prop} (h : p := by first | with_reducible assumption | omega | (simp only [List.length_append, List.length_cons, List.length_nil, List.length_set, List.length_replicate, List.length_take, List.length_drop, List.length_tail, List.length_dropLast, List.length_reverse] at *; omega) | exact mem_len (by assumption) (by omega) | (with_reducible refine Int.le_trans (Int.ofNat_le.2 (trimR_len _)) ?_; simp only [List.length_cons, List.length_tail]; omega) | (exact (ruAt_ok (by assumption) (by assumption) (by assumption)).2.1) | (exact (ruAt_ok (by assumption) (by assumption) (by assumption)).2.1) | (have := vMach_bd (by assumption); omega) | (simp only [mC_ch, mC_tu]; omega) | (with_reducible refine Int.le_trans (Int.ofNat_le.2 (pushL_len _ _)) ?_; simp only [List.length_dropLast]; omega) | exact (ask_ok (by assumption)).1 | exact (ask_ok (by assumption)).2.1 | exact (ask_ok (by assumption)).2.2.1 | exact (ask_ok (by assumption)).2.2.2 | trivial) : p := h
theorem l25FindShift_ok (m : Mach) (b : Int) (hk : askC m blank b = 0) : Does Try.prog 81 [.one (maB m), .one (int b)] [] (.tup [(true, [int (fsRes m b).1.k, .gv 0, .gv 1]), (false, [int (fsRes m b).2])]) [roI (fsRes m b).1.nu, .row 1 []] := by
  obtain ⟨hv, hb⟩ : vMach m = true ∧ 1 ≤ b ∧ b ≤ 20000 := by
    have := ask_ok hk; exact ⟨this.1, this.2.2⟩
  have hq := qkRun_inv hv hb.1 hb.2
  obtain ⟨O, hO⟩ : ∃ O, qkRun m b = O := ⟨_, rfl⟩
  rw [hO] at hq
  have hl1 := hq.len
  have hl2 := hq.rlen
  have hl5 : (recL O.x.rcs).length = O.x.rcs.length := recL_len _
  have hl6 : (recC O.x.rcs).length = O.x.rcs.length := recC_len _
  refine does_of (k := 0) Try.func81 rfl Try.ntmps81 rfl rfl fun w F0 S0 ρ0 => ?_
  dsimp only [argT, argH]
  repeat' first
    | refine g_seq ?_
    | refine g_skip ?_
    | refine g_exit ?_
    | refine g_block ?_
    | refine g_reg (id := 0) ?_
    | refine g_reg (id := 1) ?_
    | refine g_reg (id := 2) ?_
    | refine g_if_t rfl ?_
    | refine g_if_f rfl ?_
    | refine o_nil ?_
    | refine q_s ?_
    | refine q_se ?_
    | refine q_b ?_
    | refine q_be rfl ?_
    | refine q_bn rfl ?_
    | refine q_le ?_
    | refine q_ce ?_
    | (apply n3; exact a_new (gb := .bx _) rfl; exact rfl; (try dsimp only [List.map_cons, List.map_nil, scC, Nat.reduceAdd]))
    | (apply p3; (first | exact pu1 | exact puL); exact rfl)
    | (apply c4 4; exact callK0 (θ := []) (hD := (l25Play_ok m b hv hb.1 hb.2 O hO)); exact rfl; exact rfl; exact rfl; (try dsimp only [SV.ren, C.ren, C.ren.all, tRen, GB.ren, calF, upOf, List.cons_append, List.nil_append, Nat.reduceAdd]))
    | (refine o_gs rfl rfl (fun hc => ?_) (fun hc => ?_) <;> (try simp only [decide_eq_true_eq, decide_eq_false_iff_not, Bool.not_eq_true', Bool.not_eq_false', Bool.not_eq_true, Bool.not_eq_false, Bool.and_eq_true, Bool.or_eq_false_iff, Bool.not_not] at hc) <;> (try (first | contradiction | (exfalso; omega))))
    | (refine g_cond rfl (fun hc => ?_) (fun hc => ?_) <;> (try simp only [decide_eq_true_eq, decide_eq_false_iff_not, Bool.not_eq_true', Bool.not_eq_false', Bool.not_eq_true, Bool.not_eq_false, Bool.and_eq_true, Bool.or_eq_false_iff, Bool.not_not] at hc) <;> (try (first | contradiction | (exfalso; omega))))
  · rw [fs_halts hk (by rw [hO]; exact hc)]
    repeat' first
      | refine g_seq ?_
      | refine g_skip ?_
      | refine g_exit ?_
      | refine g_block ?_
      | refine g_reg ?_
      | refine g_if_t rfl ?_
      | refine g_if_f rfl ?_
      | refine o_nil ?_
      | refine q_s ?_
      | refine q_se ?_
      | refine q_b ?_
      | refine q_be rfl ?_
      | refine q_bn rfl ?_
      | refine q_le ?_
      | refine q_ce ?_
      | (apply n3; exact a_new (gb := .bx _) rfl; exact rfl; (try dsimp only [List.map_cons, List.map_nil, scC, Nat.reduceAdd]))
      | (apply p3; (first | exact pu1 | exact puL | exact puN | exact a_len_str rfl (fT rfl) | exact puC | exact a_sub rfl rfl (by omega) (by omega) | exact a_add rfl rfl (by omega) (by omega) | exact puI); exact rfl)
      | (apply w3; (first | exact a_st_bx rfl rfl rfl rfl (fN rfl rfl) (Nat.le_of_ble_eq_true rfl) rfl | exact a_stF (E := eCf) ⟨_, _, _⟩ rfl rfl rfl rfl (fN rfl rfl) (Nat.le_of_ble_eq_true rfl) (Nat.le_of_ble_eq_true rfl) (by first | exact List.getElem?_set_self bnd | exact List.getElem?_eq_getElem bnd) (by (try dsimp only [setRow, List.set_cons_succ, List.set_cons_zero]); first | done | exact rfl) rfl); exact rfl; (try dsimp only [setRow, List.map_cons, List.map_nil, scC, List.set_cons_zero, List.set_cons_succ, List.take_succ_cons, List.take_zero, List.drop_succ_cons, List.drop_zero, Nat.reduceAdd]))
      | (apply c4 4; exact callK0 (θ := []) (hD := (l25Play_ok m b hv hb.1 hb.2 O hO)); exact rfl; exact rfl; exact rfl; (try dsimp only [SV.ren, C.ren, C.ren.all, tRen, GB.ren, calF, upOf, List.cons_append, List.nil_append, Nat.reduceAdd]))
      | (apply g_drN (id := 12) okM [[], [0], [0, 1], [], [3], [3, 4], [0, 1, 2, 3, 4, 5], [0, 1, 2, 3, 4, 5, 6], [0, 1, 2, 3, 4, 5, 6, 7], [0, 1, 2, 3, 4, 5, 6, 7, 8], [0, 1, 2, 3, 4, 5, 6, 7, 8, 9], [0, 1, 2, 3, 4, 5, 6, 7], [0, 1, 2, 3, 4, 5, 6, 7, 11], [0, 1, 2, 3, 4, 5, 6, 7, 11, 12], [0, 1, 2, 3, 4, 5, 6, 7, 8, 9, 10, 11, 12, 13], [0, 1, 2, 3, 4, 5, 6, 7, 8, 9, 10, 11, 12, 13, 14]] [([], []), ([], []), ([], []), ([], []), ([], []), ([], []), ([], []), ([], []), ([], []), ([], []), ([], []), ([], []), ([], []), ([], []), ([], []), ([], [])] 0; (focus (all_goals refine dp 0 0 [52, 53, 54] [] pu1 ?_; all_goals refine dp 1 1 [52, 53, 54] [] puI ?_; all_goals refine dp 2 3 [52, 53, 54] [] puL ?_; all_goals refine dp 3 0 [49, 50, 51] [] pu1 ?_; all_goals refine dp 4 1 [49, 50, 51] [] puI ?_; all_goals refine dp 5 3 [49, 50, 51] [] puL ?_; all_goals refine dp 6 63 [] [] (by first | exact a_ne rfl rfl | exact a_neS rfl rfl rfl) ?_; all_goals (refine db 7 127 [] [] pu1 ?_ ?_ <;> (intro hc; first | cases hc | (try simp only [decide_eq_true_eq, decide_eq_false_iff_not, Bool.not_eq_true', Bool.not_eq_false', Bool.not_eq_true, Bool.not_eq_false, Bool.and_eq_true, Bool.or_eq_false_iff, Bool.not_not] at hc); first | contradiction | (exfalso; omega) | skip)); all_goals (first | refine dn 8 255 [60, 61, 62] [] ?_ | refine dpy 8 255 [60, 61, 62] [] pu1 ?_); all_goals (first | refine dn 9 511 [60, 61, 62] [] ?_ | refine dpy 9 511 [60, 61, 62] [] puI ?_); all_goals (first | refine dn 10 1023 [60, 61, 62] [] ?_ | refine dpy 10 1023 [60, 61, 62] [] puL ?_); all_goals (first | refine dn 11 2040 [57, 58, 59] [] ?_ | refine dpy 11 2040 [57, 58, 59] [] pu1 ?_); all_goals (first | refine dn 12 4081 [57, 58, 59] [] ?_ | refine dpy 12 4081 [57, 58, 59] [] puI ?_); all_goals (first | refine dn 13 8163 [57, 58, 59] [] ?_ | refine dpy 13 8163 [57, 58, 59] [] puL ?_); all_goals (first | refine dn 14 16383 [] [] ?_ | refine dpy 14 16383 [] [] (by first | exact a_ne rfl rfl | exact a_neS rfl rfl rfl) ?_); all_goals refine dp 15 32767 [] [] (a_pure (sv := .one _) rfl) ?_; all_goals (refine d_nil ?_; dsimp only [selT, selH, trues, SV.ren, C.ren, C.ren.all, tRen, GB.ren, calF, upOf, List.cons_append, List.nil_append, Nat.reduceAdd, setRow, List.map_cons, List.map_nil, scC, List.set_cons_zero, List.set_cons_succ, List.take_succ_cons, List.take_zero, List.drop_succ_cons, List.drop_zero]))); any_goals kernel_rfl)
      | (apply g_drN (id := 13) okM [[], [0], [0, 1], [0, 1, 2], [], [4], [4, 5], [0, 1, 2, 3, 4, 5, 6], [0, 1, 2, 3, 4, 5, 6, 7], [], [9], [9, 10], [9, 10, 11], [], [13], [13, 14], [9, 10, 11, 12, 13, 14, 15], [9, 10, 11, 12, 13, 14, 15, 16], [0, 1, 2, 3, 4, 5, 6, 7, 8, 9, 10, 11, 12, 13, 14, 15, 16, 17], [0, 1, 2, 3, 4, 5, 6, 7, 8, 9, 10, 11, 12, 13, 14, 15, 16, 17, 18]] [([], []), ([], []), ([], []), ([], []), ([], []), ([], []), ([], []), ([], []), ([], []), ([], []), ([], []), ([], []), ([], []), ([], []), ([], []), ([], []), ([], []), ([], []), ([], []), ([], [])] 0; (focus (all_goals refine dp 0 0 [69, 70, 71, 74, 75, 76, 77, 78, 79, 80, 81, 82] [] pu1 ?_; all_goals refine dp 1 1 [69, 70, 71, 74, 75, 76, 77, 78, 79, 80, 81, 82] [] (a_pure (sv := .one _) rfl) ?_; all_goals refine dp 2 3 [69, 70, 71, 74, 75, 76, 77, 78, 79, 80, 81, 82] [] (a_pure (sv := .one _) rfl) ?_; all_goals refine dp 3 7 [69, 70, 71, 74, 75, 76, 77, 78, 79, 80, 81, 82] [] puL ?_; all_goals refine dp 4 0 [65, 66, 67, 68, 74, 75, 76, 77, 78, 79, 80, 81, 82] [] pu1 ?_; all_goals refine dp 5 1 [65, 66, 67, 68, 74, 75, 76, 77, 78, 79, 80, 81, 82] [] puI ?_; all_goals refine dp 6 3 [65, 66, 67, 68, 74, 75, 76, 77, 78, 79, 80, 81, 82] [] puL ?_; all_goals refine dp 7 127 [74, 75, 76, 77, 78, 79, 80, 81, 82] [] puI ?_; all_goals refine dp 8 255 [74, 75, 76, 77, 78, 79, 80, 81, 82] [] puL ?_; all_goals refine dp 9 0 [65, 66, 67, 68, 69, 70, 71, 72, 73, 78, 79, 80] [] pu1 ?_; all_goals refine dp 10 1 [65, 66, 67, 68, 69, 70, 71, 72, 73, 78, 79, 80] [] (a_pure (sv := .one _) rfl) ?_; all_goals refine dp 11 3 [65, 66, 67, 68, 69, 70, 71, 72, 73, 78, 79, 80] [] (a_pure (sv := .one _) rfl) ?_; all_goals refine dp 12 7 [65, 66, 67, 68, 69, 70, 71, 72, 73, 78, 79, 80] [] puL ?_; all_goals refine dp 13 0 [65, 66, 67, 68, 69, 70, 71, 72, 73, 74, 75, 76, 77] [] pu1 ?_; all_goals refine dp 14 1 [65, 66, 67, 68, 69, 70, 71, 72, 73, 74, 75, 76, 77] [] puI ?_; all_goals refine dp 15 3 [65, 66, 67, 68, 69, 70, 71, 72, 73, 74, 75, 76, 77] [] puL ?_; all_goals refine dp 16 127 [65, 66, 67, 68, 69, 70, 71, 72, 73] [] puI ?_; all_goals refine dp 17 255 [65, 66, 67, 68, 69, 70, 71, 72, 73] [] puL ?_; all_goals refine dp 18 262143 [] [] (a_sub rfl rfl (by omega) (by omega)) ?_; all_goals refine dp 19 524287 [] [] pu1 ?_; all_goals (refine d_nil ?_; dsimp only [selT, selH, trues, SV.ren, C.ren, C.ren.all, tRen, GB.ren, calF, upOf, List.cons_append, List.nil_append, Nat.reduceAdd, setRow, List.map_cons, List.map_nil, scC, List.set_cons_zero, List.set_cons_succ, List.take_succ_cons, List.take_zero, List.drop_succ_cons, List.drop_zero]))); any_goals kernel_rfl)
      | (apply g_drN (id := 14) okM [[], [0], [0, 1], [0, 1, 2], [], [0, 1, 2, 3, 4], [], [6], [6, 7], [6, 7, 8], [], [6, 7, 8, 9, 10], [], [], [13], [13, 14], [13, 14, 15], [], [17], [17, 18], [], [20], [20, 21], [], [23], [23, 24], [13, 14, 15, 16, 17, 18, 19, 20, 21, 22, 23, 24, 25], [0, 1, 2, 3, 4, 5, 6, 7, 8, 9, 10, 11, 12, 13, 14, 15, 16, 17, 18, 19, 20, 21, 22, 23, 24, 25, 26]] [([], []), ([], []), ([], []), ([], []), ([], []), ([], []), ([], []), ([], []), ([], []), ([], []), ([], []), ([], []), ([], []), ([], []), ([], []), ([], []), ([], []), ([], []), ([], []), ([], []), ([], []), ([], []), ([], []), ([], []), ([], []), ([], []), ([], []), ([], [])] 0; (focus (all_goals refine dp 0 0 [88, 90, 91, 92, 93, 94, 95, 96, 97, 98, 99, 100, 101, 102, 103, 104, 105, 106, 107, 108, 109, 110] [] pu1 ?_; all_goals refine dp 1 1 [88, 90, 91, 92, 93, 94, 95, 96, 97, 98, 99, 100, 101, 102, 103, 104, 105, 106, 107, 108, 109, 110] [] (a_pure (sv := .one _) rfl) ?_; all_goals refine dp 2 3 [88, 90, 91, 92, 93, 94, 95, 96, 97, 98, 99, 100, 101, 102, 103, 104, 105, 106, 107, 108, 109, 110] [] (a_pure (sv := .one _) rfl) ?_; all_goals refine dp 3 7 [88, 90, 91, 92, 93, 94, 95, 96, 97, 98, 99, 100, 101, 102, 103, 104, 105, 106, 107, 108, 109, 110] [] puL ?_; all_goals refine dp 4 0 [84, 85, 86, 87, 90, 91, 92, 93, 94, 95, 96, 97, 98, 99, 100, 101, 102, 103, 104, 105, 106, 107, 108, 109, 110] [] pu1 ?_; all_goals refine dp 5 31 [90, 91, 92, 93, 94, 95, 96, 97, 98, 99, 100, 101, 102, 103, 104, 105, 106, 107, 108, 109, 110] [] puI ?_; all_goals refine dp 6 0 [84, 85, 86, 87, 88, 89, 94, 96, 97, 98, 99, 100, 101, 102, 103, 104, 105, 106, 107, 108, 109, 110] [] pu1 ?_; all_goals refine dp 7 1 [84, 85, 86, 87, 88, 89, 94, 96, 97, 98, 99, 100, 101, 102, 103, 104, 105, 106, 107, 108, 109, 110] [] (a_pure (sv := .one _) rfl) ?_; all_goals refine dp 8 3 [84, 85, 86, 87, 88, 89, 94, 96, 97, 98, 99, 100, 101, 102, 103, 104, 105, 106, 107, 108, 109, 110] [] (a_pure (sv := .one _) rfl) ?_; all_goals refine dp 9 7 [84, 85, 86, 87, 88, 89, 94, 96, 97, 98, 99, 100, 101, 102, 103, 104, 105, 106, 107, 108, 109, 110] [] puL ?_; all_goals refine dp 10 0 [84, 85, 86, 87, 88, 89, 90, 91, 92, 93, 96, 97, 98, 99, 100, 101, 102, 103, 104, 105, 106, 107, 108, 109, 110] [] pu1 ?_; all_goals refine dp 11 31 [84, 85, 86, 87, 88, 89, 96, 97, 98, 99, 100, 101, 102, 103, 104, 105, 106, 107, 108, 109, 110] [] puI ?_; all_goals refine dp 12 0 [84, 85, 86, 87, 88, 89, 90, 91, 92, 93, 94, 95, 97, 98, 99, 100, 101, 102, 103, 104, 105, 106, 107, 108, 109, 110] [] pu1 ?_; all_goals refine dp 13 0 [84, 85, 86, 87, 88, 89, 90, 91, 92, 93, 94, 95, 96, 101, 102, 103, 104, 105, 106, 107, 108, 109] [] pu1 ?_; all_goals refine dp 14 1 [84, 85, 86, 87, 88, 89, 90, 91, 92, 93, 94, 95, 96, 101, 102, 103, 104, 105, 106, 107, 108, 109] [] (a_pure (sv := .one _) rfl) ?_; all_goals refine dp 15 3 [84, 85, 86, 87, 88, 89, 90, 91, 92, 93, 94, 95, 96, 101, 102, 103, 104, 105, 106, 107, 108, 109] [] (a_pure (sv := .one _) rfl) ?_; all_goals refine dp 16 7 [84, 85, 86, 87, 88, 89, 90, 91, 92, 93, 94, 95, 96, 101, 102, 103, 104, 105, 106, 107, 108, 109] [] puL ?_; all_goals refine dp 17 0 [84, 85, 86, 87, 88, 89, 90, 91, 92, 93, 94, 95, 96, 97, 98, 99, 100, 104, 105, 106, 107, 108, 109] [] pu1 ?_; all_goals refine dp 18 1 [84, 85, 86, 87, 88, 89, 90, 91, 92, 93, 94, 95, 96, 97, 98, 99, 100, 104, 105, 106, 107, 108, 109] [] puI ?_; all_goals refine dp 19 3 [84, 85, 86, 87, 88, 89, 90, 91, 92, 93, 94, 95, 96, 97, 98, 99, 100, 104, 105, 106, 107, 108, 109] [] puL ?_; all_goals refine dp 20 0 [84, 85, 86, 87, 88, 89, 90, 91, 92, 93, 94, 95, 96, 97, 98, 99, 100, 101, 102, 103, 107, 108, 109] [] pu1 ?_; all_goals refine dp 21 1 [84, 85, 86, 87, 88, 89, 90, 91, 92, 93, 94, 95, 96, 97, 98, 99, 100, 101, 102, 103, 107, 108, 109] [] puI ?_; all_goals refine dp 22 3 [84, 85, 86, 87, 88, 89, 90, 91, 92, 93, 94, 95, 96, 97, 98, 99, 100, 101, 102, 103, 107, 108, 109] [] puL ?_; all_goals refine dp 23 0 [84, 85, 86, 87, 88, 89, 90, 91, 92, 93, 94, 95, 96, 97, 98, 99, 100, 101, 102, 103, 104, 105, 106] [] pu1 ?_; all_goals refine dp 24 1 [84, 85, 86, 87, 88, 89, 90, 91, 92, 93, 94, 95, 96, 97, 98, 99, 100, 101, 102, 103, 104, 105, 106] [] puI ?_; all_goals refine dp 25 3 [84, 85, 86, 87, 88, 89, 90, 91, 92, 93, 94, 95, 96, 97, 98, 99, 100, 101, 102, 103, 104, 105, 106] [] puL ?_; all_goals refine dp 26 8191 [84, 85, 86, 87, 88, 89, 90, 91, 92, 93, 94, 95, 96] [] (callD1 (n := _) 0 (θ := []) (hD := (l25Back_ok _ _ _ _ preB43 preB43 preB43 preB43 preB43 preB43))) ?_; all_goals refine dp 27 134217727 [] [] (callD1 (n := _) 0 (θ := []) (hD := (l25Again_ok _ _ _ _ preB43 preB43 preB43 preB43 preB43 preB43))) ?_; all_goals (refine d_nil ?_; dsimp only [selT, selH, trues, SV.ren, C.ren, C.ren.all, tRen, GB.ren, calF, upOf, List.cons_append, List.nil_append, Nat.reduceAdd, setRow, List.map_cons, List.map_nil, scC, List.set_cons_zero, List.set_cons_succ, List.take_succ_cons, List.take_zero, List.drop_succ_cons, List.drop_zero]))); any_goals kernel_rfl)
      | (apply g_drN (id := 15) okM [[], [0], [0, 1], [], [3], [3, 4], [], [6], [6, 7], [3, 4, 5, 6, 7, 8], [], [0, 1, 2, 3, 4, 5, 6, 7, 8, 9, 10], [0, 1, 2, 3, 4, 5, 6, 7, 8, 9, 10, 11], [0, 1, 2, 3, 4, 5, 6, 7, 8, 9, 10, 11, 12], [0, 1, 2, 3, 4, 5, 6, 7, 8, 9, 10, 11, 12, 13]] [([], []), ([], []), ([], []), ([], []), ([], []), ([], []), ([], []), ([], []), ([], []), ([], []), ([], []), ([0], []), ([1], [_]), ([], [0]), ([], [])] 2; (focus (all_goals refine dp 0 0 [115, 116, 117, 118, 119, 120, 121, 122] [] pu1 ?_; all_goals refine dp 1 1 [115, 116, 117, 118, 119, 120, 121, 122] [] puI ?_; all_goals refine dp 2 3 [115, 116, 117, 118, 119, 120, 121, 122] [] puL ?_; all_goals refine dp 3 0 [112, 113, 114, 118, 119, 120, 122] [] pu1 ?_; all_goals refine dp 4 1 [112, 113, 114, 118, 119, 120, 122] [] puI ?_; all_goals refine dp 5 3 [112, 113, 114, 118, 119, 120, 122] [] puL ?_; all_goals refine dp 6 0 [112, 113, 114, 115, 116, 117, 122] [] pu1 ?_; all_goals refine dp 7 1 [112, 113, 114, 115, 116, 117, 122] [] puI ?_; all_goals refine dp 8 3 [112, 113, 114, 115, 116, 117, 122] [] puL ?_; all_goals refine dp 9 63 [112, 113, 114, 122] [] (a_sub rfl rfl (by omega) (by omega)) ?_; all_goals refine dp 10 0 [112, 113, 114, 115, 116, 117, 118, 119, 120, 121] [] pu1 ?_; all_goals refine duE 11 2047 [] [] (atN 0 (fun _ => a_litE eI [_, _, _] rfl rfl rfl rfl rfl rfl rfl rfl)) (by exact rfl) (by exact rfl) ?_; all_goals refine duN 12 4095 [] [] (callD1 (n := _) 1 (θ := [_]) (hD := (l25Made_ok _ _))) (by exact rfl) (by exact rfl) ?_; all_goals refine duE 13 8191 [] [] (by first | exact a_st_bx rfl rfl rfl rfl (fN rfl rfl) (Nat.le_of_ble_eq_true rfl) rfl | exact a_stF (E := eCf) ⟨_, _, _⟩ rfl rfl rfl rfl (fN rfl rfl) (Nat.le_of_ble_eq_true rfl) (Nat.le_of_ble_eq_true rfl) (by first | exact List.getElem?_set_self bnd | exact List.getElem?_eq_getElem bnd) (by (try dsimp only [setRow, List.set_cons_succ, List.set_cons_zero]); first | done | exact rfl) rfl) (by exact rfl) (by exact rfl) ?_; all_goals refine dp 14 16383 [] [] (a_pure (sv := .one _) rfl) ?_; all_goals (refine d_nil ?_; dsimp only [selT, selH, trues, SV.ren, C.ren, C.ren.all, tRen, GB.ren, calF, upOf, List.cons_append, List.nil_append, Nat.reduceAdd, setRow, List.map_cons, List.map_nil, scC, List.set_cons_zero, List.set_cons_succ, List.take_succ_cons, List.take_zero, List.drop_succ_cons, List.drop_zero]))); any_goals kernel_rfl)
      | (refine o_gs rfl rfl (fun hc => ?_) (fun hc => ?_) <;> (try simp only [decide_eq_true_eq, decide_eq_false_iff_not, Bool.not_eq_true', Bool.not_eq_false', Bool.not_eq_true, Bool.not_eq_false, Bool.and_eq_true, Bool.or_eq_false_iff, Bool.not_not] at hc) <;> (try (first | contradiction | (exfalso; omega))))
      | (refine g_cond rfl (fun hc => ?_) (fun hc => ?_) <;> (try simp only [decide_eq_true_eq, decide_eq_false_iff_not, Bool.not_eq_true', Bool.not_eq_false', Bool.not_eq_true, Bool.not_eq_false, Bool.and_eq_true, Bool.or_eq_false_iff, Bool.not_not] at hc) <;> (try (first | contradiction | (exfalso; omega))))
    refine g_conv (t_nilB (i := 0) (k := 1) (z := 1) rfl rfl rfl (by decide)) ?_
    try dsimp only [setRow, List.map_cons, List.map_nil, scC, List.set_cons_zero, List.set_cons_succ]
    refine g_conv (t_nilB (i := 0) (k := 2) (z := 1) rfl rfl rfl (by decide)) ?_
    try dsimp only [setRow, List.map_cons, List.map_nil, scC, List.set_cons_zero, List.set_cons_succ]
    repeat (first | refine g_ret ?_ | refine q_sr ?_ | refine q_br ?_ | refine q_lr ?_ | refine q_cr ?_)
    refine ends_id ?_
    refine endK [?_, ?_] (h2 := ?_) (h3 := ?_) (nd := ?_)
    rotate_left 2
    all_goals (repeat' first | with_reducible exact SVLe.refl | exact SVLe.any | exact SVLe.one (.sh rfl) | exact SVLe.one (.nil (by decide)) | refine SVLe.agg ?_ | refine SVLe.tup ?_ | exact TLe.nil | refine TLe.cons ?_ ?_ | exact CsLe.nil | refine CsLe.cons ?_ ?_ | exact CLe.refl | exact CLe.sh rfl | exact CLe.nil (by decide) | refine cle_i ?_ | refine cle_b ?_ | exact trivial | refine And.intro ?_ ?_ | exact Or.inl rfl | exact Or.inr rfl | refine Or.inr (row_eq ?_) | (refine Or.inr (bx_eq rfl rfl ?_); (try dsimp only [C.ren, C.ren.all]); (try exact rfl)) | exact SVLe.refl | refine sle_i ?_ | refine sle_b ?_)
    all_goals first | exact (show nodupB _ = true from rfl) | exact Or.inr rfl | (rfl)
  · have hh := hc
    refine g_turn (t_freeze (i := 2) rfl nowR) ?_
    refine g_turn (t_freeze (i := 3) rfl nowR) ?_
    refine g_turn (t_freeze (i := 4) rfl nowR) ?_
    repeat' first
      | refine g_seq ?_
      | refine g_skip ?_
      | refine g_exit ?_
      | refine g_block ?_
      | refine g_reg ?_
      | refine g_if_t rfl ?_
      | refine g_if_f rfl ?_
      | refine o_nil ?_
      | refine q_s ?_
      | refine q_se ?_
      | refine q_b ?_
      | refine q_be rfl ?_
      | refine q_bn rfl ?_
      | refine q_le ?_
      | refine q_ce ?_
      | (apply n3; exact a_new (gb := .bx _) rfl; exact rfl; (try dsimp only [List.map_cons, List.map_nil, scC, Nat.reduceAdd]))
      | (apply p3; (first | exact pu1 | exact puL | exact puN | exact a_len_str rfl (fT rfl) | exact puC | exact a_sub rfl rfl (by omega) (by omega) | exact a_add rfl rfl (by omega) (by omega) | exact puI); exact rfl)
      | (apply w3; (first | exact a_st_bx rfl rfl rfl rfl (fN rfl rfl) (Nat.le_of_ble_eq_true rfl) rfl | exact a_stF (E := eCf) ⟨_, _, _⟩ rfl rfl rfl rfl (fN rfl rfl) (Nat.le_of_ble_eq_true rfl) (Nat.le_of_ble_eq_true rfl) (by first | exact List.getElem?_set_self bnd | exact List.getElem?_eq_getElem bnd) (by (try dsimp only [setRow, List.set_cons_succ, List.set_cons_zero]); first | done | exact rfl) rfl); exact rfl; (try dsimp only [setRow, List.map_cons, List.map_nil, scC, List.set_cons_zero, List.set_cons_succ, List.take_succ_cons, List.take_zero, List.drop_succ_cons, List.drop_zero, Nat.reduceAdd]))
      | (apply c4 4; exact callK0 (θ := []) (hD := (l25Play_ok m b hv hb.1 hb.2 O hO)); exact rfl; exact rfl; exact rfl; (try dsimp only [SV.ren, C.ren, C.ren.all, tRen, GB.ren, calF, upOf, List.cons_append, List.nil_append, Nat.reduceAdd]))
      | (apply g_drN (id := 12) okM [[], [0], [0, 1], [], [3], [3, 4], [0, 1, 2, 3, 4, 5], [0, 1, 2, 3, 4, 5, 6], [0, 1, 2, 3, 4, 5, 6, 7], [0, 1, 2, 3, 4, 5, 6, 7, 8], [0, 1, 2, 3, 4, 5, 6, 7, 8, 9], [0, 1, 2, 3, 4, 5, 6, 7], [0, 1, 2, 3, 4, 5, 6, 7, 11], [0, 1, 2, 3, 4, 5, 6, 7, 11, 12], [0, 1, 2, 3, 4, 5, 6, 7, 8, 9, 10, 11, 12, 13], [0, 1, 2, 3, 4, 5, 6, 7, 8, 9, 10, 11, 12, 13, 14]] [([], []), ([], []), ([], []), ([], []), ([], []), ([], []), ([], []), ([], []), ([], []), ([], []), ([], []), ([], []), ([], []), ([], []), ([], []), ([], [])] 0; (focus (all_goals refine dp 0 0 [52, 53, 54] [] pu1 ?_; all_goals refine dp 1 1 [52, 53, 54] [] puI ?_; all_goals refine dp 2 3 [52, 53, 54] [] puL ?_; all_goals refine dp 3 0 [49, 50, 51] [] pu1 ?_; all_goals refine dp 4 1 [49, 50, 51] [] puI ?_; all_goals refine dp 5 3 [49, 50, 51] [] puL ?_; all_goals refine dp 6 63 [] [] (by first | exact a_ne rfl rfl | exact a_neS rfl rfl rfl) ?_; all_goals (refine db 7 127 [] [] pu1 ?_ ?_ <;> (intro hc; first | cases hc | (try simp only [decide_eq_true_eq, decide_eq_false_iff_not, Bool.not_eq_true', Bool.not_eq_false', Bool.not_eq_true, Bool.not_eq_false, Bool.and_eq_true, Bool.or_eq_false_iff, Bool.not_not] at hc); first | contradiction | (exfalso; omega) | skip)); all_goals (first | refine dn 8 255 [60, 61, 62] [] ?_ | refine dpy 8 255 [60, 61, 62] [] pu1 ?_); all_goals (first | refine dn 9 511 [60, 61, 62] [] ?_ | refine dpy 9 511 [60, 61, 62] [] puI ?_); all_goals (first | refine dn 10 1023 [60, 61, 62] [] ?_ | refine dpy 10 1023 [60, 61, 62] [] puL ?_); all_goals (first | refine dn 11 2040 [57, 58, 59] [] ?_ | refine dpy 11 2040 [57, 58, 59] [] pu1 ?_); all_goals (first | refine dn 12 4081 [57, 58, 59] [] ?_ | refine dpy 12 4081 [57, 58, 59] [] puI ?_); all_goals (first | refine dn 13 8163 [57, 58, 59] [] ?_ | refine dpy 13 8163 [57, 58, 59] [] puL ?_); all_goals (first | refine dn 14 16383 [] [] ?_ | refine dpy 14 16383 [] [] (by first | exact a_ne rfl rfl | exact a_neS rfl rfl rfl) ?_); all_goals refine dp 15 32767 [] [] (a_pure (sv := .one _) rfl) ?_; all_goals (refine d_nil ?_; dsimp only [selT, selH, trues, SV.ren, C.ren, C.ren.all, tRen, GB.ren, calF, upOf, List.cons_append, List.nil_append, Nat.reduceAdd, setRow, List.map_cons, List.map_nil, scC, List.set_cons_zero, List.set_cons_succ, List.take_succ_cons, List.take_zero, List.drop_succ_cons, List.drop_zero]))); any_goals kernel_rfl)
      | (apply g_drN (id := 13) okM [[], [0], [0, 1], [0, 1, 2], [], [4], [4, 5], [0, 1, 2, 3, 4, 5, 6], [0, 1, 2, 3, 4, 5, 6, 7], [], [9], [9, 10], [9, 10, 11], [], [13], [13, 14], [9, 10, 11, 12, 13, 14, 15], [9, 10, 11, 12, 13, 14, 15, 16], [0, 1, 2, 3, 4, 5, 6, 7, 8, 9, 10, 11, 12, 13, 14, 15, 16, 17], [0, 1, 2, 3, 4, 5, 6, 7, 8, 9, 10, 11, 12, 13, 14, 15, 16, 17, 18]] [([], []), ([], []), ([], []), ([], []), ([], []), ([], []), ([], []), ([], []), ([], []), ([], []), ([], []), ([], []), ([], []), ([], []), ([], []), ([], []), ([], []), ([], []), ([], []), ([], [])] 0; (focus (all_goals refine dp 0 0 [69, 70, 71, 74, 75, 76, 77, 78, 79, 80, 81, 82] [] pu1 ?_; all_goals refine dp 1 1 [69, 70, 71, 74, 75, 76, 77, 78, 79, 80, 81, 82] [] (a_pure (sv := .one _) rfl) ?_; all_goals refine dp 2 3 [69, 70, 71, 74, 75, 76, 77, 78, 79, 80, 81, 82] [] (a_pure (sv := .one _) rfl) ?_; all_goals refine dp 3 7 [69, 70, 71, 74, 75, 76, 77, 78, 79, 80, 81, 82] [] puL ?_; all_goals refine dp 4 0 [65, 66, 67, 68, 74, 75, 76, 77, 78, 79, 80, 81, 82] [] pu1 ?_; all_goals refine dp 5 1 [65, 66, 67, 68, 74, 75, 76, 77, 78, 79, 80, 81, 82] [] puI ?_; all_goals refine dp 6 3 [65, 66, 67, 68, 74, 75, 76, 77, 78, 79, 80, 81, 82] [] puL ?_; all_goals refine dp 7 127 [74, 75, 76, 77, 78, 79, 80, 81, 82] [] puI ?_; all_goals refine dp 8 255 [74, 75, 76, 77, 78, 79, 80, 81, 82] [] puL ?_; all_goals refine dp 9 0 [65, 66, 67, 68, 69, 70, 71, 72, 73, 78, 79, 80] [] pu1 ?_; all_goals refine dp 10 1 [65, 66, 67, 68, 69, 70, 71, 72, 73, 78, 79, 80] [] (a_pure (sv := .one _) rfl) ?_; all_goals refine dp 11 3 [65, 66, 67, 68, 69, 70, 71, 72, 73, 78, 79, 80] [] (a_pure (sv := .one _) rfl) ?_; all_goals refine dp 12 7 [65, 66, 67, 68, 69, 70, 71, 72, 73, 78, 79, 80] [] puL ?_; all_goals refine dp 13 0 [65, 66, 67, 68, 69, 70, 71, 72, 73, 74, 75, 76, 77] [] pu1 ?_; all_goals refine dp 14 1 [65, 66, 67, 68, 69, 70, 71, 72, 73, 74, 75, 76, 77] [] puI ?_; all_goals refine dp 15 3 [65, 66, 67, 68, 69, 70, 71, 72, 73, 74, 75, 76, 77] [] puL ?_; all_goals refine dp 16 127 [65, 66, 67, 68, 69, 70, 71, 72, 73] [] puI ?_; all_goals refine dp 17 255 [65, 66, 67, 68, 69, 70, 71, 72, 73] [] puL ?_; all_goals refine dp 18 262143 [] [] (a_sub rfl rfl (by omega) (by omega)) ?_; all_goals refine dp 19 524287 [] [] pu1 ?_; all_goals (refine d_nil ?_; dsimp only [selT, selH, trues, SV.ren, C.ren, C.ren.all, tRen, GB.ren, calF, upOf, List.cons_append, List.nil_append, Nat.reduceAdd, setRow, List.map_cons, List.map_nil, scC, List.set_cons_zero, List.set_cons_succ, List.take_succ_cons, List.take_zero, List.drop_succ_cons, List.drop_zero]))); any_goals kernel_rfl)
      | (apply g_drN (id := 14) okM [[], [0], [0, 1], [0, 1, 2], [], [0, 1, 2, 3, 4], [], [6], [6, 7], [6, 7, 8], [], [6, 7, 8, 9, 10], [], [], [13], [13, 14], [13, 14, 15], [], [17], [17, 18], [], [20], [20, 21], [], [23], [23, 24], [13, 14, 15, 16, 17, 18, 19, 20, 21, 22, 23, 24, 25], [0, 1, 2, 3, 4, 5, 6, 7, 8, 9, 10, 11, 12, 13, 14, 15, 16, 17, 18, 19, 20, 21, 22, 23, 24, 25, 26]] [([], []), ([], []), ([], []), ([], []), ([], []), ([], []), ([], []), ([], []), ([], []), ([], []), ([], []), ([], []), ([], []), ([], []), ([], []), ([], []), ([], []), ([], []), ([], []), ([], []), ([], []), ([], []), ([], []), ([], []), ([], []), ([], []), ([], []), ([], [])] 0; (focus (all_goals refine dp 0 0 [88, 90, 91, 92, 93, 94, 95, 96, 97, 98, 99, 100, 101, 102, 103, 104, 105, 106, 107, 108, 109, 110] [] pu1 ?_; all_goals refine dp 1 1 [88, 90, 91, 92, 93, 94, 95, 96, 97, 98, 99, 100, 101, 102, 103, 104, 105, 106, 107, 108, 109, 110] [] (a_pure (sv := .one _) rfl) ?_; all_goals refine dp 2 3 [88, 90, 91, 92, 93, 94, 95, 96, 97, 98, 99, 100, 101, 102, 103, 104, 105, 106, 107, 108, 109, 110] [] (a_pure (sv := .one _) rfl) ?_; all_goals refine dp 3 7 [88, 90, 91, 92, 93, 94, 95, 96, 97, 98, 99, 100, 101, 102, 103, 104, 105, 106, 107, 108, 109, 110] [] puL ?_; all_goals refine dp 4 0 [84, 85, 86, 87, 90, 91, 92, 93, 94, 95, 96, 97, 98, 99, 100, 101, 102, 103, 104, 105, 106, 107, 108, 109, 110] [] pu1 ?_; all_goals refine dp 5 31 [90, 91, 92, 93, 94, 95, 96, 97, 98, 99, 100, 101, 102, 103, 104, 105, 106, 107, 108, 109, 110] [] puI ?_; all_goals refine dp 6 0 [84, 85, 86, 87, 88, 89, 94, 96, 97, 98, 99, 100, 101, 102, 103, 104, 105, 106, 107, 108, 109, 110] [] pu1 ?_; all_goals refine dp 7 1 [84, 85, 86, 87, 88, 89, 94, 96, 97, 98, 99, 100, 101, 102, 103, 104, 105, 106, 107, 108, 109, 110] [] (a_pure (sv := .one _) rfl) ?_; all_goals refine dp 8 3 [84, 85, 86, 87, 88, 89, 94, 96, 97, 98, 99, 100, 101, 102, 103, 104, 105, 106, 107, 108, 109, 110] [] (a_pure (sv := .one _) rfl) ?_; all_goals refine dp 9 7 [84, 85, 86, 87, 88, 89, 94, 96, 97, 98, 99, 100, 101, 102, 103, 104, 105, 106, 107, 108, 109, 110] [] puL ?_; all_goals refine dp 10 0 [84, 85, 86, 87, 88, 89, 90, 91, 92, 93, 96, 97, 98, 99, 100, 101, 102, 103, 104, 105, 106, 107, 108, 109, 110] [] pu1 ?_; all_goals refine dp 11 31 [84, 85, 86, 87, 88, 89, 96, 97, 98, 99, 100, 101, 102, 103, 104, 105, 106, 107, 108, 109, 110] [] puI ?_; all_goals refine dp 12 0 [84, 85, 86, 87, 88, 89, 90, 91, 92, 93, 94, 95, 97, 98, 99, 100, 101, 102, 103, 104, 105, 106, 107, 108, 109, 110] [] pu1 ?_; all_goals refine dp 13 0 [84, 85, 86, 87, 88, 89, 90, 91, 92, 93, 94, 95, 96, 101, 102, 103, 104, 105, 106, 107, 108, 109] [] pu1 ?_; all_goals refine dp 14 1 [84, 85, 86, 87, 88, 89, 90, 91, 92, 93, 94, 95, 96, 101, 102, 103, 104, 105, 106, 107, 108, 109] [] (a_pure (sv := .one _) rfl) ?_; all_goals refine dp 15 3 [84, 85, 86, 87, 88, 89, 90, 91, 92, 93, 94, 95, 96, 101, 102, 103, 104, 105, 106, 107, 108, 109] [] (a_pure (sv := .one _) rfl) ?_; all_goals refine dp 16 7 [84, 85, 86, 87, 88, 89, 90, 91, 92, 93, 94, 95, 96, 101, 102, 103, 104, 105, 106, 107, 108, 109] [] puL ?_; all_goals refine dp 17 0 [84, 85, 86, 87, 88, 89, 90, 91, 92, 93, 94, 95, 96, 97, 98, 99, 100, 104, 105, 106, 107, 108, 109] [] pu1 ?_; all_goals refine dp 18 1 [84, 85, 86, 87, 88, 89, 90, 91, 92, 93, 94, 95, 96, 97, 98, 99, 100, 104, 105, 106, 107, 108, 109] [] puI ?_; all_goals refine dp 19 3 [84, 85, 86, 87, 88, 89, 90, 91, 92, 93, 94, 95, 96, 97, 98, 99, 100, 104, 105, 106, 107, 108, 109] [] puL ?_; all_goals refine dp 20 0 [84, 85, 86, 87, 88, 89, 90, 91, 92, 93, 94, 95, 96, 97, 98, 99, 100, 101, 102, 103, 107, 108, 109] [] pu1 ?_; all_goals refine dp 21 1 [84, 85, 86, 87, 88, 89, 90, 91, 92, 93, 94, 95, 96, 97, 98, 99, 100, 101, 102, 103, 107, 108, 109] [] puI ?_; all_goals refine dp 22 3 [84, 85, 86, 87, 88, 89, 90, 91, 92, 93, 94, 95, 96, 97, 98, 99, 100, 101, 102, 103, 107, 108, 109] [] puL ?_; all_goals refine dp 23 0 [84, 85, 86, 87, 88, 89, 90, 91, 92, 93, 94, 95, 96, 97, 98, 99, 100, 101, 102, 103, 104, 105, 106] [] pu1 ?_; all_goals refine dp 24 1 [84, 85, 86, 87, 88, 89, 90, 91, 92, 93, 94, 95, 96, 97, 98, 99, 100, 101, 102, 103, 104, 105, 106] [] puI ?_; all_goals refine dp 25 3 [84, 85, 86, 87, 88, 89, 90, 91, 92, 93, 94, 95, 96, 97, 98, 99, 100, 101, 102, 103, 104, 105, 106] [] puL ?_; all_goals refine dp 26 8191 [84, 85, 86, 87, 88, 89, 90, 91, 92, 93, 94, 95, 96] [] (callD1 (n := _) 0 (θ := []) (hD := (l25Back_ok _ _ _ _ preB43 preB43 preB43 preB43 preB43 preB43))) ?_; all_goals refine dp 27 134217727 [] [] (callD1 (n := _) 0 (θ := []) (hD := (l25Again_ok _ _ _ _ preB43 preB43 preB43 preB43 preB43 preB43))) ?_; all_goals (refine d_nil ?_; dsimp only [selT, selH, trues, SV.ren, C.ren, C.ren.all, tRen, GB.ren, calF, upOf, List.cons_append, List.nil_append, Nat.reduceAdd, setRow, List.map_cons, List.map_nil, scC, List.set_cons_zero, List.set_cons_succ, List.take_succ_cons, List.take_zero, List.drop_succ_cons, List.drop_zero]))); any_goals kernel_rfl)
      | (apply g_drN (id := 15) okM [[], [0], [0, 1], [], [3], [3, 4], [], [6], [6, 7], [3, 4, 5, 6, 7, 8], [], [0, 1, 2, 3, 4, 5, 6, 7, 8, 9, 10], [0, 1, 2, 3, 4, 5, 6, 7, 8, 9, 10, 11], [0, 1, 2, 3, 4, 5, 6, 7, 8, 9, 10, 11, 12], [0, 1, 2, 3, 4, 5, 6, 7, 8, 9, 10, 11, 12, 13]] [([], []), ([], []), ([], []), ([], []), ([], []), ([], []), ([], []), ([], []), ([], []), ([], []), ([], []), ([0], []), ([1], [_]), ([], [0]), ([], [])] 2; (focus (all_goals refine dp 0 0 [115, 116, 117, 118, 119, 120, 121, 122] [] pu1 ?_; all_goals refine dp 1 1 [115, 116, 117, 118, 119, 120, 121, 122] [] puI ?_; all_goals refine dp 2 3 [115, 116, 117, 118, 119, 120, 121, 122] [] puL ?_; all_goals refine dp 3 0 [112, 113, 114, 118, 119, 120, 122] [] pu1 ?_; all_goals refine dp 4 1 [112, 113, 114, 118, 119, 120, 122] [] puI ?_; all_goals refine dp 5 3 [112, 113, 114, 118, 119, 120, 122] [] puL ?_; all_goals refine dp 6 0 [112, 113, 114, 115, 116, 117, 122] [] pu1 ?_; all_goals refine dp 7 1 [112, 113, 114, 115, 116, 117, 122] [] puI ?_; all_goals refine dp 8 3 [112, 113, 114, 115, 116, 117, 122] [] puL ?_; all_goals refine dp 9 63 [112, 113, 114, 122] [] (a_sub rfl rfl (by omega) (by omega)) ?_; all_goals refine dp 10 0 [112, 113, 114, 115, 116, 117, 118, 119, 120, 121] [] pu1 ?_; all_goals refine duE 11 2047 [] [] (atN 0 (fun _ => a_litE eI [_, _, _] rfl rfl rfl rfl rfl rfl rfl rfl)) (by exact rfl) (by exact rfl) ?_; all_goals refine duN 12 4095 [] [] (callD1 (n := _) 1 (θ := [_]) (hD := (l25Made_ok _ _))) (by exact rfl) (by exact rfl) ?_; all_goals refine duE 13 8191 [] [] (by first | exact a_st_bx rfl rfl rfl rfl (fN rfl rfl) (Nat.le_of_ble_eq_true rfl) rfl | exact a_stF (E := eCf) ⟨_, _, _⟩ rfl rfl rfl rfl (fN rfl rfl) (Nat.le_of_ble_eq_true rfl) (Nat.le_of_ble_eq_true rfl) (by first | exact List.getElem?_set_self bnd | exact List.getElem?_eq_getElem bnd) (by (try dsimp only [setRow, List.set_cons_succ, List.set_cons_zero]); first | done | exact rfl) rfl) (by exact rfl) (by exact rfl) ?_; all_goals refine dp 14 16383 [] [] (a_pure (sv := .one _) rfl) ?_; all_goals (refine d_nil ?_; dsimp only [selT, selH, trues, SV.ren, C.ren, C.ren.all, tRen, GB.ren, calF, upOf, List.cons_append, List.nil_append, Nat.reduceAdd, setRow, List.map_cons, List.map_nil, scC, List.set_cons_zero, List.set_cons_succ, List.take_succ_cons, List.take_zero, List.drop_succ_cons, List.drop_zero]))); any_goals kernel_rfl)
      | (refine o_gs rfl rfl (fun hc => ?_) (fun hc => ?_) <;> (try simp only [decide_eq_true_eq, decide_eq_false_iff_not, Bool.not_eq_true', Bool.not_eq_false', Bool.not_eq_true, Bool.not_eq_false, Bool.and_eq_true, Bool.or_eq_false_iff, Bool.not_not] at hc) <;> (try (first | contradiction | (exfalso; omega))))
      | (refine g_cond rfl (fun hc => ?_) (fun hc => ?_) <;> (try simp only [decide_eq_true_eq, decide_eq_false_iff_not, Bool.not_eq_true', Bool.not_eq_false', Bool.not_eq_true, Bool.not_eq_false, Bool.and_eq_true, Bool.or_eq_false_iff, Bool.not_not] at hc) <;> (try (first | contradiction | (exfalso; omega))))
    refine g_loop_id ?_
    refine loopK [4, 5, 6] [] (fun k : Int => 0 ≤ k ∧ k ≤ O.x.rcs.length ∧ fndT O.x.pos O.x.rcs (O.x.rcs.length - k.toNat) k.toNat = fndT O.x.pos O.x.rcs O.x.rcs.length 0) (fun k => [(7, .one (int k))]) (fun _ => []) (fun k => (O.x.rcs.length - k).toNat) (0 : Int) [0, 1, 2, 3, 4] (hI := ?_) (hr := ?_)
    · exact ⟨by omega, by omega, by rfl⟩
    · rintro k ⟨i1, i2, i3⟩
      dsimp only [List.cons_append, List.nil_append] at *
      skip
      repeat' first
        | refine g_seq ?_
        | refine g_skip ?_
        | refine g_exit ?_
        | refine g_block ?_
        | refine g_reg (id := 5) ?_
        | refine g_reg (id := 16) ?_
        | refine g_reg (id := 17) ?_
        | refine g_reg (id := 18) ?_
        | refine g_if_t rfl ?_
        | refine g_if_f rfl ?_
        | refine o_nil ?_
        | refine q_s ?_
        | refine q_se ?_
        | refine q_b ?_
        | refine q_be rfl ?_
        | refine q_bn rfl ?_
        | refine q_le ?_
        | refine q_ce ?_
        | (apply p3; (first | exact pu1 | exact puL | exact puN | exact a_len_str rfl (fT rfl) | exact puC); exact rfl)
        | (apply w3; (first | exact a_st_bx rfl rfl rfl rfl (fN rfl rfl) (Nat.le_of_ble_eq_true rfl) rfl | exact a_stF (E := eCf) ⟨_, _, _⟩ rfl rfl rfl rfl (fN rfl rfl) (Nat.le_of_ble_eq_true rfl) (Nat.le_of_ble_eq_true rfl) (by first | exact List.getElem?_set_self bnd | exact List.getElem?_eq_getElem bnd) (by (try dsimp only [setRow, List.set_cons_succ, List.set_cons_zero]); first | done | exact rfl) rfl); exact rfl; (try dsimp only [setRow, List.map_cons, List.map_nil, scC, List.set_cons_zero, List.set_cons_succ, List.take_succ_cons, List.take_zero, List.drop_succ_cons, List.drop_zero, Nat.reduceAdd]))
        | (refine o_gs rfl rfl (fun hc => ?_) (fun hc => ?_) <;> (try simp only [decide_eq_true_eq, decide_eq_false_iff_not, Bool.not_eq_true', Bool.not_eq_false', Bool.not_eq_true, Bool.not_eq_false, Bool.and_eq_true, Bool.or_eq_false_iff, Bool.not_not] at hc) <;> (try (first | contradiction | (exfalso; omega))))
        | (refine g_cond rfl (fun hc => ?_) (fun hc => ?_) <;> (try simp only [decide_eq_true_eq, decide_eq_false_iff_not, Bool.not_eq_true', Bool.not_eq_false', Bool.not_eq_true, Bool.not_eq_false, Bool.and_eq_true, Bool.or_eq_false_iff, Bool.not_not] at hc) <;> (try (first | contradiction | (exfalso; omega))))
      · have hk' : k.toNat < O.x.rcs.length := by omega
        rw [fndT_s i1 hk'] at i3
        have hr := hq.rc _ (List.getElem_mem hk')
        have hxe' : ∀ h, (recL O.x.rcs)[k.toNat]'h = [(O.x.rcs[k.toNat]'hk').n, (O.x.rcs[k.toNat]'hk').sd, (O.x.rcs[k.toNat]'hk').c.st] := fun h => recL_get h hk'
        have hce' : ∀ h, (recC O.x.rcs)[k.toNat]'h = (O.x.rcs[k.toNat]'hk').c := fun h => recC_get h hk'
        obtain ⟨e, he⟩ : ∃ e, e = O.x.rcs[k.toNat]'hk' := ⟨_, rfl⟩
        rw [← he] at i3 hr
        have hxe : ∀ h, (recL O.x.rcs)[k.toNat]'h = [e.n, e.sd, e.c.st] := fun h => by rw [hxe' h, ← he]
        have hce : ∀ h, (recC O.x.rcs)[k.toNat]'h = e.c := fun h => by rw [hce' h, ← he]
        clear hxe' hce'
        repeat' first
          | refine g_seq ?_
          | refine g_skip ?_
          | refine g_exit ?_
          | refine g_block ?_
          | refine g_reg ?_
          | refine g_if_t rfl ?_
          | refine g_if_f rfl ?_
          | refine o_nil ?_
          | refine q_s ?_
          | refine q_se ?_
          | refine q_b ?_
          | refine q_be rfl ?_
          | refine q_bn rfl ?_
          | refine q_le ?_
          | refine q_ce ?_
          | (apply p3; (first | exact pu1 | exact puL | exact puN | exact a_len_str rfl (fT rfl) | exact puC | exact a_sub rfl rfl (by omega) (by omega) | exact a_add rfl rfl (by omega) (by omega) | exact puI); exact rfl)
          | (apply w3; (first | exact a_st_bx rfl rfl rfl rfl (fN rfl rfl) (Nat.le_of_ble_eq_true rfl) rfl | exact a_stF (E := eCf) ⟨_, _, _⟩ rfl rfl rfl rfl (fN rfl rfl) (Nat.le_of_ble_eq_true rfl) (Nat.le_of_ble_eq_true rfl) (by first | exact List.getElem?_set_self bnd | exact List.getElem?_eq_getElem bnd) (by (try dsimp only [setRow, List.set_cons_succ, List.set_cons_zero]); first | done | exact rfl) rfl); exact rfl; (try dsimp only [setRow, List.map_cons, List.map_nil, scC, List.set_cons_zero, List.set_cons_succ, List.take_succ_cons, List.take_zero, List.drop_succ_cons, List.drop_zero, Nat.reduceAdd]))
          | (apply g_drN (id := 12) okM [[], [0], [0, 1], [], [3], [3, 4], [0, 1, 2, 3, 4, 5], [0, 1, 2, 3, 4, 5, 6], [0, 1, 2, 3, 4, 5, 6, 7], [0, 1, 2, 3, 4, 5, 6, 7, 8], [0, 1, 2, 3, 4, 5, 6, 7, 8, 9], [0, 1, 2, 3, 4, 5, 6, 7], [0, 1, 2, 3, 4, 5, 6, 7, 11], [0, 1, 2, 3, 4, 5, 6, 7, 11, 12], [0, 1, 2, 3, 4, 5, 6, 7, 8, 9, 10, 11, 12, 13], [0, 1, 2, 3, 4, 5, 6, 7, 8, 9, 10, 11, 12, 13, 14]] [([], []), ([], []), ([], []), ([], []), ([], []), ([], []), ([], []), ([], []), ([], []), ([], []), ([], []), ([], []), ([], []), ([], []), ([], []), ([], [])] 0; (focus (all_goals refine dp 0 0 [52, 53, 54] [] pu1 ?_; all_goals refine dp 1 1 [52, 53, 54] [] puI ?_; all_goals refine dp 2 3 [52, 53, 54] [] puL ?_; all_goals refine dp 3 0 [49, 50, 51] [] pu1 ?_; all_goals refine dp 4 1 [49, 50, 51] [] puI ?_; all_goals refine dp 5 3 [49, 50, 51] [] puL ?_; all_goals refine dp 6 63 [] [] (by first | exact a_ne rfl rfl | exact a_neS rfl rfl rfl) ?_; all_goals (refine db 7 127 [] [] pu1 ?_ ?_ <;> (intro hc; first | cases hc | (try simp only [decide_eq_true_eq, decide_eq_false_iff_not, Bool.not_eq_true', Bool.not_eq_false', Bool.not_eq_true, Bool.not_eq_false, Bool.and_eq_true, Bool.or_eq_false_iff, Bool.not_not] at hc); first | contradiction | (exfalso; omega) | skip)); all_goals (first | refine dn 8 255 [60, 61, 62] [] ?_ | refine dpy 8 255 [60, 61, 62] [] pu1 ?_); all_goals (first | refine dn 9 511 [60, 61, 62] [] ?_ | refine dpy 9 511 [60, 61, 62] [] puI ?_); all_goals (first | refine dn 10 1023 [60, 61, 62] [] ?_ | refine dpy 10 1023 [60, 61, 62] [] puL ?_); all_goals (first | refine dn 11 2040 [57, 58, 59] [] ?_ | refine dpy 11 2040 [57, 58, 59] [] pu1 ?_); all_goals (first | refine dn 12 4081 [57, 58, 59] [] ?_ | refine dpy 12 4081 [57, 58, 59] [] puI ?_); all_goals (first | refine dn 13 8163 [57, 58, 59] [] ?_ | refine dpy 13 8163 [57, 58, 59] [] puL ?_); all_goals (first | refine dn 14 16383 [] [] ?_ | refine dpy 14 16383 [] [] (by first | exact a_ne rfl rfl | exact a_neS rfl rfl rfl) ?_); all_goals refine dp 15 32767 [] [] (a_pure (sv := .one _) rfl) ?_; all_goals (refine d_nil ?_; dsimp only [selT, selH, trues, SV.ren, C.ren, C.ren.all, tRen, GB.ren, calF, upOf, List.cons_append, List.nil_append, Nat.reduceAdd, setRow, List.map_cons, List.map_nil, scC, List.set_cons_zero, List.set_cons_succ, List.take_succ_cons, List.take_zero, List.drop_succ_cons, List.drop_zero]))); any_goals kernel_rfl)
          | (apply g_drN (id := 13) okM [[], [0], [0, 1], [0, 1, 2], [], [4], [4, 5], [0, 1, 2, 3, 4, 5, 6], [0, 1, 2, 3, 4, 5, 6, 7], [], [9], [9, 10], [9, 10, 11], [], [13], [13, 14], [9, 10, 11, 12, 13, 14, 15], [9, 10, 11, 12, 13, 14, 15, 16], [0, 1, 2, 3, 4, 5, 6, 7, 8, 9, 10, 11, 12, 13, 14, 15, 16, 17], [0, 1, 2, 3, 4, 5, 6, 7, 8, 9, 10, 11, 12, 13, 14, 15, 16, 17, 18]] [([], []), ([], []), ([], []), ([], []), ([], []), ([], []), ([], []), ([], []), ([], []), ([], []), ([], []), ([], []), ([], []), ([], []), ([], []), ([], []), ([], []), ([], []), ([], []), ([], [])] 0; (focus (all_goals refine dp 0 0 [69, 70, 71, 74, 75, 76, 77, 78, 79, 80, 81, 82] [] pu1 ?_; all_goals refine dp 1 1 [69, 70, 71, 74, 75, 76, 77, 78, 79, 80, 81, 82] [] (a_pure (sv := .one _) rfl) ?_; all_goals refine dp 2 3 [69, 70, 71, 74, 75, 76, 77, 78, 79, 80, 81, 82] [] (a_pure (sv := .one _) rfl) ?_; all_goals refine dp 3 7 [69, 70, 71, 74, 75, 76, 77, 78, 79, 80, 81, 82] [] puL ?_; all_goals refine dp 4 0 [65, 66, 67, 68, 74, 75, 76, 77, 78, 79, 80, 81, 82] [] pu1 ?_; all_goals refine dp 5 1 [65, 66, 67, 68, 74, 75, 76, 77, 78, 79, 80, 81, 82] [] puI ?_; all_goals refine dp 6 3 [65, 66, 67, 68, 74, 75, 76, 77, 78, 79, 80, 81, 82] [] puL ?_; all_goals refine dp 7 127 [74, 75, 76, 77, 78, 79, 80, 81, 82] [] puI ?_; all_goals refine dp 8 255 [74, 75, 76, 77, 78, 79, 80, 81, 82] [] puL ?_; all_goals refine dp 9 0 [65, 66, 67, 68, 69, 70, 71, 72, 73, 78, 79, 80] [] pu1 ?_; all_goals refine dp 10 1 [65, 66, 67, 68, 69, 70, 71, 72, 73, 78, 79, 80] [] (a_pure (sv := .one _) rfl) ?_; all_goals refine dp 11 3 [65, 66, 67, 68, 69, 70, 71, 72, 73, 78, 79, 80] [] (a_pure (sv := .one _) rfl) ?_; all_goals refine dp 12 7 [65, 66, 67, 68, 69, 70, 71, 72, 73, 78, 79, 80] [] puL ?_; all_goals refine dp 13 0 [65, 66, 67, 68, 69, 70, 71, 72, 73, 74, 75, 76, 77] [] pu1 ?_; all_goals refine dp 14 1 [65, 66, 67, 68, 69, 70, 71, 72, 73, 74, 75, 76, 77] [] puI ?_; all_goals refine dp 15 3 [65, 66, 67, 68, 69, 70, 71, 72, 73, 74, 75, 76, 77] [] puL ?_; all_goals refine dp 16 127 [65, 66, 67, 68, 69, 70, 71, 72, 73] [] puI ?_; all_goals refine dp 17 255 [65, 66, 67, 68, 69, 70, 71, 72, 73] [] puL ?_; all_goals refine dp 18 262143 [] [] (a_sub rfl rfl (by omega) (by omega)) ?_; all_goals refine dp 19 524287 [] [] pu1 ?_; all_goals (refine d_nil ?_; dsimp only [selT, selH, trues, SV.ren, C.ren, C.ren.all, tRen, GB.ren, calF, upOf, List.cons_append, List.nil_append, Nat.reduceAdd, setRow, List.map_cons, List.map_nil, scC, List.set_cons_zero, List.set_cons_succ, List.take_succ_cons, List.take_zero, List.drop_succ_cons, List.drop_zero]))); any_goals kernel_rfl)
          | (apply g_drN (id := 14) okM [[], [0], [0, 1], [0, 1, 2], [], [0, 1, 2, 3, 4], [], [6], [6, 7], [6, 7, 8], [], [6, 7, 8, 9, 10], [], [], [13], [13, 14], [13, 14, 15], [], [17], [17, 18], [], [20], [20, 21], [], [23], [23, 24], [13, 14, 15, 16, 17, 18, 19, 20, 21, 22, 23, 24, 25], [0, 1, 2, 3, 4, 5, 6, 7, 8, 9, 10, 11, 12, 13, 14, 15, 16, 17, 18, 19, 20, 21, 22, 23, 24, 25, 26]] [([], []), ([], []), ([], []), ([], []), ([], []), ([], []), ([], []), ([], []), ([], []), ([], []), ([], []), ([], []), ([], []), ([], []), ([], []), ([], []), ([], []), ([], []), ([], []), ([], []), ([], []), ([], []), ([], []), ([], []), ([], []), ([], []), ([], []), ([], [])] 0; (focus (all_goals refine dp 0 0 [88, 90, 91, 92, 93, 94, 95, 96, 97, 98, 99, 100, 101, 102, 103, 104, 105, 106, 107, 108, 109, 110] [] pu1 ?_; all_goals refine dp 1 1 [88, 90, 91, 92, 93, 94, 95, 96, 97, 98, 99, 100, 101, 102, 103, 104, 105, 106, 107, 108, 109, 110] [] (a_pure (sv := .one _) rfl) ?_; all_goals refine dp 2 3 [88, 90, 91, 92, 93, 94, 95, 96, 97, 98, 99, 100, 101, 102, 103, 104, 105, 106, 107, 108, 109, 110] [] (a_pure (sv := .one _) rfl) ?_; all_goals refine dp 3 7 [88, 90, 91, 92, 93, 94, 95, 96, 97, 98, 99, 100, 101, 102, 103, 104, 105, 106, 107, 108, 109, 110] [] puL ?_; all_goals refine dp 4 0 [84, 85, 86, 87, 90, 91, 92, 93, 94, 95, 96, 97, 98, 99, 100, 101, 102, 103, 104, 105, 106, 107, 108, 109, 110] [] pu1 ?_; all_goals refine dp 5 31 [90, 91, 92, 93, 94, 95, 96, 97, 98, 99, 100, 101, 102, 103, 104, 105, 106, 107, 108, 109, 110] [] puI ?_; all_goals refine dp 6 0 [84, 85, 86, 87, 88, 89, 94, 96, 97, 98, 99, 100, 101, 102, 103, 104, 105, 106, 107, 108, 109, 110] [] pu1 ?_; all_goals refine dp 7 1 [84, 85, 86, 87, 88, 89, 94, 96, 97, 98, 99, 100, 101, 102, 103, 104, 105, 106, 107, 108, 109, 110] [] (a_pure (sv := .one _) rfl) ?_; all_goals refine dp 8 3 [84, 85, 86, 87, 88, 89, 94, 96, 97, 98, 99, 100, 101, 102, 103, 104, 105, 106, 107, 108, 109, 110] [] (a_pure (sv := .one _) rfl) ?_; all_goals refine dp 9 7 [84, 85, 86, 87, 88, 89, 94, 96, 97, 98, 99, 100, 101, 102, 103, 104, 105, 106, 107, 108, 109, 110] [] puL ?_; all_goals refine dp 10 0 [84, 85, 86, 87, 88, 89, 90, 91, 92, 93, 96, 97, 98, 99, 100, 101, 102, 103, 104, 105, 106, 107, 108, 109, 110] [] pu1 ?_; all_goals refine dp 11 31 [84, 85, 86, 87, 88, 89, 96, 97, 98, 99, 100, 101, 102, 103, 104, 105, 106, 107, 108, 109, 110] [] puI ?_; all_goals refine dp 12 0 [84, 85, 86, 87, 88, 89, 90, 91, 92, 93, 94, 95, 97, 98, 99, 100, 101, 102, 103, 104, 105, 106, 107, 108, 109, 110] [] pu1 ?_; all_goals refine dp 13 0 [84, 85, 86, 87, 88, 89, 90, 91, 92, 93, 94, 95, 96, 101, 102, 103, 104, 105, 106, 107, 108, 109] [] pu1 ?_; all_goals refine dp 14 1 [84, 85, 86, 87, 88, 89, 90, 91, 92, 93, 94, 95, 96, 101, 102, 103, 104, 105, 106, 107, 108, 109] [] (a_pure (sv := .one _) rfl) ?_; all_goals refine dp 15 3 [84, 85, 86, 87, 88, 89, 90, 91, 92, 93, 94, 95, 96, 101, 102, 103, 104, 105, 106, 107, 108, 109] [] (a_pure (sv := .one _) rfl) ?_; all_goals refine dp 16 7 [84, 85, 86, 87, 88, 89, 90, 91, 92, 93, 94, 95, 96, 101, 102, 103, 104, 105, 106, 107, 108, 109] [] puL ?_; all_goals refine dp 17 0 [84, 85, 86, 87, 88, 89, 90, 91, 92, 93, 94, 95, 96, 97, 98, 99, 100, 104, 105, 106, 107, 108, 109] [] pu1 ?_; all_goals refine dp 18 1 [84, 85, 86, 87, 88, 89, 90, 91, 92, 93, 94, 95, 96, 97, 98, 99, 100, 104, 105, 106, 107, 108, 109] [] puI ?_; all_goals refine dp 19 3 [84, 85, 86, 87, 88, 89, 90, 91, 92, 93, 94, 95, 96, 97, 98, 99, 100, 104, 105, 106, 107, 108, 109] [] puL ?_; all_goals refine dp 20 0 [84, 85, 86, 87, 88, 89, 90, 91, 92, 93, 94, 95, 96, 97, 98, 99, 100, 101, 102, 103, 107, 108, 109] [] pu1 ?_; all_goals refine dp 21 1 [84, 85, 86, 87, 88, 89, 90, 91, 92, 93, 94, 95, 96, 97, 98, 99, 100, 101, 102, 103, 107, 108, 109] [] puI ?_; all_goals refine dp 22 3 [84, 85, 86, 87, 88, 89, 90, 91, 92, 93, 94, 95, 96, 97, 98, 99, 100, 101, 102, 103, 107, 108, 109] [] puL ?_; all_goals refine dp 23 0 [84, 85, 86, 87, 88, 89, 90, 91, 92, 93, 94, 95, 96, 97, 98, 99, 100, 101, 102, 103, 104, 105, 106] [] pu1 ?_; all_goals refine dp 24 1 [84, 85, 86, 87, 88, 89, 90, 91, 92, 93, 94, 95, 96, 97, 98, 99, 100, 101, 102, 103, 104, 105, 106] [] puI ?_; all_goals refine dp 25 3 [84, 85, 86, 87, 88, 89, 90, 91, 92, 93, 94, 95, 96, 97, 98, 99, 100, 101, 102, 103, 104, 105, 106] [] puL ?_; all_goals refine dp 26 8191 [84, 85, 86, 87, 88, 89, 90, 91, 92, 93, 94, 95, 96] [] (callD1 (n := _) 0 (θ := []) (hD := (l25Back_ok _ _ _ _ preB43 preB43 preB43 preB43 preB43 preB43))) ?_; all_goals refine dp 27 134217727 [] [] (callD1 (n := _) 0 (θ := []) (hD := (l25Again_ok _ _ _ _ preB43 preB43 preB43 preB43 preB43 preB43))) ?_; all_goals (refine d_nil ?_; dsimp only [selT, selH, trues, SV.ren, C.ren, C.ren.all, tRen, GB.ren, calF, upOf, List.cons_append, List.nil_append, Nat.reduceAdd, setRow, List.map_cons, List.map_nil, scC, List.set_cons_zero, List.set_cons_succ, List.take_succ_cons, List.take_zero, List.drop_succ_cons, List.drop_zero]))); any_goals kernel_rfl)
          | (apply g_drN (id := 15) okM [[], [0], [0, 1], [], [3], [3, 4], [], [6], [6, 7], [3, 4, 5, 6, 7, 8], [], [0, 1, 2, 3, 4, 5, 6, 7, 8, 9, 10], [0, 1, 2, 3, 4, 5, 6, 7, 8, 9, 10, 11], [0, 1, 2, 3, 4, 5, 6, 7, 8, 9, 10, 11, 12], [0, 1, 2, 3, 4, 5, 6, 7, 8, 9, 10, 11, 12, 13]] [([], []), ([], []), ([], []), ([], []), ([], []), ([], []), ([], []), ([], []), ([], []), ([], []), ([], []), ([0], []), ([1], [_]), ([], [0]), ([], [])] 2; (focus (all_goals refine dp 0 0 [115, 116, 117, 118, 119, 120, 121, 122] [] pu1 ?_; all_goals refine dp 1 1 [115, 116, 117, 118, 119, 120, 121, 122] [] puI ?_; all_goals refine dp 2 3 [115, 116, 117, 118, 119, 120, 121, 122] [] puL ?_; all_goals refine dp 3 0 [112, 113, 114, 118, 119, 120, 122] [] pu1 ?_; all_goals refine dp 4 1 [112, 113, 114, 118, 119, 120, 122] [] puI ?_; all_goals refine dp 5 3 [112, 113, 114, 118, 119, 120, 122] [] puL ?_; all_goals refine dp 6 0 [112, 113, 114, 115, 116, 117, 122] [] pu1 ?_; all_goals refine dp 7 1 [112, 113, 114, 115, 116, 117, 122] [] puI ?_; all_goals refine dp 8 3 [112, 113, 114, 115, 116, 117, 122] [] puL ?_; all_goals refine dp 9 63 [112, 113, 114, 122] [] (a_sub rfl rfl (by omega) (by omega)) ?_; all_goals refine dp 10 0 [112, 113, 114, 115, 116, 117, 118, 119, 120, 121] [] pu1 ?_; all_goals refine duE 11 2047 [] [] (atN 0 (fun _ => a_litE eI [_, _, _] rfl rfl rfl rfl rfl rfl rfl rfl)) (by exact rfl) (by exact rfl) ?_; all_goals refine duN 12 4095 [] [] (callD1 (n := _) 1 (θ := [_]) (hD := (l25Made_ok _ _))) (by exact rfl) (by exact rfl) ?_; all_goals refine duE 13 8191 [] [] (by first | exact a_st_bx rfl rfl rfl rfl (fN rfl rfl) (Nat.le_of_ble_eq_true rfl) rfl | exact a_stF (E := eCf) ⟨_, _, _⟩ rfl rfl rfl rfl (fN rfl rfl) (Nat.le_of_ble_eq_true rfl) (Nat.le_of_ble_eq_true rfl) (by first | exact List.getElem?_set_self bnd | exact List.getElem?_eq_getElem bnd) (by (try dsimp only [setRow, List.set_cons_succ, List.set_cons_zero]); first | done | exact rfl) rfl) (by exact rfl) (by exact rfl) ?_; all_goals refine dp 14 16383 [] [] (a_pure (sv := .one _) rfl) ?_; all_goals (refine d_nil ?_; dsimp only [selT, selH, trues, SV.ren, C.ren, C.ren.all, tRen, GB.ren, calF, upOf, List.cons_append, List.nil_append, Nat.reduceAdd, setRow, List.map_cons, List.map_nil, scC, List.set_cons_zero, List.set_cons_succ, List.take_succ_cons, List.take_zero, List.drop_succ_cons, List.drop_zero]))); any_goals kernel_rfl)
          | (refine o_gs rfl rfl (fun hc => ?_) (fun hc => ?_) <;> (try simp only [decide_eq_true_eq, decide_eq_false_iff_not, Bool.not_eq_true', Bool.not_eq_false', Bool.not_eq_true, Bool.not_eq_false, Bool.and_eq_true, Bool.or_eq_false_iff, Bool.not_not] at hc) <;> (try (first | contradiction | (exfalso; omega))))
          | (refine g_cond rfl (fun hc => ?_) (fun hc => ?_) <;> (try simp only [decide_eq_true_eq, decide_eq_false_iff_not, Bool.not_eq_true', Bool.not_eq_false', Bool.not_eq_true, Bool.not_eq_false, Bool.and_eq_true, Bool.or_eq_false_iff, Bool.not_not] at hc) <;> (try (first | contradiction | (exfalso; omega))))
        refine g_loop_id ?_
        refine loopK [4, 5, 6, 7, 20, 21, 22, 23, 24, 25, 26, 29, 30] [] (fun i : Int => -1 ≤ i ∧ i < k ∧ fndA O.x.pos O.x.rcs e (i + 1).toNat = fndA O.x.pos O.x.rcs e k.toNat) (fun i => [(8, .one (int i))]) (fun _ => []) (fun i => (i + 1).toNat) (k - 1) [0, 1, 2, 3, 4] (hI := ?_) (hr := ?_)
        · exact ⟨by omega, by omega, by congr 1; omega⟩
        · rintro i ⟨j1, j2, j3⟩
          dsimp only [List.cons_append, List.nil_append] at *
          skip
          repeat' first
            | refine g_seq ?_
            | refine g_skip ?_
            | refine g_exit ?_
            | refine g_block ?_
            | refine g_reg (id := 8) ?_
            | refine g_reg (id := 6) ?_
            | refine g_reg (id := 16) ?_
            | refine g_reg (id := 17) ?_
            | refine g_reg (id := 18) ?_
            | refine g_if_t rfl ?_
            | refine g_if_f rfl ?_
            | refine o_nil ?_
            | refine q_s ?_
            | refine q_se ?_
            | refine q_b ?_
            | refine q_be rfl ?_
            | refine q_bn rfl ?_
            | refine q_le ?_
            | refine q_ce ?_
            | (apply p3; (first | exact pu1 | exact puL | exact puC | exact a_add rfl rfl (by omega) (by omega)); exact rfl)
            | (apply w3; (first | exact a_st_bx rfl rfl rfl rfl (fN rfl rfl) (Nat.le_of_ble_eq_true rfl) rfl | exact a_stF (E := eCf) ⟨_, _, _⟩ rfl rfl rfl rfl (fN rfl rfl) (Nat.le_of_ble_eq_true rfl) (Nat.le_of_ble_eq_true rfl) (by first | exact List.getElem?_set_self bnd | exact List.getElem?_eq_getElem bnd) (by (try dsimp only [setRow, List.set_cons_succ, List.set_cons_zero]); first | done | exact rfl) rfl); exact rfl; (try dsimp only [setRow, List.map_cons, List.map_nil, scC, List.set_cons_zero, List.set_cons_succ, List.take_succ_cons, List.take_zero, List.drop_succ_cons, List.drop_zero, Nat.reduceAdd]))
            | (refine o_gs rfl rfl (fun hc => ?_) (fun hc => ?_) <;> (try simp only [decide_eq_true_eq, decide_eq_false_iff_not, Bool.not_eq_true', Bool.not_eq_false', Bool.not_eq_true, Bool.not_eq_false, Bool.and_eq_true, Bool.or_eq_false_iff, Bool.not_not] at hc) <;> (try (first | contradiction | (exfalso; omega))))
            | (refine g_cond rfl (fun hc => ?_) (fun hc => ?_) <;> (try simp only [decide_eq_true_eq, decide_eq_false_iff_not, Bool.not_eq_true', Bool.not_eq_false', Bool.not_eq_true, Bool.not_eq_false, Bool.and_eq_true, Bool.or_eq_false_iff, Bool.not_not] at hc) <;> (try (first | contradiction | (exfalso; omega))))
          · have hi' : i.toNat < O.x.rcs.length := by omega
            have ha := hq.rc _ (List.getElem_mem hi')
            have hpw := List.pairwise_iff_getElem.1 hq.pw i.toNat k.toNat hi' hk' (by omega)
            rw [← he] at hpw
            rw [fndA_s (by omega) hi'] at j3
            have hxa' : ∀ h, (recL O.x.rcs)[i.toNat]'h = [(O.x.rcs[i.toNat]'hi').n, (O.x.rcs[i.toNat]'hi').sd, (O.x.rcs[i.toNat]'hi').c.st] := fun h => recL_get h hi'
            have hca' : ∀ h, (recC O.x.rcs)[i.toNat]'h = (O.x.rcs[i.toNat]'hi').c := fun h => recC_get h hi'
            obtain ⟨a, hae⟩ : ∃ a, a = O.x.rcs[i.toNat]'hi' := ⟨_, rfl⟩
            rw [← hae] at hpw ha j3
            have hxa : ∀ h, (recL O.x.rcs)[i.toNat]'h = [a.n, a.sd, a.c.st] := fun h => by rw [hxa' h, ← hae]
            have hca : ∀ h, (recC O.x.rcs)[i.toNat]'h = a.c := fun h => by rw [hca' h, ← hae]
            clear hxa' hca'
            repeat' first
              | refine g_seq ?_
              | refine g_skip ?_
              | refine g_exit ?_
              | refine g_block ?_
              | refine g_reg (id := 8) ?_
              | refine g_reg (id := 10) ?_
              | refine g_reg (id := 11) ?_
              | refine g_reg (id := 6) ?_
              | refine g_reg (id := 16) ?_
              | refine g_reg (id := 17) ?_
              | refine g_reg (id := 18) ?_
              | refine g_if_t rfl ?_
              | refine g_if_f rfl ?_
              | refine o_nil ?_
              | refine q_s ?_
              | refine q_se ?_
              | refine q_b ?_
              | refine q_be rfl ?_
              | refine q_bn rfl ?_
              | refine q_le ?_
              | refine q_ce ?_
              | (apply p3; (first | exact pu1 | exact puL | exact puC | exact a_add rfl rfl (by omega) (by omega) | exact puI); exact rfl)
              | (apply w3; (first | exact a_st_bx rfl rfl rfl rfl (fN rfl rfl) (Nat.le_of_ble_eq_true rfl) rfl | exact a_stF (E := eCf) ⟨_, _, _⟩ rfl rfl rfl rfl (fN rfl rfl) (Nat.le_of_ble_eq_true rfl) (Nat.le_of_ble_eq_true rfl) (by first | exact List.getElem?_set_self bnd | exact List.getElem?_eq_getElem bnd) (by (try dsimp only [setRow, List.set_cons_succ, List.set_cons_zero]); first | done | exact rfl) rfl); exact rfl; (try dsimp only [setRow, List.map_cons, List.map_nil, scC, List.set_cons_zero, List.set_cons_succ, List.take_succ_cons, List.take_zero, List.drop_succ_cons, List.drop_zero, Nat.reduceAdd]))
              | (refine o_gs rfl rfl (fun hc => ?_) (fun hc => ?_) <;> (try simp only [decide_eq_true_eq, decide_eq_false_iff_not, Bool.not_eq_true', Bool.not_eq_false', Bool.not_eq_true, Bool.not_eq_false, Bool.and_eq_true, Bool.or_eq_false_iff, Bool.not_not] at hc) <;> (try (first | contradiction | (exfalso; omega))))
              | (refine g_cond rfl (fun hc => ?_) (fun hc => ?_) <;> (try simp only [decide_eq_true_eq, decide_eq_false_iff_not, Bool.not_eq_true', Bool.not_eq_false', Bool.not_eq_true, Bool.not_eq_false, Bool.and_eq_true, Bool.or_eq_false_iff, Bool.not_not] at hc) <;> (try (first | contradiction | (exfalso; omega))))
            simp only [hxe, hxa]
            repeat' first
              | refine g_seq ?_
              | refine g_skip ?_
              | refine g_exit ?_
              | refine g_block ?_
              | refine g_reg (id := 8) ?_
              | refine g_reg (id := 10) ?_
              | refine g_reg (id := 11) ?_
              | refine g_reg (id := 6) ?_
              | refine g_reg (id := 16) ?_
              | refine g_reg (id := 17) ?_
              | refine g_reg (id := 18) ?_
              | refine g_if_t rfl ?_
              | refine g_if_f rfl ?_
              | refine o_nil ?_
              | refine q_s ?_
              | refine q_se ?_
              | refine q_b ?_
              | refine q_be rfl ?_
              | refine q_bn rfl ?_
              | refine q_le ?_
              | refine q_ce ?_
              | (apply p3; (first | exact pu1 | exact puL | exact puC | exact a_add rfl rfl (by omega) (by omega) | exact puI); exact rfl)
              | (apply w3; (first | exact a_st_bx rfl rfl rfl rfl (fN rfl rfl) (Nat.le_of_ble_eq_true rfl) rfl | exact a_stF (E := eCf) ⟨_, _, _⟩ rfl rfl rfl rfl (fN rfl rfl) (Nat.le_of_ble_eq_true rfl) (Nat.le_of_ble_eq_true rfl) (by first | exact List.getElem?_set_self bnd | exact List.getElem?_eq_getElem bnd) (by (try dsimp only [setRow, List.set_cons_succ, List.set_cons_zero]); first | done | exact rfl) rfl); exact rfl; (try dsimp only [setRow, List.map_cons, List.map_nil, scC, List.set_cons_zero, List.set_cons_succ, List.take_succ_cons, List.take_zero, List.drop_succ_cons, List.drop_zero, Nat.reduceAdd]))
              | (apply g_drN (id := 12) okM [[], [0], [0, 1], [], [3], [3, 4], [0, 1, 2, 3, 4, 5], [0, 1, 2, 3, 4, 5, 6], [0, 1, 2, 3, 4, 5, 6, 7], [0, 1, 2, 3, 4, 5, 6, 7, 8], [0, 1, 2, 3, 4, 5, 6, 7, 8, 9], [0, 1, 2, 3, 4, 5, 6, 7], [0, 1, 2, 3, 4, 5, 6, 7, 11], [0, 1, 2, 3, 4, 5, 6, 7, 11, 12], [0, 1, 2, 3, 4, 5, 6, 7, 8, 9, 10, 11, 12, 13], [0, 1, 2, 3, 4, 5, 6, 7, 8, 9, 10, 11, 12, 13, 14]] [([], []), ([], []), ([], []), ([], []), ([], []), ([], []), ([], []), ([], []), ([], []), ([], []), ([], []), ([], []), ([], []), ([], []), ([], []), ([], [])] 0; (focus (all_goals refine dp 0 0 [52, 53, 54] [] pu1 ?_; all_goals refine dp 1 1 [52, 53, 54] [] puI ?_; all_goals refine dp 2 3 [52, 53, 54] [] puL ?_; all_goals refine dp 3 0 [49, 50, 51] [] pu1 ?_; all_goals refine dp 4 1 [49, 50, 51] [] puI ?_; all_goals refine dp 5 3 [49, 50, 51] [] puL ?_; all_goals refine dp 6 63 [] [] (by first | exact a_ne rfl rfl | exact a_neS rfl rfl rfl) ?_; all_goals (refine db 7 127 [] [] pu1 ?_ ?_ <;> (intro hc; first | cases hc | (try simp only [decide_eq_true_eq, decide_eq_false_iff_not, Bool.not_eq_true', Bool.not_eq_false', Bool.not_eq_true, Bool.not_eq_false, Bool.and_eq_true, Bool.or_eq_false_iff, Bool.not_not] at hc); first | contradiction | (exfalso; omega) | skip)); all_goals (first | refine dn 8 255 [60, 61, 62] [] ?_ | refine dpy 8 255 [60, 61, 62] [] pu1 ?_); all_goals (first | refine dn 9 511 [60, 61, 62] [] ?_ | refine dpy 9 511 [60, 61, 62] [] puI ?_); all_goals (first | refine dn 10 1023 [60, 61, 62] [] ?_ | refine dpy 10 1023 [60, 61, 62] [] puL ?_); all_goals (first | refine dn 11 2040 [57, 58, 59] [] ?_ | refine dpy 11 2040 [57, 58, 59] [] pu1 ?_); all_goals (first | refine dn 12 4081 [57, 58, 59] [] ?_ | refine dpy 12 4081 [57, 58, 59] [] puI ?_); all_goals (first | refine dn 13 8163 [57, 58, 59] [] ?_ | refine dpy 13 8163 [57, 58, 59] [] puL ?_); all_goals (first | refine dn 14 16383 [] [] ?_ | refine dpy 14 16383 [] [] (by first | exact a_ne rfl rfl | exact a_neS rfl rfl rfl) ?_); all_goals refine dp 15 32767 [] [] (a_pure (sv := .one _) rfl) ?_; all_goals (refine d_nil ?_; dsimp only [selT, selH, trues, SV.ren, C.ren, C.ren.all, tRen, GB.ren, calF, upOf, List.cons_append, List.nil_append, Nat.reduceAdd, setRow, List.map_cons, List.map_nil, scC, List.set_cons_zero, List.set_cons_succ, List.take_succ_cons, List.take_zero, List.drop_succ_cons, List.drop_zero]))); any_goals kernel_rfl)
              | (refine o_gs rfl rfl (fun hc => ?_) (fun hc => ?_) <;> (try simp only [decide_eq_true_eq, decide_eq_false_iff_not, Bool.not_eq_true', Bool.not_eq_false', Bool.not_eq_true, Bool.not_eq_false, Bool.and_eq_true, Bool.or_eq_false_iff, Bool.not_not] at hc) <;> (try (first | contradiction | (exfalso; omega))))
              | (refine g_cond rfl (fun hc => ?_) (fun hc => ?_) <;> (try simp only [decide_eq_true_eq, decide_eq_false_iff_not, Bool.not_eq_true', Bool.not_eq_false', Bool.not_eq_true, Bool.not_eq_false, Bool.and_eq_true, Bool.or_eq_false_iff, Bool.not_not] at hc) <;> (try (first | contradiction | (exfalso; omega))))
            · have hc' : ¬ a.sd = e.sd := hc
              have hh2 : hitS O.x.pos a e = false := by unfold hitS; rw [decide_eq_false hc']; rfl
              repeat' first
                | refine g_seq ?_
                | refine g_skip ?_
                | refine g_exit ?_
                | refine g_block ?_
                | refine g_reg ?_
                | refine g_if_t rfl ?_
                | refine g_if_f rfl ?_
                | refine o_nil ?_
                | refine q_s ?_
                | refine q_se ?_
                | refine q_b ?_
                | refine q_be rfl ?_
                | refine q_bn rfl ?_
                | refine q_le ?_
                | refine q_ce ?_
                | (apply p3; (first | exact pu1 | exact puL | exact puC | exact a_sub rfl rfl (by omega) (by omega) | exact a_add rfl rfl (by omega) (by omega) | exact puI); exact rfl)
                | (apply w3; (first | exact a_st_bx rfl rfl rfl rfl (fN rfl rfl) (Nat.le_of_ble_eq_true rfl) rfl | exact a_stF (E := eCf) ⟨_, _, _⟩ rfl rfl rfl rfl (fN rfl rfl) (Nat.le_of_ble_eq_true rfl) (Nat.le_of_ble_eq_true rfl) (by first | exact List.getElem?_set_self bnd | exact List.getElem?_eq_getElem bnd) (by (try dsimp only [setRow, List.set_cons_succ, List.set_cons_zero]); first | done | exact rfl) rfl); exact rfl; (try dsimp only [setRow, List.map_cons, List.map_nil, scC, List.set_cons_zero, List.set_cons_succ, List.take_succ_cons, List.take_zero, List.drop_succ_cons, List.drop_zero, Nat.reduceAdd]))
                | (apply g_drN (id := 12) okM [[], [0], [0, 1], [], [3], [3, 4], [0, 1, 2, 3, 4, 5], [0, 1, 2, 3, 4, 5, 6], [0, 1, 2, 3, 4, 5, 6, 7], [0, 1, 2, 3, 4, 5, 6, 7, 8], [0, 1, 2, 3, 4, 5, 6, 7, 8, 9], [0, 1, 2, 3, 4, 5, 6, 7], [0, 1, 2, 3, 4, 5, 6, 7, 11], [0, 1, 2, 3, 4, 5, 6, 7, 11, 12], [0, 1, 2, 3, 4, 5, 6, 7, 8, 9, 10, 11, 12, 13], [0, 1, 2, 3, 4, 5, 6, 7, 8, 9, 10, 11, 12, 13, 14]] [([], []), ([], []), ([], []), ([], []), ([], []), ([], []), ([], []), ([], []), ([], []), ([], []), ([], []), ([], []), ([], []), ([], []), ([], []), ([], [])] 0; (focus (all_goals refine dp 0 0 [52, 53, 54] [] pu1 ?_; all_goals refine dp 1 1 [52, 53, 54] [] puI ?_; all_goals refine dp 2 3 [52, 53, 54] [] puL ?_; all_goals refine dp 3 0 [49, 50, 51] [] pu1 ?_; all_goals refine dp 4 1 [49, 50, 51] [] puI ?_; all_goals refine dp 5 3 [49, 50, 51] [] puL ?_; all_goals refine dp 6 63 [] [] (by first | exact a_ne rfl rfl | exact a_neS rfl rfl rfl) ?_; all_goals (refine db 7 127 [] [] pu1 ?_ ?_ <;> (intro hc; first | cases hc | (try simp only [decide_eq_true_eq, decide_eq_false_iff_not, Bool.not_eq_true', Bool.not_eq_false', Bool.not_eq_true, Bool.not_eq_false, Bool.and_eq_true, Bool.or_eq_false_iff, Bool.not_not] at hc); first | contradiction | (exfalso; omega) | skip)); all_goals (first | refine dn 8 255 [60, 61, 62] [] ?_ | refine dpy 8 255 [60, 61, 62] [] pu1 ?_); all_goals (first | refine dn 9 511 [60, 61, 62] [] ?_ | refine dpy 9 511 [60, 61, 62] [] puI ?_); all_goals (first | refine dn 10 1023 [60, 61, 62] [] ?_ | refine dpy 10 1023 [60, 61, 62] [] puL ?_); all_goals (first | refine dn 11 2040 [57, 58, 59] [] ?_ | refine dpy 11 2040 [57, 58, 59] [] pu1 ?_); all_goals (first | refine dn 12 4081 [57, 58, 59] [] ?_ | refine dpy 12 4081 [57, 58, 59] [] puI ?_); all_goals (first | refine dn 13 8163 [57, 58, 59] [] ?_ | refine dpy 13 8163 [57, 58, 59] [] puL ?_); all_goals (first | refine dn 14 16383 [] [] ?_ | refine dpy 14 16383 [] [] (by first | exact a_ne rfl rfl | exact a_neS rfl rfl rfl) ?_); all_goals refine dp 15 32767 [] [] (a_pure (sv := .one _) rfl) ?_; all_goals (refine d_nil ?_; dsimp only [selT, selH, trues, SV.ren, C.ren, C.ren.all, tRen, GB.ren, calF, upOf, List.cons_append, List.nil_append, Nat.reduceAdd, setRow, List.map_cons, List.map_nil, scC, List.set_cons_zero, List.set_cons_succ, List.take_succ_cons, List.take_zero, List.drop_succ_cons, List.drop_zero]))); any_goals kernel_rfl)
                | (apply g_drN (id := 13) okM [[], [0], [0, 1], [0, 1, 2], [], [4], [4, 5], [0, 1, 2, 3, 4, 5, 6], [0, 1, 2, 3, 4, 5, 6, 7], [], [9], [9, 10], [9, 10, 11], [], [13], [13, 14], [9, 10, 11, 12, 13, 14, 15], [9, 10, 11, 12, 13, 14, 15, 16], [0, 1, 2, 3, 4, 5, 6, 7, 8, 9, 10, 11, 12, 13, 14, 15, 16, 17], [0, 1, 2, 3, 4, 5, 6, 7, 8, 9, 10, 11, 12, 13, 14, 15, 16, 17, 18]] [([], []), ([], []), ([], []), ([], []), ([], []), ([], []), ([], []), ([], []), ([], []), ([], []), ([], []), ([], []), ([], []), ([], []), ([], []), ([], []), ([], []), ([], []), ([], []), ([], [])] 0; (focus (all_goals refine dp 0 0 [69, 70, 71, 74, 75, 76, 77, 78, 79, 80, 81, 82] [] pu1 ?_; all_goals refine dp 1 1 [69, 70, 71, 74, 75, 76, 77, 78, 79, 80, 81, 82] [] (a_pure (sv := .one _) rfl) ?_; all_goals refine dp 2 3 [69, 70, 71, 74, 75, 76, 77, 78, 79, 80, 81, 82] [] (a_pure (sv := .one _) rfl) ?_; all_goals refine dp 3 7 [69, 70, 71, 74, 75, 76, 77, 78, 79, 80, 81, 82] [] puL ?_; all_goals refine dp 4 0 [65, 66, 67, 68, 74, 75, 76, 77, 78, 79, 80, 81, 82] [] pu1 ?_; all_goals refine dp 5 1 [65, 66, 67, 68, 74, 75, 76, 77, 78, 79, 80, 81, 82] [] puI ?_; all_goals refine dp 6 3 [65, 66, 67, 68, 74, 75, 76, 77, 78, 79, 80, 81, 82] [] puL ?_; all_goals refine dp 7 127 [74, 75, 76, 77, 78, 79, 80, 81, 82] [] puI ?_; all_goals refine dp 8 255 [74, 75, 76, 77, 78, 79, 80, 81, 82] [] puL ?_; all_goals refine dp 9 0 [65, 66, 67, 68, 69, 70, 71, 72, 73, 78, 79, 80] [] pu1 ?_; all_goals refine dp 10 1 [65, 66, 67, 68, 69, 70, 71, 72, 73, 78, 79, 80] [] (a_pure (sv := .one _) rfl) ?_; all_goals refine dp 11 3 [65, 66, 67, 68, 69, 70, 71, 72, 73, 78, 79, 80] [] (a_pure (sv := .one _) rfl) ?_; all_goals refine dp 12 7 [65, 66, 67, 68, 69, 70, 71, 72, 73, 78, 79, 80] [] puL ?_; all_goals refine dp 13 0 [65, 66, 67, 68, 69, 70, 71, 72, 73, 74, 75, 76, 77] [] pu1 ?_; all_goals refine dp 14 1 [65, 66, 67, 68, 69, 70, 71, 72, 73, 74, 75, 76, 77] [] puI ?_; all_goals refine dp 15 3 [65, 66, 67, 68, 69, 70, 71, 72, 73, 74, 75, 76, 77] [] puL ?_; all_goals refine dp 16 127 [65, 66, 67, 68, 69, 70, 71, 72, 73] [] puI ?_; all_goals refine dp 17 255 [65, 66, 67, 68, 69, 70, 71, 72, 73] [] puL ?_; all_goals refine dp 18 262143 [] [] (a_sub rfl rfl (by omega) (by omega)) ?_; all_goals refine dp 19 524287 [] [] pu1 ?_; all_goals (refine d_nil ?_; dsimp only [selT, selH, trues, SV.ren, C.ren, C.ren.all, tRen, GB.ren, calF, upOf, List.cons_append, List.nil_append, Nat.reduceAdd, setRow, List.map_cons, List.map_nil, scC, List.set_cons_zero, List.set_cons_succ, List.take_succ_cons, List.take_zero, List.drop_succ_cons, List.drop_zero]))); any_goals kernel_rfl)
                | (apply g_drN (id := 14) okM [[], [0], [0, 1], [0, 1, 2], [], [0, 1, 2, 3, 4], [], [6], [6, 7], [6, 7, 8], [], [6, 7, 8, 9, 10], [], [], [13], [13, 14], [13, 14, 15], [], [17], [17, 18], [], [20], [20, 21], [], [23], [23, 24], [13, 14, 15, 16, 17, 18, 19, 20, 21, 22, 23, 24, 25], [0, 1, 2, 3, 4, 5, 6, 7, 8, 9, 10, 11, 12, 13, 14, 15, 16, 17, 18, 19, 20, 21, 22, 23, 24, 25, 26]] [([], []), ([], []), ([], []), ([], []), ([], []), ([], []), ([], []), ([], []), ([], []), ([], []), ([], []), ([], []), ([], []), ([], []), ([], []), ([], []), ([], []), ([], []), ([], []), ([], []), ([], []), ([], []), ([], []), ([], []), ([], []), ([], []), ([], []), ([], [])] 0; (focus (all_goals refine dp 0 0 [88, 90, 91, 92, 93, 94, 95, 96, 97, 98, 99, 100, 101, 102, 103, 104, 105, 106, 107, 108, 109, 110] [] pu1 ?_; all_goals refine dp 1 1 [88, 90, 91, 92, 93, 94, 95, 96, 97, 98, 99, 100, 101, 102, 103, 104, 105, 106, 107, 108, 109, 110] [] (a_pure (sv := .one _) rfl) ?_; all_goals refine dp 2 3 [88, 90, 91, 92, 93, 94, 95, 96, 97, 98, 99, 100, 101, 102, 103, 104, 105, 106, 107, 108, 109, 110] [] (a_pure (sv := .one _) rfl) ?_; all_goals refine dp 3 7 [88, 90, 91, 92, 93, 94, 95, 96, 97, 98, 99, 100, 101, 102, 103, 104, 105, 106, 107, 108, 109, 110] [] puL ?_; all_goals refine dp 4 0 [84, 85, 86, 87, 90, 91, 92, 93, 94, 95, 96, 97, 98, 99, 100, 101, 102, 103, 104, 105, 106, 107, 108, 109, 110] [] pu1 ?_; all_goals refine dp 5 31 [90, 91, 92, 93, 94, 95, 96, 97, 98, 99, 100, 101, 102, 103, 104, 105, 106, 107, 108, 109, 110] [] puI ?_; all_goals refine dp 6 0 [84, 85, 86, 87, 88, 89, 94, 96, 97, 98, 99, 100, 101, 102, 103, 104, 105, 106, 107, 108, 109, 110] [] pu1 ?_; all_goals refine dp 7 1 [84, 85, 86, 87, 88, 89, 94, 96, 97, 98, 99, 100, 101, 102, 103, 104, 105, 106, 107, 108, 109, 110] [] (a_pure (sv := .one _) rfl) ?_; all_goals refine dp 8 3 [84, 85, 86, 87, 88, 89, 94, 96, 97, 98, 99, 100, 101, 102, 103, 104, 105, 106, 107, 108, 109, 110] [] (a_pure (sv := .one _) rfl) ?_; all_goals refine dp 9 7 [84, 85, 86, 87, 88, 89, 94, 96, 97, 98, 99, 100, 101, 102, 103, 104, 105, 106, 107, 108, 109, 110] [] puL ?_; all_goals refine dp 10 0 [84, 85, 86, 87, 88, 89, 90, 91, 92, 93, 96, 97, 98, 99, 100, 101, 102, 103, 104, 105, 106, 107, 108, 109, 110] [] pu1 ?_; all_goals refine dp 11 31 [84, 85, 86, 87, 88, 89, 96, 97, 98, 99, 100, 101, 102, 103, 104, 105, 106, 107, 108, 109, 110] [] puI ?_; all_goals refine dp 12 0 [84, 85, 86, 87, 88, 89, 90, 91, 92, 93, 94, 95, 97, 98, 99, 100, 101, 102, 103, 104, 105, 106, 107, 108, 109, 110] [] pu1 ?_; all_goals refine dp 13 0 [84, 85, 86, 87, 88, 89, 90, 91, 92, 93, 94, 95, 96, 101, 102, 103, 104, 105, 106, 107, 108, 109] [] pu1 ?_; all_goals refine dp 14 1 [84, 85, 86, 87, 88, 89, 90, 91, 92, 93, 94, 95, 96, 101, 102, 103, 104, 105, 106, 107, 108, 109] [] (a_pure (sv := .one _) rfl) ?_; all_goals refine dp 15 3 [84, 85, 86, 87, 88, 89, 90, 91, 92, 93, 94, 95, 96, 101, 102, 103, 104, 105, 106, 107, 108, 109] [] (a_pure (sv := .one _) rfl) ?_; all_goals refine dp 16 7 [84, 85, 86, 87, 88, 89, 90, 91, 92, 93, 94, 95, 96, 101, 102, 103, 104, 105, 106, 107, 108, 109] [] puL ?_; all_goals refine dp 17 0 [84, 85, 86, 87, 88, 89, 90, 91, 92, 93, 94, 95, 96, 97, 98, 99, 100, 104, 105, 106, 107, 108, 109] [] pu1 ?_; all_goals refine dp 18 1 [84, 85, 86, 87, 88, 89, 90, 91, 92, 93, 94, 95, 96, 97, 98, 99, 100, 104, 105, 106, 107, 108, 109] [] puI ?_; all_goals refine dp 19 3 [84, 85, 86, 87, 88, 89, 90, 91, 92, 93, 94, 95, 96, 97, 98, 99, 100, 104, 105, 106, 107, 108, 109] [] puL ?_; all_goals refine dp 20 0 [84, 85, 86, 87, 88, 89, 90, 91, 92, 93, 94, 95, 96, 97, 98, 99, 100, 101, 102, 103, 107, 108, 109] [] pu1 ?_; all_goals refine dp 21 1 [84, 85, 86, 87, 88, 89, 90, 91, 92, 93, 94, 95, 96, 97, 98, 99, 100, 101, 102, 103, 107, 108, 109] [] puI ?_; all_goals refine dp 22 3 [84, 85, 86, 87, 88, 89, 90, 91, 92, 93, 94, 95, 96, 97, 98, 99, 100, 101, 102, 103, 107, 108, 109] [] puL ?_; all_goals refine dp 23 0 [84, 85, 86, 87, 88, 89, 90, 91, 92, 93, 94, 95, 96, 97, 98, 99, 100, 101, 102, 103, 104, 105, 106] [] pu1 ?_; all_goals refine dp 24 1 [84, 85, 86, 87, 88, 89, 90, 91, 92, 93, 94, 95, 96, 97, 98, 99, 100, 101, 102, 103, 104, 105, 106] [] puI ?_; all_goals refine dp 25 3 [84, 85, 86, 87, 88, 89, 90, 91, 92, 93, 94, 95, 96, 97, 98, 99, 100, 101, 102, 103, 104, 105, 106] [] puL ?_; all_goals refine dp 26 8191 [84, 85, 86, 87, 88, 89, 90, 91, 92, 93, 94, 95, 96] [] (callD1 (n := _) 0 (θ := []) (hD := (l25Back_ok _ _ _ _ preB43 preB43 preB43 preB43 preB43 preB43))) ?_; all_goals refine dp 27 134217727 [] [] (callD1 (n := _) 0 (θ := []) (hD := (l25Again_ok _ _ _ _ preB43 preB43 preB43 preB43 preB43 preB43))) ?_; all_goals (refine d_nil ?_; dsimp only [selT, selH, trues, SV.ren, C.ren, C.ren.all, tRen, GB.ren, calF, upOf, List.cons_append, List.nil_append, Nat.reduceAdd, setRow, List.map_cons, List.map_nil, scC, List.set_cons_zero, List.set_cons_succ, List.take_succ_cons, List.take_zero, List.drop_succ_cons, List.drop_zero]))); any_goals kernel_rfl)
                | (apply g_drN (id := 15) okM [[], [0], [0, 1], [], [3], [3, 4], [], [6], [6, 7], [3, 4, 5, 6, 7, 8], [], [0, 1, 2, 3, 4, 5, 6, 7, 8, 9, 10], [0, 1, 2, 3, 4, 5, 6, 7, 8, 9, 10, 11], [0, 1, 2, 3, 4, 5, 6, 7, 8, 9, 10, 11, 12], [0, 1, 2, 3, 4, 5, 6, 7, 8, 9, 10, 11, 12, 13]] [([], []), ([], []), ([], []), ([], []), ([], []), ([], []), ([], []), ([], []), ([], []), ([], []), ([], []), ([0], []), ([1], [_]), ([], [0]), ([], [])] 2; (focus (all_goals refine dp 0 0 [115, 116, 117, 118, 119, 120, 121, 122] [] pu1 ?_; all_goals refine dp 1 1 [115, 116, 117, 118, 119, 120, 121, 122] [] puI ?_; all_goals refine dp 2 3 [115, 116, 117, 118, 119, 120, 121, 122] [] puL ?_; all_goals refine dp 3 0 [112, 113, 114, 118, 119, 120, 122] [] pu1 ?_; all_goals refine dp 4 1 [112, 113, 114, 118, 119, 120, 122] [] puI ?_; all_goals refine dp 5 3 [112, 113, 114, 118, 119, 120, 122] [] puL ?_; all_goals refine dp 6 0 [112, 113, 114, 115, 116, 117, 122] [] pu1 ?_; all_goals refine dp 7 1 [112, 113, 114, 115, 116, 117, 122] [] puI ?_; all_goals refine dp 8 3 [112, 113, 114, 115, 116, 117, 122] [] puL ?_; all_goals refine dp 9 63 [112, 113, 114, 122] [] (a_sub rfl rfl (by omega) (by omega)) ?_; all_goals refine dp 10 0 [112, 113, 114, 115, 116, 117, 118, 119, 120, 121] [] pu1 ?_; all_goals refine duE 11 2047 [] [] (atN 0 (fun _ => a_litE eI [_, _, _] rfl rfl rfl rfl rfl rfl rfl rfl)) (by exact rfl) (by exact rfl) ?_; all_goals refine duN 12 4095 [] [] (callD1 (n := _) 1 (θ := [_]) (hD := (l25Made_ok _ _))) (by exact rfl) (by exact rfl) ?_; all_goals refine duE 13 8191 [] [] (by first | exact a_st_bx rfl rfl rfl rfl (fN rfl rfl) (Nat.le_of_ble_eq_true rfl) rfl | exact a_stF (E := eCf) ⟨_, _, _⟩ rfl rfl rfl rfl (fN rfl rfl) (Nat.le_of_ble_eq_true rfl) (Nat.le_of_ble_eq_true rfl) (by first | exact List.getElem?_set_self bnd | exact List.getElem?_eq_getElem bnd) (by (try dsimp only [setRow, List.set_cons_succ, List.set_cons_zero]); first | done | exact rfl) rfl) (by exact rfl) (by exact rfl) ?_; all_goals refine dp 14 16383 [] [] (a_pure (sv := .one _) rfl) ?_; all_goals (refine d_nil ?_; dsimp only [selT, selH, trues, SV.ren, C.ren, C.ren.all, tRen, GB.ren, calF, upOf, List.cons_append, List.nil_append, Nat.reduceAdd, setRow, List.map_cons, List.map_nil, scC, List.set_cons_zero, List.set_cons_succ, List.take_succ_cons, List.take_zero, List.drop_succ_cons, List.drop_zero]))); any_goals kernel_rfl)
                | (refine o_gs rfl rfl (fun hc => ?_) (fun hc => ?_) <;> (try simp only [decide_eq_true_eq, decide_eq_false_iff_not, Bool.not_eq_true', Bool.not_eq_false', Bool.not_eq_true, Bool.not_eq_false, Bool.and_eq_true, Bool.or_eq_false_iff, Bool.not_not] at hc) <;> (try (first | contradiction | (exfalso; omega))))
                | (refine g_cond rfl (fun hc => ?_) (fun hc => ?_) <;> (try simp only [decide_eq_true_eq, decide_eq_false_iff_not, Bool.not_eq_true', Bool.not_eq_false', Bool.not_eq_true, Bool.not_eq_false, Bool.and_eq_true, Bool.or_eq_false_iff, Bool.not_not] at hc) <;> (try (first | contradiction | (exfalso; omega))))
              rw [if_neg (by rw [hh2]; simp)] at j3
              refine q_again (i - 1) [0, 1, 2, 3, 4] (by exact stk) ?_ ?_
              · exact ⟨by omega, by omega, by rw [show (i - 1 + 1).toNat = i.toNat by omega]; exact j3⟩
              · omega
            · have hc' : ¬ a.c.st = e.c.st := hc
              have hh2 : hitS O.x.pos a e = false := by unfold hitS; rw [decide_eq_false hc']; simp
              repeat' first
                | refine g_seq ?_
                | refine g_skip ?_
                | refine g_exit ?_
                | refine g_block ?_
                | refine g_reg ?_
                | refine g_if_t rfl ?_
                | refine g_if_f rfl ?_
                | refine o_nil ?_
                | refine q_s ?_
                | refine q_se ?_
                | refine q_b ?_
                | refine q_be rfl ?_
                | refine q_bn rfl ?_
                | refine q_le ?_
                | refine q_ce ?_
                | (apply p3; (first | exact pu1 | exact puL | exact puC | exact a_sub rfl rfl (by omega) (by omega) | exact a_add rfl rfl (by omega) (by omega) | exact puI); exact rfl)
                | (apply w3; (first | exact a_st_bx rfl rfl rfl rfl (fN rfl rfl) (Nat.le_of_ble_eq_true rfl) rfl | exact a_stF (E := eCf) ⟨_, _, _⟩ rfl rfl rfl rfl (fN rfl rfl) (Nat.le_of_ble_eq_true rfl) (Nat.le_of_ble_eq_true rfl) (by first | exact List.getElem?_set_self bnd | exact List.getElem?_eq_getElem bnd) (by (try dsimp only [setRow, List.set_cons_succ, List.set_cons_zero]); first | done | exact rfl) rfl); exact rfl; (try dsimp only [setRow, List.map_cons, List.map_nil, scC, List.set_cons_zero, List.set_cons_succ, List.take_succ_cons, List.take_zero, List.drop_succ_cons, List.drop_zero, Nat.reduceAdd]))
                | (apply g_drN (id := 12) okM [[], [0], [0, 1], [], [3], [3, 4], [0, 1, 2, 3, 4, 5], [0, 1, 2, 3, 4, 5, 6], [0, 1, 2, 3, 4, 5, 6, 7], [0, 1, 2, 3, 4, 5, 6, 7, 8], [0, 1, 2, 3, 4, 5, 6, 7, 8, 9], [0, 1, 2, 3, 4, 5, 6, 7], [0, 1, 2, 3, 4, 5, 6, 7, 11], [0, 1, 2, 3, 4, 5, 6, 7, 11, 12], [0, 1, 2, 3, 4, 5, 6, 7, 8, 9, 10, 11, 12, 13], [0, 1, 2, 3, 4, 5, 6, 7, 8, 9, 10, 11, 12, 13, 14]] [([], []), ([], []), ([], []), ([], []), ([], []), ([], []), ([], []), ([], []), ([], []), ([], []), ([], []), ([], []), ([], []), ([], []), ([], []), ([], [])] 0; (focus (all_goals refine dp 0 0 [52, 53, 54] [] pu1 ?_; all_goals refine dp 1 1 [52, 53, 54] [] puI ?_; all_goals refine dp 2 3 [52, 53, 54] [] puL ?_; all_goals refine dp 3 0 [49, 50, 51] [] pu1 ?_; all_goals refine dp 4 1 [49, 50, 51] [] puI ?_; all_goals refine dp 5 3 [49, 50, 51] [] puL ?_; all_goals refine dp 6 63 [] [] (by first | exact a_ne rfl rfl | exact a_neS rfl rfl rfl) ?_; all_goals (refine db 7 127 [] [] pu1 ?_ ?_ <;> (intro hc; first | cases hc | (try simp only [decide_eq_true_eq, decide_eq_false_iff_not, Bool.not_eq_true', Bool.not_eq_false', Bool.not_eq_true, Bool.not_eq_false, Bool.and_eq_true, Bool.or_eq_false_iff, Bool.not_not] at hc); first | contradiction | (exfalso; omega) | skip)); all_goals (first | refine dn 8 255 [60, 61, 62] [] ?_ | refine dpy 8 255 [60, 61, 62] [] pu1 ?_); all_goals (first | refine dn 9 511 [60, 61, 62] [] ?_ | refine dpy 9 511 [60, 61, 62] [] puI ?_); all_goals (first | refine dn 10 1023 [60, 61, 62] [] ?_ | refine dpy 10 1023 [60, 61, 62] [] puL ?_); all_goals (first | refine dn 11 2040 [57, 58, 59] [] ?_ | refine dpy 11 2040 [57, 58, 59] [] pu1 ?_); all_goals (first | refine dn 12 4081 [57, 58, 59] [] ?_ | refine dpy 12 4081 [57, 58, 59] [] puI ?_); all_goals (first | refine dn 13 8163 [57, 58, 59] [] ?_ | refine dpy 13 8163 [57, 58, 59] [] puL ?_); all_goals (first | refine dn 14 16383 [] [] ?_ | refine dpy 14 16383 [] [] (by first | exact a_ne rfl rfl | exact a_neS rfl rfl rfl) ?_); all_goals refine dp 15 32767 [] [] (a_pure (sv := .one _) rfl) ?_; all_goals (refine d_nil ?_; dsimp only [selT, selH, trues, SV.ren, C.ren, C.ren.all, tRen, GB.ren, calF, upOf, List.cons_append, List.nil_append, Nat.reduceAdd, setRow, List.map_cons, List.map_nil, scC, List.set_cons_zero, List.set_cons_succ, List.take_succ_cons, List.take_zero, List.drop_succ_cons, List.drop_zero]))); any_goals kernel_rfl)
                | (apply g_drN (id := 13) okM [[], [0], [0, 1], [0, 1, 2], [], [4], [4, 5], [0, 1, 2, 3, 4, 5, 6], [0, 1, 2, 3, 4, 5, 6, 7], [], [9], [9, 10], [9, 10, 11], [], [13], [13, 14], [9, 10, 11, 12, 13, 14, 15], [9, 10, 11, 12, 13, 14, 15, 16], [0, 1, 2, 3, 4, 5, 6, 7, 8, 9, 10, 11, 12, 13, 14, 15, 16, 17], [0, 1, 2, 3, 4, 5, 6, 7, 8, 9, 10, 11, 12, 13, 14, 15, 16, 17, 18]] [([], []), ([], []), ([], []), ([], []), ([], []), ([], []), ([], []), ([], []), ([], []), ([], []), ([], []), ([], []), ([], []), ([], []), ([], []), ([], []), ([], []), ([], []), ([], []), ([], [])] 0; (focus (all_goals refine dp 0 0 [69, 70, 71, 74, 75, 76, 77, 78, 79, 80, 81, 82] [] pu1 ?_; all_goals refine dp 1 1 [69, 70, 71, 74, 75, 76, 77, 78, 79, 80, 81, 82] [] (a_pure (sv := .one _) rfl) ?_; all_goals refine dp 2 3 [69, 70, 71, 74, 75, 76, 77, 78, 79, 80, 81, 82] [] (a_pure (sv := .one _) rfl) ?_; all_goals refine dp 3 7 [69, 70, 71, 74, 75, 76, 77, 78, 79, 80, 81, 82] [] puL ?_; all_goals refine dp 4 0 [65, 66, 67, 68, 74, 75, 76, 77, 78, 79, 80, 81, 82] [] pu1 ?_; all_goals refine dp 5 1 [65, 66, 67, 68, 74, 75, 76, 77, 78, 79, 80, 81, 82] [] puI ?_; all_goals refine dp 6 3 [65, 66, 67, 68, 74, 75, 76, 77, 78, 79, 80, 81, 82] [] puL ?_; all_goals refine dp 7 127 [74, 75, 76, 77, 78, 79, 80, 81, 82] [] puI ?_; all_goals refine dp 8 255 [74, 75, 76, 77, 78, 79, 80, 81, 82] [] puL ?_; all_goals refine dp 9 0 [65, 66, 67, 68, 69, 70, 71, 72, 73, 78, 79, 80] [] pu1 ?_; all_goals refine dp 10 1 [65, 66, 67, 68, 69, 70, 71, 72, 73, 78, 79, 80] [] (a_pure (sv := .one _) rfl) ?_; all_goals refine dp 11 3 [65, 66, 67, 68, 69, 70, 71, 72, 73, 78, 79, 80] [] (a_pure (sv := .one _) rfl) ?_; all_goals refine dp 12 7 [65, 66, 67, 68, 69, 70, 71, 72, 73, 78, 79, 80] [] puL ?_; all_goals refine dp 13 0 [65, 66, 67, 68, 69, 70, 71, 72, 73, 74, 75, 76, 77] [] pu1 ?_; all_goals refine dp 14 1 [65, 66, 67, 68, 69, 70, 71, 72, 73, 74, 75, 76, 77] [] puI ?_; all_goals refine dp 15 3 [65, 66, 67, 68, 69, 70, 71, 72, 73, 74, 75, 76, 77] [] puL ?_; all_goals refine dp 16 127 [65, 66, 67, 68, 69, 70, 71, 72, 73] [] puI ?_; all_goals refine dp 17 255 [65, 66, 67, 68, 69, 70, 71, 72, 73] [] puL ?_; all_goals refine dp 18 262143 [] [] (a_sub rfl rfl (by omega) (by omega)) ?_; all_goals refine dp 19 524287 [] [] pu1 ?_; all_goals (refine d_nil ?_; dsimp only [selT, selH, trues, SV.ren, C.ren, C.ren.all, tRen, GB.ren, calF, upOf, List.cons_append, List.nil_append, Nat.reduceAdd, setRow, List.map_cons, List.map_nil, scC, List.set_cons_zero, List.set_cons_succ, List.take_succ_cons, List.take_zero, List.drop_succ_cons, List.drop_zero]))); any_goals kernel_rfl)
                | (apply g_drN (id := 14) okM [[], [0], [0, 1], [0, 1, 2], [], [0, 1, 2, 3, 4], [], [6], [6, 7], [6, 7, 8], [], [6, 7, 8, 9, 10], [], [], [13], [13, 14], [13, 14, 15], [], [17], [17, 18], [], [20], [20, 21], [], [23], [23, 24], [13, 14, 15, 16, 17, 18, 19, 20, 21, 22, 23, 24, 25], [0, 1, 2, 3, 4, 5, 6, 7, 8, 9, 10, 11, 12, 13, 14, 15, 16, 17, 18, 19, 20, 21, 22, 23, 24, 25, 26]] [([], []), ([], []), ([], []), ([], []), ([], []), ([], []), ([], []), ([], []), ([], []), ([], []), ([], []), ([], []), ([], []), ([], []), ([], []), ([], []), ([], []), ([], []), ([], []), ([], []), ([], []), ([], []), ([], []), ([], []), ([], []), ([], []), ([], []), ([], [])] 0; (focus (all_goals refine dp 0 0 [88, 90, 91, 92, 93, 94, 95, 96, 97, 98, 99, 100, 101, 102, 103, 104, 105, 106, 107, 108, 109, 110] [] pu1 ?_; all_goals refine dp 1 1 [88, 90, 91, 92, 93, 94, 95, 96, 97, 98, 99, 100, 101, 102, 103, 104, 105, 106, 107, 108, 109, 110] [] (a_pure (sv := .one _) rfl) ?_; all_goals refine dp 2 3 [88, 90, 91, 92, 93, 94, 95, 96, 97, 98, 99, 100, 101, 102, 103, 104, 105, 106, 107, 108, 109, 110] [] (a_pure (sv := .one _) rfl) ?_; all_goals refine dp 3 7 [88, 90, 91, 92, 93, 94, 95, 96, 97, 98, 99, 100, 101, 102, 103, 104, 105, 106, 107, 108, 109, 110] [] puL ?_; all_goals refine dp 4 0 [84, 85, 86, 87, 90, 91, 92, 93, 94, 95, 96, 97, 98, 99, 100, 101, 102, 103, 104, 105, 106, 107, 108, 109, 110] [] pu1 ?_; all_goals refine dp 5 31 [90, 91, 92, 93, 94, 95, 96, 97, 98, 99, 100, 101, 102, 103, 104, 105, 106, 107, 108, 109, 110] [] puI ?_; all_goals refine dp 6 0 [84, 85, 86, 87, 88, 89, 94, 96, 97, 98, 99, 100, 101, 102, 103, 104, 105, 106, 107, 108, 109, 110] [] pu1 ?_; all_goals refine dp 7 1 [84, 85, 86, 87, 88, 89, 94, 96, 97, 98, 99, 100, 101, 102, 103, 104, 105, 106, 107, 108, 109, 110] [] (a_pure (sv := .one _) rfl) ?_; all_goals refine dp 8 3 [84, 85, 86, 87, 88, 89, 94, 96, 97, 98, 99, 100, 101, 102, 103, 104, 105, 106, 107, 108, 109, 110] [] (a_pure (sv := .one _) rfl) ?_; all_goals refine dp 9 7 [84, 85, 86, 87, 88, 89, 94, 96, 97, 98, 99, 100, 101, 102, 103, 104, 105, 106, 107, 108, 109, 110] [] puL ?_; all_goals refine dp 10 0 [84, 85, 86, 87, 88, 89, 90, 91, 92, 93, 96, 97, 98, 99, 100, 101, 102, 103, 104, 105, 106, 107, 108, 109, 110] [] pu1 ?_; all_goals refine dp 11 31 [84, 85, 86, 87, 88, 89, 96, 97, 98, 99, 100, 101, 102, 103, 104, 105, 106, 107, 108, 109, 110] [] puI ?_; all_goals refine dp 12 0 [84, 85, 86, 87, 88, 89, 90, 91, 92, 93, 94, 95, 97, 98, 99, 100, 101, 102, 103, 104, 105, 106, 107, 108, 109, 110] [] pu1 ?_; all_goals refine dp 13 0 [84, 85, 86, 87, 88, 89, 90, 91, 92, 93, 94, 95, 96, 101, 102, 103, 104, 105, 106, 107, 108, 109] [] pu1 ?_; all_goals refine dp 14 1 [84, 85, 86, 87, 88, 89, 90, 91, 92, 93, 94, 95, 96, 101, 102, 103, 104, 105, 106, 107, 108, 109] [] (a_pure (sv := .one _) rfl) ?_; all_goals refine dp 15 3 [84, 85, 86, 87, 88, 89, 90, 91, 92, 93, 94, 95, 96, 101, 102, 103, 104, 105, 106, 107, 108, 109] [] (a_pure (sv := .one _) rfl) ?_; all_goals refine dp 16 7 [84, 85, 86, 87, 88, 89, 90, 91, 92, 93, 94, 95, 96, 101, 102, 103, 104, 105, 106, 107, 108, 109] [] puL ?_; all_goals refine dp 17 0 [84, 85, 86, 87, 88, 89, 90, 91, 92, 93, 94, 95, 96, 97, 98, 99, 100, 104, 105, 106, 107, 108, 109] [] pu1 ?_; all_goals refine dp 18 1 [84, 85, 86, 87, 88, 89, 90, 91, 92, 93, 94, 95, 96, 97, 98, 99, 100, 104, 105, 106, 107, 108, 109] [] puI ?_; all_goals refine dp 19 3 [84, 85, 86, 87, 88, 89, 90, 91, 92, 93, 94, 95, 96, 97, 98, 99, 100, 104, 105, 106, 107, 108, 109] [] puL ?_; all_goals refine dp 20 0 [84, 85, 86, 87, 88, 89, 90, 91, 92, 93, 94, 95, 96, 97, 98, 99, 100, 101, 102, 103, 107, 108, 109] [] pu1 ?_; all_goals refine dp 21 1 [84, 85, 86, 87, 88, 89, 90, 91, 92, 93, 94, 95, 96, 97, 98, 99, 100, 101, 102, 103, 107, 108, 109] [] puI ?_; all_goals refine dp 22 3 [84, 85, 86, 87, 88, 89, 90, 91, 92, 93, 94, 95, 96, 97, 98, 99, 100, 101, 102, 103, 107, 108, 109] [] puL ?_; all_goals refine dp 23 0 [84, 85, 86, 87, 88, 89, 90, 91, 92, 93, 94, 95, 96, 97, 98, 99, 100, 101, 102, 103, 104, 105, 106] [] pu1 ?_; all_goals refine dp 24 1 [84, 85, 86, 87, 88, 89, 90, 91, 92, 93, 94, 95, 96, 97, 98, 99, 100, 101, 102, 103, 104, 105, 106] [] puI ?_; all_goals refine dp 25 3 [84, 85, 86, 87, 88, 89, 90, 91, 92, 93, 94, 95, 96, 97, 98, 99, 100, 101, 102, 103, 104, 105, 106] [] puL ?_; all_goals refine dp 26 8191 [84, 85, 86, 87, 88, 89, 90, 91, 92, 93, 94, 95, 96] [] (callD1 (n := _) 0 (θ := []) (hD := (l25Back_ok _ _ _ _ preB43 preB43 preB43 preB43 preB43 preB43))) ?_; all_goals refine dp 27 134217727 [] [] (callD1 (n := _) 0 (θ := []) (hD := (l25Again_ok _ _ _ _ preB43 preB43 preB43 preB43 preB43 preB43))) ?_; all_goals (refine d_nil ?_; dsimp only [selT, selH, trues, SV.ren, C.ren, C.ren.all, tRen, GB.ren, calF, upOf, List.cons_append, List.nil_append, Nat.reduceAdd, setRow, List.map_cons, List.map_nil, scC, List.set_cons_zero, List.set_cons_succ, List.take_succ_cons, List.take_zero, List.drop_succ_cons, List.drop_zero]))); any_goals kernel_rfl)
                | (apply g_drN (id := 15) okM [[], [0], [0, 1], [], [3], [3, 4], [], [6], [6, 7], [3, 4, 5, 6, 7, 8], [], [0, 1, 2, 3, 4, 5, 6, 7, 8, 9, 10], [0, 1, 2, 3, 4, 5, 6, 7, 8, 9, 10, 11], [0, 1, 2, 3, 4, 5, 6, 7, 8, 9, 10, 11, 12], [0, 1, 2, 3, 4, 5, 6, 7, 8, 9, 10, 11, 12, 13]] [([], []), ([], []), ([], []), ([], []), ([], []), ([], []), ([], []), ([], []), ([], []), ([], []), ([], []), ([0], []), ([1], [_]), ([], [0]), ([], [])] 2; (focus (all_goals refine dp 0 0 [115, 116, 117, 118, 119, 120, 121, 122] [] pu1 ?_; all_goals refine dp 1 1 [115, 116, 117, 118, 119, 120, 121, 122] [] puI ?_; all_goals refine dp 2 3 [115, 116, 117, 118, 119, 120, 121, 122] [] puL ?_; all_goals refine dp 3 0 [112, 113, 114, 118, 119, 120, 122] [] pu1 ?_; all_goals refine dp 4 1 [112, 113, 114, 118, 119, 120, 122] [] puI ?_; all_goals refine dp 5 3 [112, 113, 114, 118, 119, 120, 122] [] puL ?_; all_goals refine dp 6 0 [112, 113, 114, 115, 116, 117, 122] [] pu1 ?_; all_goals refine dp 7 1 [112, 113, 114, 115, 116, 117, 122] [] puI ?_; all_goals refine dp 8 3 [112, 113, 114, 115, 116, 117, 122] [] puL ?_; all_goals refine dp 9 63 [112, 113, 114, 122] [] (a_sub rfl rfl (by omega) (by omega)) ?_; all_goals refine dp 10 0 [112, 113, 114, 115, 116, 117, 118, 119, 120, 121] [] pu1 ?_; all_goals refine duE 11 2047 [] [] (atN 0 (fun _ => a_litE eI [_, _, _] rfl rfl rfl rfl rfl rfl rfl rfl)) (by exact rfl) (by exact rfl) ?_; all_goals refine duN 12 4095 [] [] (callD1 (n := _) 1 (θ := [_]) (hD := (l25Made_ok _ _))) (by exact rfl) (by exact rfl) ?_; all_goals refine duE 13 8191 [] [] (by first | exact a_st_bx rfl rfl rfl rfl (fN rfl rfl) (Nat.le_of_ble_eq_true rfl) rfl | exact a_stF (E := eCf) ⟨_, _, _⟩ rfl rfl rfl rfl (fN rfl rfl) (Nat.le_of_ble_eq_true rfl) (Nat.le_of_ble_eq_true rfl) (by first | exact List.getElem?_set_self bnd | exact List.getElem?_eq_getElem bnd) (by (try dsimp only [setRow, List.set_cons_succ, List.set_cons_zero]); first | done | exact rfl) rfl) (by exact rfl) (by exact rfl) ?_; all_goals refine dp 14 16383 [] [] (a_pure (sv := .one _) rfl) ?_; all_goals (refine d_nil ?_; dsimp only [selT, selH, trues, SV.ren, C.ren, C.ren.all, tRen, GB.ren, calF, upOf, List.cons_append, List.nil_append, Nat.reduceAdd, setRow, List.map_cons, List.map_nil, scC, List.set_cons_zero, List.set_cons_succ, List.take_succ_cons, List.take_zero, List.drop_succ_cons, List.drop_zero]))); any_goals kernel_rfl)
                | (refine o_gs rfl rfl (fun hc => ?_) (fun hc => ?_) <;> (try simp only [decide_eq_true_eq, decide_eq_false_iff_not, Bool.not_eq_true', Bool.not_eq_false', Bool.not_eq_true, Bool.not_eq_false, Bool.and_eq_true, Bool.or_eq_false_iff, Bool.not_not] at hc) <;> (try (first | contradiction | (exfalso; omega))))
                | (refine g_cond rfl (fun hc => ?_) (fun hc => ?_) <;> (try simp only [decide_eq_true_eq, decide_eq_false_iff_not, Bool.not_eq_true', Bool.not_eq_false', Bool.not_eq_true, Bool.not_eq_false, Bool.and_eq_true, Bool.or_eq_false_iff, Bool.not_not] at hc) <;> (try (first | contradiction | (exfalso; omega))))
              rw [if_neg (by rw [hh2]; simp)] at j3
              refine q_again (i - 1) [0, 1, 2, 3, 4] (by exact stk) ?_ ?_
              · exact ⟨by omega, by omega, by rw [show (i - 1 + 1).toNat = i.toNat by omega]; exact j3⟩
              · omega
            · have s1 : a.sd = e.sd := by assumption
              have s2 : a.c.st = e.c.st := by assumption
              have hb : ∀ p ∈ O.x.pos, -20001 ≤ p ∧ p ≤ 20001 := fun p hp => by have := hq.bd p hp; have := hq.lo; have := hq.hi; omega
              have b1 := hb _ (posAt_mem hr.1.1 hr.1.2)
              have b2 := hb _ (posAt_mem ha.1.1 ha.1.2)
              have q1 : 0 ≤ ([e.n, e.sd, e.c.st] : List Int)[Int.toNat 0]'(by simp) ∧ ([e.n, e.sd, e.c.st] : List Int)[Int.toNat 0]'(by simp) < O.x.pos.length := hr.1
              have q2 : 0 ≤ ([a.n, a.sd, a.c.st] : List Int)[Int.toNat 0]'(by simp) ∧ ([a.n, a.sd, a.c.st] : List Int)[Int.toNat 0]'(by simp) < O.x.pos.length := ha.1
              have g1 : ∀ h, O.x.pos[(([e.n, e.sd, e.c.st] : List Int)[Int.toNat 0]'(by simp)).toNat]'h = posAt O.x.pos e.n := fun h => posAt_get h
              have g2 : ∀ h, O.x.pos[(([a.n, a.sd, a.c.st] : List Int)[Int.toNat 0]'(by simp)).toNat]'h = posAt O.x.pos a.n := fun h => posAt_get h
              have b3 := b1
              have b4 := b2
              rw [← g1 (by omega)] at b3
              rw [← g2 (by omega)] at b4
              have hd : (a.sd = 1 ∧ 0 < posAt O.x.pos e.n - posAt O.x.pos a.n) ∨ (a.sd = -1 ∧ posAt O.x.pos e.n - posAt O.x.pos a.n < 0) := by
                rcases ha.2.1 with e1 | e1
                · exact .inl ⟨e1, by have := hpw.2.1 e1 (by omega); omega⟩
                · exact .inr ⟨e1, by have := hpw.2.2 e1 (by omega); omega⟩
              have hbb := back_behind ha.1.1 (show a.n ≤ e.n by omega) hr.1.2 hd
              have b5 := behind_bd (l := (O.x.pos.drop a.n.toNat).take ((e.n + 1).toNat - a.n.toNat)) (d := posAt O.x.pos e.n - posAt O.x.pos a.n) (by rw [part_len (by omega) (by omega) (by omega)]; omega) fun p hp => hb p (part_mem hp)
              rw [← hbb] at b5
              repeat' first
                | refine g_seq ?_
                | refine g_skip ?_
                | refine g_exit ?_
                | refine g_block ?_
                | refine g_reg (id := 8) ?_
                | refine g_reg (id := 10) ?_
                | refine g_reg (id := 11) ?_
                | refine g_reg (id := 6) ?_
                | refine g_reg (id := 16) ?_
                | refine g_reg (id := 17) ?_
                | refine g_reg (id := 18) ?_
                | refine g_if_t rfl ?_
                | refine g_if_f rfl ?_
                | refine o_nil ?_
                | refine q_s ?_
                | refine q_se ?_
                | refine q_b ?_
                | refine q_be rfl ?_
                | refine q_bn rfl ?_
                | refine q_le ?_
                | refine q_ce ?_
                | (apply p3; (first | exact pu1 | exact puL | exact puC | exact a_add rfl rfl (by omega) (by omega) | exact puI); exact rfl)
                | (apply w3; (first | exact a_st_bx rfl rfl rfl rfl (fN rfl rfl) (Nat.le_of_ble_eq_true rfl) rfl | exact a_stF (E := eCf) ⟨_, _, _⟩ rfl rfl rfl rfl (fN rfl rfl) (Nat.le_of_ble_eq_true rfl) (Nat.le_of_ble_eq_true rfl) (by first | exact List.getElem?_set_self bnd | exact List.getElem?_eq_getElem bnd) (by (try dsimp only [setRow, List.set_cons_succ, List.set_cons_zero]); first | done | exact rfl) rfl); exact rfl; (try dsimp only [setRow, List.map_cons, List.map_nil, scC, List.set_cons_zero, List.set_cons_succ, List.take_succ_cons, List.take_zero, List.drop_succ_cons, List.drop_zero, Nat.reduceAdd]))
                | (apply g_drN (id := 12) okM [[], [0], [0, 1], [], [3], [3, 4], [0, 1, 2, 3, 4, 5], [0, 1, 2, 3, 4, 5, 6], [0, 1, 2, 3, 4, 5, 6, 7], [0, 1, 2, 3, 4, 5, 6, 7, 8], [0, 1, 2, 3, 4, 5, 6, 7, 8, 9], [0, 1, 2, 3, 4, 5, 6, 7], [0, 1, 2, 3, 4, 5, 6, 7, 11], [0, 1, 2, 3, 4, 5, 6, 7, 11, 12], [0, 1, 2, 3, 4, 5, 6, 7, 8, 9, 10, 11, 12, 13], [0, 1, 2, 3, 4, 5, 6, 7, 8, 9, 10, 11, 12, 13, 14]] [([], []), ([], []), ([], []), ([], []), ([], []), ([], []), ([], []), ([], []), ([], []), ([], []), ([], []), ([], []), ([], []), ([], []), ([], []), ([], [])] 0; (focus (all_goals refine dp 0 0 [52, 53, 54] [] pu1 ?_; all_goals refine dp 1 1 [52, 53, 54] [] puI ?_; all_goals refine dp 2 3 [52, 53, 54] [] puL ?_; all_goals refine dp 3 0 [49, 50, 51] [] pu1 ?_; all_goals refine dp 4 1 [49, 50, 51] [] puI ?_; all_goals refine dp 5 3 [49, 50, 51] [] puL ?_; all_goals refine dp 6 63 [] [] (by first | exact a_ne rfl rfl | exact a_neS rfl rfl rfl) ?_; all_goals (refine db 7 127 [] [] pu1 ?_ ?_ <;> (intro hc; first | cases hc | (try simp only [decide_eq_true_eq, decide_eq_false_iff_not, Bool.not_eq_true', Bool.not_eq_false', Bool.not_eq_true, Bool.not_eq_false, Bool.and_eq_true, Bool.or_eq_false_iff, Bool.not_not] at hc); first | contradiction | (exfalso; omega) | skip)); all_goals (first | refine dn 8 255 [60, 61, 62] [] ?_ | refine dpy 8 255 [60, 61, 62] [] pu1 ?_); all_goals (first | refine dn 9 511 [60, 61, 62] [] ?_ | refine dpy 9 511 [60, 61, 62] [] puI ?_); all_goals (first | refine dn 10 1023 [60, 61, 62] [] ?_ | refine dpy 10 1023 [60, 61, 62] [] puL ?_); all_goals (first | refine dn 11 2040 [57, 58, 59] [] ?_ | refine dpy 11 2040 [57, 58, 59] [] pu1 ?_); all_goals (first | refine dn 12 4081 [57, 58, 59] [] ?_ | refine dpy 12 4081 [57, 58, 59] [] puI ?_); all_goals (first | refine dn 13 8163 [57, 58, 59] [] ?_ | refine dpy 13 8163 [57, 58, 59] [] puL ?_); all_goals (first | refine dn 14 16383 [] [] ?_ | refine dpy 14 16383 [] [] (by first | exact a_ne rfl rfl | exact a_neS rfl rfl rfl) ?_); all_goals refine dp 15 32767 [] [] (a_pure (sv := .one _) rfl) ?_; all_goals (refine d_nil ?_; dsimp only [selT, selH, trues, SV.ren, C.ren, C.ren.all, tRen, GB.ren, calF, upOf, List.cons_append, List.nil_append, Nat.reduceAdd, setRow, List.map_cons, List.map_nil, scC, List.set_cons_zero, List.set_cons_succ, List.take_succ_cons, List.take_zero, List.drop_succ_cons, List.drop_zero]))); any_goals kernel_rfl)
                | (apply g_drN (id := 13) okM [[], [0], [0, 1], [0, 1, 2], [], [4], [4, 5], [0, 1, 2, 3, 4, 5, 6], [0, 1, 2, 3, 4, 5, 6, 7], [], [9], [9, 10], [9, 10, 11], [], [13], [13, 14], [9, 10, 11, 12, 13, 14, 15], [9, 10, 11, 12, 13, 14, 15, 16], [0, 1, 2, 3, 4, 5, 6, 7, 8, 9, 10, 11, 12, 13, 14, 15, 16, 17], [0, 1, 2, 3, 4, 5, 6, 7, 8, 9, 10, 11, 12, 13, 14, 15, 16, 17, 18]] [([], []), ([], []), ([], []), ([], []), ([], []), ([], []), ([], []), ([], []), ([], []), ([], []), ([], []), ([], []), ([], []), ([], []), ([], []), ([], []), ([], []), ([], []), ([], []), ([], [])] 0; (focus (all_goals refine dp 0 0 [69, 70, 71, 74, 75, 76, 77, 78, 79, 80, 81, 82] [] pu1 ?_; all_goals refine dp 1 1 [69, 70, 71, 74, 75, 76, 77, 78, 79, 80, 81, 82] [] (a_pure (sv := .one _) rfl) ?_; all_goals refine dp 2 3 [69, 70, 71, 74, 75, 76, 77, 78, 79, 80, 81, 82] [] (a_pure (sv := .one _) rfl) ?_; all_goals refine dp 3 7 [69, 70, 71, 74, 75, 76, 77, 78, 79, 80, 81, 82] [] puL ?_; all_goals refine dp 4 0 [65, 66, 67, 68, 74, 75, 76, 77, 78, 79, 80, 81, 82] [] pu1 ?_; all_goals refine dp 5 1 [65, 66, 67, 68, 74, 75, 76, 77, 78, 79, 80, 81, 82] [] puI ?_; all_goals refine dp 6 3 [65, 66, 67, 68, 74, 75, 76, 77, 78, 79, 80, 81, 82] [] puL ?_; all_goals refine dp 7 127 [74, 75, 76, 77, 78, 79, 80, 81, 82] [] puI ?_; all_goals refine dp 8 255 [74, 75, 76, 77, 78, 79, 80, 81, 82] [] puL ?_; all_goals refine dp 9 0 [65, 66, 67, 68, 69, 70, 71, 72, 73, 78, 79, 80] [] pu1 ?_; all_goals refine dp 10 1 [65, 66, 67, 68, 69, 70, 71, 72, 73, 78, 79, 80] [] (a_pure (sv := .one _) rfl) ?_; all_goals refine dp 11 3 [65, 66, 67, 68, 69, 70, 71, 72, 73, 78, 79, 80] [] (a_pure (sv := .one _) rfl) ?_; all_goals refine dp 12 7 [65, 66, 67, 68, 69, 70, 71, 72, 73, 78, 79, 80] [] puL ?_; all_goals refine dp 13 0 [65, 66, 67, 68, 69, 70, 71, 72, 73, 74, 75, 76, 77] [] pu1 ?_; all_goals refine dp 14 1 [65, 66, 67, 68, 69, 70, 71, 72, 73, 74, 75, 76, 77] [] puI ?_; all_goals refine dp 15 3 [65, 66, 67, 68, 69, 70, 71, 72, 73, 74, 75, 76, 77] [] puL ?_; all_goals refine dp 16 127 [65, 66, 67, 68, 69, 70, 71, 72, 73] [] puI ?_; all_goals refine dp 17 255 [65, 66, 67, 68, 69, 70, 71, 72, 73] [] puL ?_; all_goals refine dp 18 262143 [] [] (a_sub rfl rfl (by omega) (by omega)) ?_; all_goals refine dp 19 524287 [] [] pu1 ?_; all_goals (refine d_nil ?_; dsimp only [selT, selH, trues, SV.ren, C.ren, C.ren.all, tRen, GB.ren, calF, upOf, List.cons_append, List.nil_append, Nat.reduceAdd, setRow, List.map_cons, List.map_nil, scC, List.set_cons_zero, List.set_cons_succ, List.take_succ_cons, List.take_zero, List.drop_succ_cons, List.drop_zero]))); any_goals kernel_rfl)
                | (refine o_gs rfl rfl (fun hc => ?_) (fun hc => ?_) <;> (try simp only [decide_eq_true_eq, decide_eq_false_iff_not, Bool.not_eq_true', Bool.not_eq_false', Bool.not_eq_true, Bool.not_eq_false, Bool.and_eq_true, Bool.or_eq_false_iff, Bool.not_not] at hc) <;> (try (first | contradiction | (exfalso; omega))))
                | (refine g_cond rfl (fun hc => ?_) (fun hc => ?_) <;> (try simp only [decide_eq_true_eq, decide_eq_false_iff_not, Bool.not_eq_true', Bool.not_eq_false', Bool.not_eq_true, Bool.not_eq_false, Bool.and_eq_true, Bool.or_eq_false_iff, Bool.not_not] at hc) <;> (try (first | contradiction | (exfalso; omega))))
              simp only [g1, g2]
              have z1 : i.toNat < (recC O.x.rcs).length := by omega
              have z2 : k.toNat < (recC O.x.rcs).length := by omega
              have y1 : ((((recC O.x.rcs)[i.toNat]'(by omega)).le.length : Nat) : Int) ≤ 16777216 := by rw [hca]; omega
              have y2 : ((((recC O.x.rcs)[i.toNat]'(by omega)).ri.length : Nat) : Int) ≤ 16777216 := by rw [hca]; omega
              have y3 : ((((recC O.x.rcs)[k.toNat]'(by omega)).le.length : Nat) : Int) ≤ 16777216 := by rw [hce]; omega
              have y4 : ((((recC O.x.rcs)[k.toNat]'(by omega)).ri.length : Nat) : Int) ≤ 16777216 := by rw [hce]; omega
              have hdn : posAt O.x.pos e.n - posAt O.x.pos a.n ≠ 0 := by omega
              have hht : (decide (posAt O.x.pos e.n - posAt O.x.pos a.n ≠ 0) && fits a.c e.c (posAt O.x.pos e.n - posAt O.x.pos a.n) (backF O.x.pos a.n e.n a.sd)) = hitS O.x.pos a e := by
                unfold hitS
                rw [decide_eq_true hdn, decide_eq_true s1, decide_eq_true s2, hbb]
                rfl
              repeat' first
                | refine g_seq ?_
                | refine g_skip ?_
                | refine g_exit ?_
                | refine g_block ?_
                | refine g_reg (id := 8) ?_
                | refine g_reg (id := 10) ?_
                | refine g_reg (id := 11) ?_
                | refine g_reg (id := 6) ?_
                | refine g_reg (id := 16) ?_
                | refine g_reg (id := 17) ?_
                | refine g_reg (id := 18) ?_
                | refine g_if_t rfl ?_
                | refine g_if_f rfl ?_
                | refine o_nil ?_
                | refine q_s ?_
                | refine q_se ?_
                | refine q_b ?_
                | refine q_be rfl ?_
                | refine q_bn rfl ?_
                | refine q_le ?_
                | refine q_ce ?_
                | (apply p3; (first | exact pu1 | exact puL | exact puC | exact a_add rfl rfl (by omega) (by omega) | exact puI); exact rfl)
                | (apply w3; (first | exact a_st_bx rfl rfl rfl rfl (fN rfl rfl) (Nat.le_of_ble_eq_true rfl) rfl | exact a_stF (E := eCf) ⟨_, _, _⟩ rfl rfl rfl rfl (fN rfl rfl) (Nat.le_of_ble_eq_true rfl) (Nat.le_of_ble_eq_true rfl) (by first | exact List.getElem?_set_self bnd | exact List.getElem?_eq_getElem bnd) (by (try dsimp only [setRow, List.set_cons_succ, List.set_cons_zero]); first | done | exact rfl) rfl); exact rfl; (try dsimp only [setRow, List.map_cons, List.map_nil, scC, List.set_cons_zero, List.set_cons_succ, List.take_succ_cons, List.take_zero, List.drop_succ_cons, List.drop_zero, Nat.reduceAdd]))
                | (apply g_drN (id := 12) okM [[], [0], [0, 1], [], [3], [3, 4], [0, 1, 2, 3, 4, 5], [0, 1, 2, 3, 4, 5, 6], [0, 1, 2, 3, 4, 5, 6, 7], [0, 1, 2, 3, 4, 5, 6, 7, 8], [0, 1, 2, 3, 4, 5, 6, 7, 8, 9], [0, 1, 2, 3, 4, 5, 6, 7], [0, 1, 2, 3, 4, 5, 6, 7, 11], [0, 1, 2, 3, 4, 5, 6, 7, 11, 12], [0, 1, 2, 3, 4, 5, 6, 7, 8, 9, 10, 11, 12, 13], [0, 1, 2, 3, 4, 5, 6, 7, 8, 9, 10, 11, 12, 13, 14]] [([], []), ([], []), ([], []), ([], []), ([], []), ([], []), ([], []), ([], []), ([], []), ([], []), ([], []), ([], []), ([], []), ([], []), ([], []), ([], [])] 0; (focus (all_goals refine dp 0 0 [52, 53, 54] [] pu1 ?_; all_goals refine dp 1 1 [52, 53, 54] [] puI ?_; all_goals refine dp 2 3 [52, 53, 54] [] puL ?_; all_goals refine dp 3 0 [49, 50, 51] [] pu1 ?_; all_goals refine dp 4 1 [49, 50, 51] [] puI ?_; all_goals refine dp 5 3 [49, 50, 51] [] puL ?_; all_goals refine dp 6 63 [] [] (by first | exact a_ne rfl rfl | exact a_neS rfl rfl rfl) ?_; all_goals (refine db 7 127 [] [] pu1 ?_ ?_ <;> (intro hc; first | cases hc | (try simp only [decide_eq_true_eq, decide_eq_false_iff_not, Bool.not_eq_true', Bool.not_eq_false', Bool.not_eq_true, Bool.not_eq_false, Bool.and_eq_true, Bool.or_eq_false_iff, Bool.not_not] at hc); first | contradiction | (exfalso; omega) | skip)); all_goals (first | refine dn 8 255 [60, 61, 62] [] ?_ | refine dpy 8 255 [60, 61, 62] [] pu1 ?_); all_goals (first | refine dn 9 511 [60, 61, 62] [] ?_ | refine dpy 9 511 [60, 61, 62] [] puI ?_); all_goals (first | refine dn 10 1023 [60, 61, 62] [] ?_ | refine dpy 10 1023 [60, 61, 62] [] puL ?_); all_goals (first | refine dn 11 2040 [57, 58, 59] [] ?_ | refine dpy 11 2040 [57, 58, 59] [] pu1 ?_); all_goals (first | refine dn 12 4081 [57, 58, 59] [] ?_ | refine dpy 12 4081 [57, 58, 59] [] puI ?_); all_goals (first | refine dn 13 8163 [57, 58, 59] [] ?_ | refine dpy 13 8163 [57, 58, 59] [] puL ?_); all_goals (first | refine dn 14 16383 [] [] ?_ | refine dpy 14 16383 [] [] (by first | exact a_ne rfl rfl | exact a_neS rfl rfl rfl) ?_); all_goals refine dp 15 32767 [] [] (a_pure (sv := .one _) rfl) ?_; all_goals (refine d_nil ?_; dsimp only [selT, selH, trues, SV.ren, C.ren, C.ren.all, tRen, GB.ren, calF, upOf, List.cons_append, List.nil_append, Nat.reduceAdd, setRow, List.map_cons, List.map_nil, scC, List.set_cons_zero, List.set_cons_succ, List.take_succ_cons, List.take_zero, List.drop_succ_cons, List.drop_zero]))); any_goals kernel_rfl)
                | (apply g_drN (id := 13) okM [[], [0], [0, 1], [0, 1, 2], [], [4], [4, 5], [0, 1, 2, 3, 4, 5, 6], [0, 1, 2, 3, 4, 5, 6, 7], [], [9], [9, 10], [9, 10, 11], [], [13], [13, 14], [9, 10, 11, 12, 13, 14, 15], [9, 10, 11, 12, 13, 14, 15, 16], [0, 1, 2, 3, 4, 5, 6, 7, 8, 9, 10, 11, 12, 13, 14, 15, 16, 17], [0, 1, 2, 3, 4, 5, 6, 7, 8, 9, 10, 11, 12, 13, 14, 15, 16, 17, 18]] [([], []), ([], []), ([], []), ([], []), ([], []), ([], []), ([], []), ([], []), ([], []), ([], []), ([], []), ([], []), ([], []), ([], []), ([], []), ([], []), ([], []), ([], []), ([], []), ([], [])] 0; (focus (all_goals refine dp 0 0 [69, 70, 71, 74, 75, 76, 77, 78, 79, 80, 81, 82] [] pu1 ?_; all_goals refine dp 1 1 [69, 70, 71, 74, 75, 76, 77, 78, 79, 80, 81, 82] [] (a_pure (sv := .one _) rfl) ?_; all_goals refine dp 2 3 [69, 70, 71, 74, 75, 76, 77, 78, 79, 80, 81, 82] [] (a_pure (sv := .one _) rfl) ?_; all_goals refine dp 3 7 [69, 70, 71, 74, 75, 76, 77, 78, 79, 80, 81, 82] [] puL ?_; all_goals refine dp 4 0 [65, 66, 67, 68, 74, 75, 76, 77, 78, 79, 80, 81, 82] [] pu1 ?_; all_goals refine dp 5 1 [65, 66, 67, 68, 74, 75, 76, 77, 78, 79, 80, 81, 82] [] puI ?_; all_goals refine dp 6 3 [65, 66, 67, 68, 74, 75, 76, 77, 78, 79, 80, 81, 82] [] puL ?_; all_goals refine dp 7 127 [74, 75, 76, 77, 78, 79, 80, 81, 82] [] puI ?_; all_goals refine dp 8 255 [74, 75, 76, 77, 78, 79, 80, 81, 82] [] puL ?_; all_goals refine dp 9 0 [65, 66, 67, 68, 69, 70, 71, 72, 73, 78, 79, 80] [] pu1 ?_; all_goals refine dp 10 1 [65, 66, 67, 68, 69, 70, 71, 72, 73, 78, 79, 80] [] (a_pure (sv := .one _) rfl) ?_; all_goals refine dp 11 3 [65, 66, 67, 68, 69, 70, 71, 72, 73, 78, 79, 80] [] (a_pure (sv := .one _) rfl) ?_; all_goals refine dp 12 7 [65, 66, 67, 68, 69, 70, 71, 72, 73, 78, 79, 80] [] puL ?_; all_goals refine dp 13 0 [65, 66, 67, 68, 69, 70, 71, 72, 73, 74, 75, 76, 77] [] pu1 ?_; all_goals refine dp 14 1 [65, 66, 67, 68, 69, 70, 71, 72, 73, 74, 75, 76, 77] [] puI ?_; all_goals refine dp 15 3 [65, 66, 67, 68, 69, 70, 71, 72, 73, 74, 75, 76, 77] [] puL ?_; all_goals refine dp 16 127 [65, 66, 67, 68, 69, 70, 71, 72, 73] [] puI ?_; all_goals refine dp 17 255 [65, 66, 67, 68, 69, 70, 71, 72, 73] [] puL ?_; all_goals refine dp 18 262143 [] [] (a_sub rfl rfl (by omega) (by omega)) ?_; all_goals refine dp 19 524287 [] [] pu1 ?_; all_goals (refine d_nil ?_; dsimp only [selT, selH, trues, SV.ren, C.ren, C.ren.all, tRen, GB.ren, calF, upOf, List.cons_append, List.nil_append, Nat.reduceAdd, setRow, List.map_cons, List.map_nil, scC, List.set_cons_zero, List.set_cons_succ, List.take_succ_cons, List.take_zero, List.drop_succ_cons, List.drop_zero]))); any_goals kernel_rfl)
                | (apply g_drN (id := 14) okM [[], [0], [0, 1], [0, 1, 2], [], [0, 1, 2, 3, 4], [], [6], [6, 7], [6, 7, 8], [], [6, 7, 8, 9, 10], [], [], [13], [13, 14], [13, 14, 15], [], [17], [17, 18], [], [20], [20, 21], [], [23], [23, 24], [13, 14, 15, 16, 17, 18, 19, 20, 21, 22, 23, 24, 25], [0, 1, 2, 3, 4, 5, 6, 7, 8, 9, 10, 11, 12, 13, 14, 15, 16, 17, 18, 19, 20, 21, 22, 23, 24, 25, 26]] [([], []), ([], []), ([], []), ([], []), ([], []), ([], []), ([], []), ([], []), ([], []), ([], []), ([], []), ([], []), ([], []), ([], []), ([], []), ([], []), ([], []), ([], []), ([], []), ([], []), ([], []), ([], []), ([], []), ([], []), ([], []), ([], []), ([], []), ([], [])] 0; (focus (all_goals refine dp 0 0 [88, 90, 91, 92, 93, 94, 95, 96, 97, 98, 99, 100, 101, 102, 103, 104, 105, 106, 107, 108, 109, 110] [] pu1 ?_; all_goals refine dp 1 1 [88, 90, 91, 92, 93, 94, 95, 96, 97, 98, 99, 100, 101, 102, 103, 104, 105, 106, 107, 108, 109, 110] [] (a_pure (sv := .one _) rfl) ?_; all_goals refine dp 2 3 [88, 90, 91, 92, 93, 94, 95, 96, 97, 98, 99, 100, 101, 102, 103, 104, 105, 106, 107, 108, 109, 110] [] (a_pure (sv := .one _) rfl) ?_; all_goals refine dp 3 7 [88, 90, 91, 92, 93, 94, 95, 96, 97, 98, 99, 100, 101, 102, 103, 104, 105, 106, 107, 108, 109, 110] [] puL ?_; all_goals refine dp 4 0 [84, 85, 86, 87, 90, 91, 92, 93, 94, 95, 96, 97, 98, 99, 100, 101, 102, 103, 104, 105, 106, 107, 108, 109, 110] [] pu1 ?_; all_goals refine dp 5 31 [90, 91, 92, 93, 94, 95, 96, 97, 98, 99, 100, 101, 102, 103, 104, 105, 106, 107, 108, 109, 110] [] puI ?_; all_goals refine dp 6 0 [84, 85, 86, 87, 88, 89, 94, 96, 97, 98, 99, 100, 101, 102, 103, 104, 105, 106, 107, 108, 109, 110] [] pu1 ?_; all_goals refine dp 7 1 [84, 85, 86, 87, 88, 89, 94, 96, 97, 98, 99, 100, 101, 102, 103, 104, 105, 106, 107, 108, 109, 110] [] (a_pure (sv := .one _) rfl) ?_; all_goals refine dp 8 3 [84, 85, 86, 87, 88, 89, 94, 96, 97, 98, 99, 100, 101, 102, 103, 104, 105, 106, 107, 108, 109, 110] [] (a_pure (sv := .one _) rfl) ?_; all_goals refine dp 9 7 [84, 85, 86, 87, 88, 89, 94, 96, 97, 98, 99, 100, 101, 102, 103, 104, 105, 106, 107, 108, 109, 110] [] puL ?_; all_goals refine dp 10 0 [84, 85, 86, 87, 88, 89, 90, 91, 92, 93, 96, 97, 98, 99, 100, 101, 102, 103, 104, 105, 106, 107, 108, 109, 110] [] pu1 ?_; all_goals refine dp 11 31 [84, 85, 86, 87, 88, 89, 96, 97, 98, 99, 100, 101, 102, 103, 104, 105, 106, 107, 108, 109, 110] [] puI ?_; all_goals refine dp 12 0 [84, 85, 86, 87, 88, 89, 90, 91, 92, 93, 94, 95, 97, 98, 99, 100, 101, 102, 103, 104, 105, 106, 107, 108, 109, 110] [] pu1 ?_; all_goals refine dp 13 0 [84, 85, 86, 87, 88, 89, 90, 91, 92, 93, 94, 95, 96, 101, 102, 103, 104, 105, 106, 107, 108, 109] [] pu1 ?_; all_goals refine dp 14 1 [84, 85, 86, 87, 88, 89, 90, 91, 92, 93, 94, 95, 96, 101, 102, 103, 104, 105, 106, 107, 108, 109] [] (a_pure (sv := .one _) rfl) ?_; all_goals refine dp 15 3 [84, 85, 86, 87, 88, 89, 90, 91, 92, 93, 94, 95, 96, 101, 102, 103, 104, 105, 106, 107, 108, 109] [] (a_pure (sv := .one _) rfl) ?_; all_goals refine dp 16 7 [84, 85, 86, 87, 88, 89, 90, 91, 92, 93, 94, 95, 96, 101, 102, 103, 104, 105, 106, 107, 108, 109] [] puL ?_; all_goals refine dp 17 0 [84, 85, 86, 87, 88, 89, 90, 91, 92, 93, 94, 95, 96, 97, 98, 99, 100, 104, 105, 106, 107, 108, 109] [] pu1 ?_; all_goals refine dp 18 1 [84, 85, 86, 87, 88, 89, 90, 91, 92, 93, 94, 95, 96, 97, 98, 99, 100, 104, 105, 106, 107, 108, 109] [] puI ?_; all_goals refine dp 19 3 [84, 85, 86, 87, 88, 89, 90, 91, 92, 93, 94, 95, 96, 97, 98, 99, 100, 104, 105, 106, 107, 108, 109] [] puL ?_; all_goals refine dp 20 0 [84, 85, 86, 87, 88, 89, 90, 91, 92, 93, 94, 95, 96, 97, 98, 99, 100, 101, 102, 103, 107, 108, 109] [] pu1 ?_; all_goals refine dp 21 1 [84, 85, 86, 87, 88, 89, 90, 91, 92, 93, 94, 95, 96, 97, 98, 99, 100, 101, 102, 103, 107, 108, 109] [] puI ?_; all_goals refine dp 22 3 [84, 85, 86, 87, 88, 89, 90, 91, 92, 93, 94, 95, 96, 97, 98, 99, 100, 101, 102, 103, 107, 108, 109] [] puL ?_; all_goals refine dp 23 0 [84, 85, 86, 87, 88, 89, 90, 91, 92, 93, 94, 95, 96, 97, 98, 99, 100, 101, 102, 103, 104, 105, 106] [] pu1 ?_; all_goals refine dp 24 1 [84, 85, 86, 87, 88, 89, 90, 91, 92, 93, 94, 95, 96, 97, 98, 99, 100, 101, 102, 103, 104, 105, 106] [] puI ?_; all_goals refine dp 25 3 [84, 85, 86, 87, 88, 89, 90, 91, 92, 93, 94, 95, 96, 97, 98, 99, 100, 101, 102, 103, 104, 105, 106] [] puL ?_; all_goals refine dp 26 8191 [84, 85, 86, 87, 88, 89, 90, 91, 92, 93, 94, 95, 96] [] (callD1 (n := _) 0 (θ := []) (hD := (l25Back_ok O.x.pos a.n e.n a.sd (by omega) (by omega) (by omega) (by omega) (by omega) hb))) ?_; all_goals refine dp 27 134217727 [] [] (callD1 (n := _) 0 (θ := []) (hD := (l25Again_ok ((recC O.x.rcs)[i.toNat]'z1) ((recC O.x.rcs)[k.toNat]'z2) (posAt O.x.pos e.n - posAt O.x.pos a.n) (backF O.x.pos a.n e.n a.sd) y1 y2 y3 y4 (by omega) (by omega)))) ?_; all_goals (refine d_nil ?_; dsimp only [selT, selH, trues, SV.ren, C.ren, C.ren.all, tRen, GB.ren, calF, upOf, List.cons_append, List.nil_append, Nat.reduceAdd, setRow, List.map_cons, List.map_nil, scC, List.set_cons_zero, List.set_cons_succ, List.take_succ_cons, List.take_zero, List.drop_succ_cons, List.drop_zero]))); any_goals kernel_rfl)
                | (refine o_gs rfl rfl (fun hc => ?_) (fun hc => ?_) <;> (try simp only [decide_eq_true_eq, decide_eq_false_iff_not, Bool.not_eq_true', Bool.not_eq_false', Bool.not_eq_true, Bool.not_eq_false, Bool.and_eq_true, Bool.or_eq_false_iff, Bool.not_not] at hc) <;> (try (first | contradiction | (exfalso; omega))))
                | (refine g_cond rfl (fun hc => ?_) (fun hc => ?_) <;> (try simp only [decide_eq_true_eq, decide_eq_false_iff_not, Bool.not_eq_true', Bool.not_eq_false', Bool.not_eq_true, Bool.not_eq_false, Bool.and_eq_true, Bool.or_eq_false_iff, Bool.not_not] at hc) <;> (try (first | contradiction | (exfalso; omega))))
              · have hh2 : hitS O.x.pos a e = true := by
                  rw [← hht]
                  simp only [hca, hce, decide_eq_true_eq, Bool.and_eq_true] at hc ⊢
                  exact hc
                rw [if_pos hh2] at j3
                rw [← j3, if_pos (show (some a).isSome = true from rfl)] at i3
                rw [fs_some hk (by rw [hO]; exact hh) (by rw [hO]; exact i3.symm)]
                unfold prfOf
                repeat' first
                  | refine g_seq ?_
                  | refine g_skip ?_
                  | refine g_exit ?_
                  | refine g_block ?_
                  | refine g_reg ?_
                  | refine g_if_t rfl ?_
                  | refine g_if_f rfl ?_
                  | refine o_nil ?_
                  | refine q_s ?_
                  | refine q_se ?_
                  | refine q_b ?_
                  | refine q_be rfl ?_
                  | refine q_bn rfl ?_
                  | refine q_le ?_
                  | refine q_ce ?_
                  | (apply p3; (first | exact pu1 | exact puL | exact puC | exact a_sub rfl rfl (by omega) (by omega) | exact a_add rfl rfl (by omega) (by omega) | exact puI); exact rfl)
                  | (apply w3; (first | exact a_st_bx rfl rfl rfl rfl (fN rfl rfl) (Nat.le_of_ble_eq_true rfl) rfl | exact a_stF (E := eCf) ⟨_, _, _⟩ rfl rfl rfl rfl (fN rfl rfl) (Nat.le_of_ble_eq_true rfl) (Nat.le_of_ble_eq_true rfl) (by first | exact List.getElem?_set_self bnd | exact List.getElem?_eq_getElem bnd) (by (try dsimp only [setRow, List.set_cons_succ, List.set_cons_zero]); first | done | exact rfl) rfl); exact rfl; (try dsimp only [setRow, List.map_cons, List.map_nil, scC, List.set_cons_zero, List.set_cons_succ, List.take_succ_cons, List.take_zero, List.drop_succ_cons, List.drop_zero, Nat.reduceAdd]))
                  | (apply g_drN (id := 12) okM [[], [0], [0, 1], [], [3], [3, 4], [0, 1, 2, 3, 4, 5], [0, 1, 2, 3, 4, 5, 6], [0, 1, 2, 3, 4, 5, 6, 7], [0, 1, 2, 3, 4, 5, 6, 7, 8], [0, 1, 2, 3, 4, 5, 6, 7, 8, 9], [0, 1, 2, 3, 4, 5, 6, 7], [0, 1, 2, 3, 4, 5, 6, 7, 11], [0, 1, 2, 3, 4, 5, 6, 7, 11, 12], [0, 1, 2, 3, 4, 5, 6, 7, 8, 9, 10, 11, 12, 13], [0, 1, 2, 3, 4, 5, 6, 7, 8, 9, 10, 11, 12, 13, 14]] [([], []), ([], []), ([], []), ([], []), ([], []), ([], []), ([], []), ([], []), ([], []), ([], []), ([], []), ([], []), ([], []), ([], []), ([], []), ([], [])] 0; (focus (all_goals refine dp 0 0 [52, 53, 54] [] pu1 ?_; all_goals refine dp 1 1 [52, 53, 54] [] puI ?_; all_goals refine dp 2 3 [52, 53, 54] [] puL ?_; all_goals refine dp 3 0 [49, 50, 51] [] pu1 ?_; all_goals refine dp 4 1 [49, 50, 51] [] puI ?_; all_goals refine dp 5 3 [49, 50, 51] [] puL ?_; all_goals refine dp 6 63 [] [] (by first | exact a_ne rfl rfl | exact a_neS rfl rfl rfl) ?_; all_goals (refine db 7 127 [] [] pu1 ?_ ?_ <;> (intro hc; first | cases hc | (try simp only [decide_eq_true_eq, decide_eq_false_iff_not, Bool.not_eq_true', Bool.not_eq_false', Bool.not_eq_true, Bool.not_eq_false, Bool.and_eq_true, Bool.or_eq_false_iff, Bool.not_not] at hc); first | contradiction | (exfalso; omega) | skip)); all_goals (first | refine dn 8 255 [60, 61, 62] [] ?_ | refine dpy 8 255 [60, 61, 62] [] pu1 ?_); all_goals (first | refine dn 9 511 [60, 61, 62] [] ?_ | refine dpy 9 511 [60, 61, 62] [] puI ?_); all_goals (first | refine dn 10 1023 [60, 61, 62] [] ?_ | refine dpy 10 1023 [60, 61, 62] [] puL ?_); all_goals (first | refine dn 11 2040 [57, 58, 59] [] ?_ | refine dpy 11 2040 [57, 58, 59] [] pu1 ?_); all_goals (first | refine dn 12 4081 [57, 58, 59] [] ?_ | refine dpy 12 4081 [57, 58, 59] [] puI ?_); all_goals (first | refine dn 13 8163 [57, 58, 59] [] ?_ | refine dpy 13 8163 [57, 58, 59] [] puL ?_); all_goals (first | refine dn 14 16383 [] [] ?_ | refine dpy 14 16383 [] [] (by first | exact a_ne rfl rfl | exact a_neS rfl rfl rfl) ?_); all_goals refine dp 15 32767 [] [] (a_pure (sv := .one _) rfl) ?_; all_goals (refine d_nil ?_; dsimp only [selT, selH, trues, SV.ren, C.ren, C.ren.all, tRen, GB.ren, calF, upOf, List.cons_append, List.nil_append, Nat.reduceAdd, setRow, List.map_cons, List.map_nil, scC, List.set_cons_zero, List.set_cons_succ, List.take_succ_cons, List.take_zero, List.drop_succ_cons, List.drop_zero]))); any_goals kernel_rfl)
                  | (apply g_drN (id := 13) okM [[], [0], [0, 1], [0, 1, 2], [], [4], [4, 5], [0, 1, 2, 3, 4, 5, 6], [0, 1, 2, 3, 4, 5, 6, 7], [], [9], [9, 10], [9, 10, 11], [], [13], [13, 14], [9, 10, 11, 12, 13, 14, 15], [9, 10, 11, 12, 13, 14, 15, 16], [0, 1, 2, 3, 4, 5, 6, 7, 8, 9, 10, 11, 12, 13, 14, 15, 16, 17], [0, 1, 2, 3, 4, 5, 6, 7, 8, 9, 10, 11, 12, 13, 14, 15, 16, 17, 18]] [([], []), ([], []), ([], []), ([], []), ([], []), ([], []), ([], []), ([], []), ([], []), ([], []), ([], []), ([], []), ([], []), ([], []), ([], []), ([], []), ([], []), ([], []), ([], []), ([], [])] 0; (focus (all_goals refine dp 0 0 [69, 70, 71, 74, 75, 76, 77, 78, 79, 80, 81, 82] [] pu1 ?_; all_goals refine dp 1 1 [69, 70, 71, 74, 75, 76, 77, 78, 79, 80, 81, 82] [] (a_pure (sv := .one _) rfl) ?_; all_goals refine dp 2 3 [69, 70, 71, 74, 75, 76, 77, 78, 79, 80, 81, 82] [] (a_pure (sv := .one _) rfl) ?_; all_goals refine dp 3 7 [69, 70, 71, 74, 75, 76, 77, 78, 79, 80, 81, 82] [] puL ?_; all_goals refine dp 4 0 [65, 66, 67, 68, 74, 75, 76, 77, 78, 79, 80, 81, 82] [] pu1 ?_; all_goals refine dp 5 1 [65, 66, 67, 68, 74, 75, 76, 77, 78, 79, 80, 81, 82] [] puI ?_; all_goals refine dp 6 3 [65, 66, 67, 68, 74, 75, 76, 77, 78, 79, 80, 81, 82] [] puL ?_; all_goals refine dp 7 127 [74, 75, 76, 77, 78, 79, 80, 81, 82] [] puI ?_; all_goals refine dp 8 255 [74, 75, 76, 77, 78, 79, 80, 81, 82] [] puL ?_; all_goals refine dp 9 0 [65, 66, 67, 68, 69, 70, 71, 72, 73, 78, 79, 80] [] pu1 ?_; all_goals refine dp 10 1 [65, 66, 67, 68, 69, 70, 71, 72, 73, 78, 79, 80] [] (a_pure (sv := .one _) rfl) ?_; all_goals refine dp 11 3 [65, 66, 67, 68, 69, 70, 71, 72, 73, 78, 79, 80] [] (a_pure (sv := .one _) rfl) ?_; all_goals refine dp 12 7 [65, 66, 67, 68, 69, 70, 71, 72, 73, 78, 79, 80] [] puL ?_; all_goals refine dp 13 0 [65, 66, 67, 68, 69, 70, 71, 72, 73, 74, 75, 76, 77] [] pu1 ?_; all_goals refine dp 14 1 [65, 66, 67, 68, 69, 70, 71, 72, 73, 74, 75, 76, 77] [] puI ?_; all_goals refine dp 15 3 [65, 66, 67, 68, 69, 70, 71, 72, 73, 74, 75, 76, 77] [] puL ?_; all_goals refine dp 16 127 [65, 66, 67, 68, 69, 70, 71, 72, 73] [] puI ?_; all_goals refine dp 17 255 [65, 66, 67, 68, 69, 70, 71, 72, 73] [] puL ?_; all_goals refine dp 18 262143 [] [] (a_sub rfl rfl (by omega) (by omega)) ?_; all_goals refine dp 19 524287 [] [] pu1 ?_; all_goals (refine d_nil ?_; dsimp only [selT, selH, trues, SV.ren, C.ren, C.ren.all, tRen, GB.ren, calF, upOf, List.cons_append, List.nil_append, Nat.reduceAdd, setRow, List.map_cons, List.map_nil, scC, List.set_cons_zero, List.set_cons_succ, List.take_succ_cons, List.take_zero, List.drop_succ_cons, List.drop_zero]))); any_goals kernel_rfl)
                  | (apply g_drN (id := 14) okM [[], [0], [0, 1], [0, 1, 2], [], [0, 1, 2, 3, 4], [], [6], [6, 7], [6, 7, 8], [], [6, 7, 8, 9, 10], [], [], [13], [13, 14], [13, 14, 15], [], [17], [17, 18], [], [20], [20, 21], [], [23], [23, 24], [13, 14, 15, 16, 17, 18, 19, 20, 21, 22, 23, 24, 25], [0, 1, 2, 3, 4, 5, 6, 7, 8, 9, 10, 11, 12, 13, 14, 15, 16, 17, 18, 19, 20, 21, 22, 23, 24, 25, 26]] [([], []), ([], []), ([], []), ([], []), ([], []), ([], []), ([], []), ([], []), ([], []), ([], []), ([], []), ([], []), ([], []), ([], []), ([], []), ([], []), ([], []), ([], []), ([], []), ([], []), ([], []), ([], []), ([], []), ([], []), ([], []), ([], []), ([], []), ([], [])] 0; (focus (all_goals refine dp 0 0 [88, 90, 91, 92, 93, 94, 95, 96, 97, 98, 99, 100, 101, 102, 103, 104, 105, 106, 107, 108, 109, 110] [] pu1 ?_; all_goals refine dp 1 1 [88, 90, 91, 92, 93, 94, 95, 96, 97, 98, 99, 100, 101, 102, 103, 104, 105, 106, 107, 108, 109, 110] [] (a_pure (sv := .one _) rfl) ?_; all_goals refine dp 2 3 [88, 90, 91, 92, 93, 94, 95, 96, 97, 98, 99, 100, 101, 102, 103, 104, 105, 106, 107, 108, 109, 110] [] (a_pure (sv := .one _) rfl) ?_; all_goals refine dp 3 7 [88, 90, 91, 92, 93, 94, 95, 96, 97, 98, 99, 100, 101, 102, 103, 104, 105, 106, 107, 108, 109, 110] [] puL ?_; all_goals refine dp 4 0 [84, 85, 86, 87, 90, 91, 92, 93, 94, 95, 96, 97, 98, 99, 100, 101, 102, 103, 104, 105, 106, 107, 108, 109, 110] [] pu1 ?_; all_goals refine dp 5 31 [90, 91, 92, 93, 94, 95, 96, 97, 98, 99, 100, 101, 102, 103, 104, 105, 106, 107, 108, 109, 110] [] puI ?_; all_goals refine dp 6 0 [84, 85, 86, 87, 88, 89, 94, 96, 97, 98, 99, 100, 101, 102, 103, 104, 105, 106, 107, 108, 109, 110] [] pu1 ?_; all_goals refine dp 7 1 [84, 85, 86, 87, 88, 89, 94, 96, 97, 98, 99, 100, 101, 102, 103, 104, 105, 106, 107, 108, 109, 110] [] (a_pure (sv := .one _) rfl) ?_; all_goals refine dp 8 3 [84, 85, 86, 87, 88, 89, 94, 96, 97, 98, 99, 100, 101, 102, 103, 104, 105, 106, 107, 108, 109, 110] [] (a_pure (sv := .one _) rfl) ?_; all_goals refine dp 9 7 [84, 85, 86, 87, 88, 89, 94, 96, 97, 98, 99, 100, 101, 102, 103, 104, 105, 106, 107, 108, 109, 110] [] puL ?_; all_goals refine dp 10 0 [84, 85, 86, 87, 88, 89, 90, 91, 92, 93, 96, 97, 98, 99, 100, 101, 102, 103, 104, 105, 106, 107, 108, 109, 110] [] pu1 ?_; all_goals refine dp 11 31 [84, 85, 86, 87, 88, 89, 96, 97, 98, 99, 100, 101, 102, 103, 104, 105, 106, 107, 108, 109, 110] [] puI ?_; all_goals refine dp 12 0 [84, 85, 86, 87, 88, 89, 90, 91, 92, 93, 94, 95, 97, 98, 99, 100, 101, 102, 103, 104, 105, 106, 107, 108, 109, 110] [] pu1 ?_; all_goals refine dp 13 0 [84, 85, 86, 87, 88, 89, 90, 91, 92, 93, 94, 95, 96, 101, 102, 103, 104, 105, 106, 107, 108, 109] [] pu1 ?_; all_goals refine dp 14 1 [84, 85, 86, 87, 88, 89, 90, 91, 92, 93, 94, 95, 96, 101, 102, 103, 104, 105, 106, 107, 108, 109] [] (a_pure (sv := .one _) rfl) ?_; all_goals refine dp 15 3 [84, 85, 86, 87, 88, 89, 90, 91, 92, 93, 94, 95, 96, 101, 102, 103, 104, 105, 106, 107, 108, 109] [] (a_pure (sv := .one _) rfl) ?_; all_goals refine dp 16 7 [84, 85, 86, 87, 88, 89, 90, 91, 92, 93, 94, 95, 96, 101, 102, 103, 104, 105, 106, 107, 108, 109] [] puL ?_; all_goals refine dp 17 0 [84, 85, 86, 87, 88, 89, 90, 91, 92, 93, 94, 95, 96, 97, 98, 99, 100, 104, 105, 106, 107, 108, 109] [] pu1 ?_; all_goals refine dp 18 1 [84, 85, 86, 87, 88, 89, 90, 91, 92, 93, 94, 95, 96, 97, 98, 99, 100, 104, 105, 106, 107, 108, 109] [] puI ?_; all_goals refine dp 19 3 [84, 85, 86, 87, 88, 89, 90, 91, 92, 93, 94, 95, 96, 97, 98, 99, 100, 104, 105, 106, 107, 108, 109] [] puL ?_; all_goals refine dp 20 0 [84, 85, 86, 87, 88, 89, 90, 91, 92, 93, 94, 95, 96, 97, 98, 99, 100, 101, 102, 103, 107, 108, 109] [] pu1 ?_; all_goals refine dp 21 1 [84, 85, 86, 87, 88, 89, 90, 91, 92, 93, 94, 95, 96, 97, 98, 99, 100, 101, 102, 103, 107, 108, 109] [] puI ?_; all_goals refine dp 22 3 [84, 85, 86, 87, 88, 89, 90, 91, 92, 93, 94, 95, 96, 97, 98, 99, 100, 101, 102, 103, 107, 108, 109] [] puL ?_; all_goals refine dp 23 0 [84, 85, 86, 87, 88, 89, 90, 91, 92, 93, 94, 95, 96, 97, 98, 99, 100, 101, 102, 103, 104, 105, 106] [] pu1 ?_; all_goals refine dp 24 1 [84, 85, 86, 87, 88, 89, 90, 91, 92, 93, 94, 95, 96, 97, 98, 99, 100, 101, 102, 103, 104, 105, 106] [] puI ?_; all_goals refine dp 25 3 [84, 85, 86, 87, 88, 89, 90, 91, 92, 93, 94, 95, 96, 97, 98, 99, 100, 101, 102, 103, 104, 105, 106] [] puL ?_; all_goals refine dp 26 8191 [84, 85, 86, 87, 88, 89, 90, 91, 92, 93, 94, 95, 96] [] (callD1 (n := _) 0 (θ := []) (hD := (l25Back_ok O.x.pos a.n e.n a.sd (by omega) (by omega) (by omega) (by omega) (by omega) hb))) ?_; all_goals refine dp 27 134217727 [] [] (callD1 (n := _) 0 (θ := []) (hD := (l25Again_ok ((recC O.x.rcs)[i.toNat]'z1) ((recC O.x.rcs)[k.toNat]'z2) (posAt O.x.pos e.n - posAt O.x.pos a.n) (backF O.x.pos a.n e.n a.sd) y1 y2 y3 y4 (by omega) (by omega)))) ?_; all_goals (refine d_nil ?_; dsimp only [selT, selH, trues, SV.ren, C.ren, C.ren.all, tRen, GB.ren, calF, upOf, List.cons_append, List.nil_append, Nat.reduceAdd, setRow, List.map_cons, List.map_nil, scC, List.set_cons_zero, List.set_cons_succ, List.take_succ_cons, List.take_zero, List.drop_succ_cons, List.drop_zero]))); any_goals kernel_rfl)
                  | (apply g_drN (id := 15) okM [[], [0], [0, 1], [], [3], [3, 4], [], [6], [6, 7], [3, 4, 5, 6, 7, 8], [], [0, 1, 2, 3, 4, 5, 6, 7, 8, 9, 10], [0, 1, 2, 3, 4, 5, 6, 7, 8, 9, 10, 11], [0, 1, 2, 3, 4, 5, 6, 7, 8, 9, 10, 11, 12], [0, 1, 2, 3, 4, 5, 6, 7, 8, 9, 10, 11, 12, 13]] [([], []), ([], []), ([], []), ([], []), ([], []), ([], []), ([], []), ([], []), ([], []), ([], []), ([], []), ([0], []), ([1], [_]), ([], [0]), ([], [])] 2; (focus (all_goals refine dp 0 0 [115, 116, 117, 118, 119, 120, 121, 122] [] pu1 ?_; all_goals refine dp 1 1 [115, 116, 117, 118, 119, 120, 121, 122] [] puI ?_; all_goals refine dp 2 3 [115, 116, 117, 118, 119, 120, 121, 122] [] puL ?_; all_goals refine dp 3 0 [112, 113, 114, 118, 119, 120, 122] [] pu1 ?_; all_goals refine dp 4 1 [112, 113, 114, 118, 119, 120, 122] [] puI ?_; all_goals refine dp 5 3 [112, 113, 114, 118, 119, 120, 122] [] puL ?_; all_goals refine dp 6 0 [112, 113, 114, 115, 116, 117, 122] [] pu1 ?_; all_goals refine dp 7 1 [112, 113, 114, 115, 116, 117, 122] [] puI ?_; all_goals refine dp 8 3 [112, 113, 114, 115, 116, 117, 122] [] puL ?_; all_goals refine dp 9 63 [112, 113, 114, 122] [] (a_sub rfl rfl (by omega) (by omega)) ?_; all_goals refine dp 10 0 [112, 113, 114, 115, 116, 117, 118, 119, 120, 121] [] pu1 ?_; all_goals refine duE 11 2047 [] [] (atN 0 (fun _ => a_litE eI [_, _, _] rfl rfl rfl rfl rfl rfl rfl rfl)) (by exact rfl) (by exact rfl) ?_; all_goals refine duN 12 4095 [] [] (callD1 (n := _) 1 (θ := [_]) (hD := (l25Made_ok _ _))) (by exact rfl) (by exact rfl) ?_; all_goals refine duE 13 8191 [] [] (by first | exact a_st_bx rfl rfl rfl rfl (fN rfl rfl) (Nat.le_of_ble_eq_true rfl) rfl | exact a_stF (E := eCf) ⟨_, _, _⟩ rfl rfl rfl rfl (fN rfl rfl) (Nat.le_of_ble_eq_true rfl) (Nat.le_of_ble_eq_true rfl) (by first | exact List.getElem?_set_self bnd | exact List.getElem?_eq_getElem bnd) (by (try dsimp only [setRow, List.set_cons_succ, List.set_cons_zero]); first | done | exact rfl) rfl) (by exact rfl) (by exact rfl) ?_; all_goals refine dp 14 16383 [] [] (a_pure (sv := .one _) rfl) ?_; all_goals (refine d_nil ?_; dsimp only [selT, selH, trues, SV.ren, C.ren, C.ren.all, tRen, GB.ren, calF, upOf, List.cons_append, List.nil_append, Nat.reduceAdd, setRow, List.map_cons, List.map_nil, scC, List.set_cons_zero, List.set_cons_succ, List.take_succ_cons, List.take_zero, List.drop_succ_cons, List.drop_zero]))); any_goals kernel_rfl)
                  | (refine o_gs rfl rfl (fun hc => ?_) (fun hc => ?_) <;> (try simp only [decide_eq_true_eq, decide_eq_false_iff_not, Bool.not_eq_true', Bool.not_eq_false', Bool.not_eq_true, Bool.not_eq_false, Bool.and_eq_true, Bool.or_eq_false_iff, Bool.not_not] at hc) <;> (try (first | contradiction | (exfalso; omega))))
                  | (refine g_cond rfl (fun hc => ?_) (fun hc => ?_) <;> (try simp only [decide_eq_true_eq, decide_eq_false_iff_not, Bool.not_eq_true', Bool.not_eq_false', Bool.not_eq_true, Bool.not_eq_false, Bool.and_eq_true, Bool.or_eq_false_iff, Bool.not_not] at hc) <;> (try (first | contradiction | (exfalso; omega))))
                repeat (first | refine g_ret ?_ | refine q_sr ?_ | refine q_br ?_ | refine q_lr ?_ | refine q_cr ?_)
                refine ends_id ?_
                refine endK [?_, ?_] (h2 := ?_) (h3 := ?_) (nd := ?_)
                rotate_left 2
                all_goals (repeat' first | with_reducible exact SVLe.refl | exact SVLe.any | exact SVLe.one (.sh rfl) | exact SVLe.one (.nil (by decide)) | refine SVLe.agg ?_ | refine SVLe.tup ?_ | exact TLe.nil | refine TLe.cons ?_ ?_ | exact CsLe.nil | refine CsLe.cons ?_ ?_ | exact CLe.refl | exact CLe.sh rfl | exact CLe.nil (by decide) | refine cle_i ?_ | refine cle_b ?_ | exact trivial | refine And.intro ?_ ?_ | exact Or.inl rfl | exact Or.inr rfl | refine Or.inr (row_eq ?_) | (refine Or.inr (bx_eq rfl rfl ?_); (try dsimp only [C.ren, C.ren.all]); (try exact rfl)) | exact SVLe.refl | refine sle_i ?_ | refine sle_b ?_)
                all_goals first | exact (show nodupB _ = true from rfl) | exact Or.inr rfl | (rfl)
              · have hh2 : hitS O.x.pos a e = false := by
                  rw [← hht]
                  simp only [hca, hce] at hc
                  cases hz : fits a.c e.c (posAt O.x.pos e.n - posAt O.x.pos a.n) (backF O.x.pos a.n e.n a.sd) with
                  | true => simp_all
                  | false => simp
                repeat' first
                  | refine g_seq ?_
                  | refine g_skip ?_
                  | refine g_exit ?_
                  | refine g_block ?_
                  | refine g_reg ?_
                  | refine g_if_t rfl ?_
                  | refine g_if_f rfl ?_
                  | refine o_nil ?_
                  | refine q_s ?_
                  | refine q_se ?_
                  | refine q_b ?_
                  | refine q_be rfl ?_
                  | refine q_bn rfl ?_
                  | refine q_le ?_
                  | refine q_ce ?_
                  | (apply p3; (first | exact pu1 | exact puL | exact puC | exact a_sub rfl rfl (by omega) (by omega) | exact a_add rfl rfl (by omega) (by omega) | exact puI); exact rfl)
                  | (apply w3; (first | exact a_st_bx rfl rfl rfl rfl (fN rfl rfl) (Nat.le_of_ble_eq_true rfl) rfl | exact a_stF (E := eCf) ⟨_, _, _⟩ rfl rfl rfl rfl (fN rfl rfl) (Nat.le_of_ble_eq_true rfl) (Nat.le_of_ble_eq_true rfl) (by first | exact List.getElem?_set_self bnd | exact List.getElem?_eq_getElem bnd) (by (try dsimp only [setRow, List.set_cons_succ, List.set_cons_zero]); first | done | exact rfl) rfl); exact rfl; (try dsimp only [setRow, List.map_cons, List.map_nil, scC, List.set_cons_zero, List.set_cons_succ, List.take_succ_cons, List.take_zero, List.drop_succ_cons, List.drop_zero, Nat.reduceAdd]))
                  | (apply g_drN (id := 12) okM [[], [0], [0, 1], [], [3], [3, 4], [0, 1, 2, 3, 4, 5], [0, 1, 2, 3, 4, 5, 6], [0, 1, 2, 3, 4, 5, 6, 7], [0, 1, 2, 3, 4, 5, 6, 7, 8], [0, 1, 2, 3, 4, 5, 6, 7, 8, 9], [0, 1, 2, 3, 4, 5, 6, 7], [0, 1, 2, 3, 4, 5, 6, 7, 11], [0, 1, 2, 3, 4, 5, 6, 7, 11, 12], [0, 1, 2, 3, 4, 5, 6, 7, 8, 9, 10, 11, 12, 13], [0, 1, 2, 3, 4, 5, 6, 7, 8, 9, 10, 11, 12, 13, 14]] [([], []), ([], []), ([], []), ([], []), ([], []), ([], []), ([], []), ([], []), ([], []), ([], []), ([], []), ([], []), ([], []), ([], []), ([], []), ([], [])] 0; (focus (all_goals refine dp 0 0 [52, 53, 54] [] pu1 ?_; all_goals refine dp 1 1 [52, 53, 54] [] puI ?_; all_goals refine dp 2 3 [52, 53, 54] [] puL ?_; all_goals refine dp 3 0 [49, 50, 51] [] pu1 ?_; all_goals refine dp 4 1 [49, 50, 51] [] puI ?_; all_goals refine dp 5 3 [49, 50, 51] [] puL ?_; all_goals refine dp 6 63 [] [] (by first | exact a_ne rfl rfl | exact a_neS rfl rfl rfl) ?_; all_goals (refine db 7 127 [] [] pu1 ?_ ?_ <;> (intro hc; first | cases hc | (try simp only [decide_eq_true_eq, decide_eq_false_iff_not, Bool.not_eq_true', Bool.not_eq_false', Bool.not_eq_true, Bool.not_eq_false, Bool.and_eq_true, Bool.or_eq_false_iff, Bool.not_not] at hc); first | contradiction | (exfalso; omega) | skip)); all_goals (first | refine dn 8 255 [60, 61, 62] [] ?_ | refine dpy 8 255 [60, 61, 62] [] pu1 ?_); all_goals (first | refine dn 9 511 [60, 61, 62] [] ?_ | refine dpy 9 511 [60, 61, 62] [] puI ?_); all_goals (first | refine dn 10 1023 [60, 61, 62] [] ?_ | refine dpy 10 1023 [60, 61, 62] [] puL ?_); all_goals (first | refine dn 11 2040 [57, 58, 59] [] ?_ | refine dpy 11 2040 [57, 58, 59] [] pu1 ?_); all_goals (first | refine dn 12 4081 [57, 58, 59] [] ?_ | refine dpy 12 4081 [57, 58, 59] [] puI ?_); all_goals (first | refine dn 13 8163 [57, 58, 59] [] ?_ | refine dpy 13 8163 [57, 58, 59] [] puL ?_); all_goals (first | refine dn 14 16383 [] [] ?_ | refine dpy 14 16383 [] [] (by first | exact a_ne rfl rfl | exact a_neS rfl rfl rfl) ?_); all_goals refine dp 15 32767 [] [] (a_pure (sv := .one _) rfl) ?_; all_goals (refine d_nil ?_; dsimp only [selT, selH, trues, SV.ren, C.ren, C.ren.all, tRen, GB.ren, calF, upOf, List.cons_append, List.nil_append, Nat.reduceAdd, setRow, List.map_cons, List.map_nil, scC, List.set_cons_zero, List.set_cons_succ, List.take_succ_cons, List.take_zero, List.drop_succ_cons, List.drop_zero]))); any_goals kernel_rfl)
                  | (apply g_drN (id := 13) okM [[], [0], [0, 1], [0, 1, 2], [], [4], [4, 5], [0, 1, 2, 3, 4, 5, 6], [0, 1, 2, 3, 4, 5, 6, 7], [], [9], [9, 10], [9, 10, 11], [], [13], [13, 14], [9, 10, 11, 12, 13, 14, 15], [9, 10, 11, 12, 13, 14, 15, 16], [0, 1, 2, 3, 4, 5, 6, 7, 8, 9, 10, 11, 12, 13, 14, 15, 16, 17], [0, 1, 2, 3, 4, 5, 6, 7, 8, 9, 10, 11, 12, 13, 14, 15, 16, 17, 18]] [([], []), ([], []), ([], []), ([], []), ([], []), ([], []), ([], []), ([], []), ([], []), ([], []), ([], []), ([], []), ([], []), ([], []), ([], []), ([], []), ([], []), ([], []), ([], []), ([], [])] 0; (focus (all_goals refine dp 0 0 [69, 70, 71, 74, 75, 76, 77, 78, 79, 80, 81, 82] [] pu1 ?_; all_goals refine dp 1 1 [69, 70, 71, 74, 75, 76, 77, 78, 79, 80, 81, 82] [] (a_pure (sv := .one _) rfl) ?_; all_goals refine dp 2 3 [69, 70, 71, 74, 75, 76, 77, 78, 79, 80, 81, 82] [] (a_pure (sv := .one _) rfl) ?_; all_goals refine dp 3 7 [69, 70, 71, 74, 75, 76, 77, 78, 79, 80, 81, 82] [] puL ?_; all_goals refine dp 4 0 [65, 66, 67, 68, 74, 75, 76, 77, 78, 79, 80, 81, 82] [] pu1 ?_; all_goals refine dp 5 1 [65, 66, 67, 68, 74, 75, 76, 77, 78, 79, 80, 81, 82] [] puI ?_; all_goals refine dp 6 3 [65, 66, 67, 68, 74, 75, 76, 77, 78, 79, 80, 81, 82] [] puL ?_; all_goals refine dp 7 127 [74, 75, 76, 77, 78, 79, 80, 81, 82] [] puI ?_; all_goals refine dp 8 255 [74, 75, 76, 77, 78, 79, 80, 81, 82] [] puL ?_; all_goals refine dp 9 0 [65, 66, 67, 68, 69, 70, 71, 72, 73, 78, 79, 80] [] pu1 ?_; all_goals refine dp 10 1 [65, 66, 67, 68, 69, 70, 71, 72, 73, 78, 79, 80] [] (a_pure (sv := .one _) rfl) ?_; all_goals refine dp 11 3 [65, 66, 67, 68, 69, 70, 71, 72, 73, 78, 79, 80] [] (a_pure (sv := .one _) rfl) ?_; all_goals refine dp 12 7 [65, 66, 67, 68, 69, 70, 71, 72, 73, 78, 79, 80] [] puL ?_; all_goals refine dp 13 0 [65, 66, 67, 68, 69, 70, 71, 72, 73, 74, 75, 76, 77] [] pu1 ?_; all_goals refine dp 14 1 [65, 66, 67, 68, 69, 70, 71, 72, 73, 74, 75, 76, 77] [] puI ?_; all_goals refine dp 15 3 [65, 66, 67, 68, 69, 70, 71, 72, 73, 74, 75, 76, 77] [] puL ?_; all_goals refine dp 16 127 [65, 66, 67, 68, 69, 70, 71, 72, 73] [] puI ?_; all_goals refine dp 17 255 [65, 66, 67, 68, 69, 70, 71, 72, 73] [] puL ?_; all_goals refine dp 18 262143 [] [] (a_sub rfl rfl (by omega) (by omega)) ?_; all_goals refine dp 19 524287 [] [] pu1 ?_; all_goals (refine d_nil ?_; dsimp only [selT, selH, trues, SV.ren, C.ren, C.ren.all, tRen, GB.ren, calF, upOf, List.cons_append, List.nil_append, Nat.reduceAdd, setRow, List.map_cons, List.map_nil, scC, List.set_cons_zero, List.set_cons_succ, List.take_succ_cons, List.take_zero, List.drop_succ_cons, List.drop_zero]))); any_goals kernel_rfl)
                  | (apply g_drN (id := 14) okM [[], [0], [0, 1], [0, 1, 2], [], [0, 1, 2, 3, 4], [], [6], [6, 7], [6, 7, 8], [], [6, 7, 8, 9, 10], [], [], [13], [13, 14], [13, 14, 15], [], [17], [17, 18], [], [20], [20, 21], [], [23], [23, 24], [13, 14, 15, 16, 17, 18, 19, 20, 21, 22, 23, 24, 25], [0, 1, 2, 3, 4, 5, 6, 7, 8, 9, 10, 11, 12, 13, 14, 15, 16, 17, 18, 19, 20, 21, 22, 23, 24, 25, 26]] [([], []), ([], []), ([], []), ([], []), ([], []), ([], []), ([], []), ([], []), ([], []), ([], []), ([], []), ([], []), ([], []), ([], []), ([], []), ([], []), ([], []), ([], []), ([], []), ([], []), ([], []), ([], []), ([], []), ([], []), ([], []), ([], []), ([], []), ([], [])] 0; (focus (all_goals refine dp 0 0 [88, 90, 91, 92, 93, 94, 95, 96, 97, 98, 99, 100, 101, 102, 103, 104, 105, 106, 107, 108, 109, 110] [] pu1 ?_; all_goals refine dp 1 1 [88, 90, 91, 92, 93, 94, 95, 96, 97, 98, 99, 100, 101, 102, 103, 104, 105, 106, 107, 108, 109, 110] [] (a_pure (sv := .one _) rfl) ?_; all_goals refine dp 2 3 [88, 90, 91, 92, 93, 94, 95, 96, 97, 98, 99, 100, 101, 102, 103, 104, 105, 106, 107, 108, 109, 110] [] (a_pure (sv := .one _) rfl) ?_; all_goals refine dp 3 7 [88, 90, 91, 92, 93, 94, 95, 96, 97, 98, 99, 100, 101, 102, 103, 104, 105, 106, 107, 108, 109, 110] [] puL ?_; all_goals refine dp 4 0 [84, 85, 86, 87, 90, 91, 92, 93, 94, 95, 96, 97, 98, 99, 100, 101, 102, 103, 104, 105, 106, 107, 108, 109, 110] [] pu1 ?_; all_goals refine dp 5 31 [90, 91, 92, 93, 94, 95, 96, 97, 98, 99, 100, 101, 102, 103, 104, 105, 106, 107, 108, 109, 110] [] puI ?_; all_goals refine dp 6 0 [84, 85, 86, 87, 88, 89, 94, 96, 97, 98, 99, 100, 101, 102, 103, 104, 105, 106, 107, 108, 109, 110] [] pu1 ?_; all_goals refine dp 7 1 [84, 85, 86, 87, 88, 89, 94, 96, 97, 98, 99, 100, 101, 102, 103, 104, 105, 106, 107, 108, 109, 110] [] (a_pure (sv := .one _) rfl) ?_; all_goals refine dp 8 3 [84, 85, 86, 87, 88, 89, 94, 96, 97, 98, 99, 100, 101, 102, 103, 104, 105, 106, 107, 108, 109, 110] [] (a_pure (sv := .one _) rfl) ?_; all_goals refine dp 9 7 [84, 85, 86, 87, 88, 89, 94, 96, 97, 98, 99, 100, 101, 102, 103, 104, 105, 106, 107, 108, 109, 110] [] puL ?_; all_goals refine dp 10 0 [84, 85, 86, 87, 88, 89, 90, 91, 92, 93, 96, 97, 98, 99, 100, 101, 102, 103, 104, 105, 106, 107, 108, 109, 110] [] pu1 ?_; all_goals refine dp 11 31 [84, 85, 86, 87, 88, 89, 96, 97, 98, 99, 100, 101, 102, 103, 104, 105, 106, 107, 108, 109, 110] [] puI ?_; all_goals refine dp 12 0 [84, 85, 86, 87, 88, 89, 90, 91, 92, 93, 94, 95, 97, 98, 99, 100, 101, 102, 103, 104, 105, 106, 107, 108, 109, 110] [] pu1 ?_; all_goals refine dp 13 0 [84, 85, 86, 87, 88, 89, 90, 91, 92, 93, 94, 95, 96, 101, 102, 103, 104, 105, 106, 107, 108, 109] [] pu1 ?_; all_goals refine dp 14 1 [84, 85, 86, 87, 88, 89, 90, 91, 92, 93, 94, 95, 96, 101, 102, 103, 104, 105, 106, 107, 108, 109] [] (a_pure (sv := .one _) rfl) ?_; all_goals refine dp 15 3 [84, 85, 86, 87, 88, 89, 90, 91, 92, 93, 94, 95, 96, 101, 102, 103, 104, 105, 106, 107, 108, 109] [] (a_pure (sv := .one _) rfl) ?_; all_goals refine dp 16 7 [84, 85, 86, 87, 88, 89, 90, 91, 92, 93, 94, 95, 96, 101, 102, 103, 104, 105, 106, 107, 108, 109] [] puL ?_; all_goals refine dp 17 0 [84, 85, 86, 87, 88, 89, 90, 91, 92, 93, 94, 95, 96, 97, 98, 99, 100, 104, 105, 106, 107, 108, 109] [] pu1 ?_; all_goals refine dp 18 1 [84, 85, 86, 87, 88, 89, 90, 91, 92, 93, 94, 95, 96, 97, 98, 99, 100, 104, 105, 106, 107, 108, 109] [] puI ?_; all_goals refine dp 19 3 [84, 85, 86, 87, 88, 89, 90, 91, 92, 93, 94, 95, 96, 97, 98, 99, 100, 104, 105, 106, 107, 108, 109] [] puL ?_; all_goals refine dp 20 0 [84, 85, 86, 87, 88, 89, 90, 91, 92, 93, 94, 95, 96, 97, 98, 99, 100, 101, 102, 103, 107, 108, 109] [] pu1 ?_; all_goals refine dp 21 1 [84, 85, 86, 87, 88, 89, 90, 91, 92, 93, 94, 95, 96, 97, 98, 99, 100, 101, 102, 103, 107, 108, 109] [] puI ?_; all_goals refine dp 22 3 [84, 85, 86, 87, 88, 89, 90, 91, 92, 93, 94, 95, 96, 97, 98, 99, 100, 101, 102, 103, 107, 108, 109] [] puL ?_; all_goals refine dp 23 0 [84, 85, 86, 87, 88, 89, 90, 91, 92, 93, 94, 95, 96, 97, 98, 99, 100, 101, 102, 103, 104, 105, 106] [] pu1 ?_; all_goals refine dp 24 1 [84, 85, 86, 87, 88, 89, 90, 91, 92, 93, 94, 95, 96, 97, 98, 99, 100, 101, 102, 103, 104, 105, 106] [] puI ?_; all_goals refine dp 25 3 [84, 85, 86, 87, 88, 89, 90, 91, 92, 93, 94, 95, 96, 97, 98, 99, 100, 101, 102, 103, 104, 105, 106] [] puL ?_; all_goals refine dp 26 8191 [84, 85, 86, 87, 88, 89, 90, 91, 92, 93, 94, 95, 96] [] (callD1 (n := _) 0 (θ := []) (hD := (l25Back_ok O.x.pos a.n e.n a.sd (by omega) (by omega) (by omega) (by omega) (by omega) hb))) ?_; all_goals refine dp 27 134217727 [] [] (callD1 (n := _) 0 (θ := []) (hD := (l25Again_ok ((recC O.x.rcs)[i.toNat]'z1) ((recC O.x.rcs)[k.toNat]'z2) (posAt O.x.pos e.n - posAt O.x.pos a.n) (backF O.x.pos a.n e.n a.sd) y1 y2 y3 y4 (by omega) (by omega)))) ?_; all_goals (refine d_nil ?_; dsimp only [selT, selH, trues, SV.ren, C.ren, C.ren.all, tRen, GB.ren, calF, upOf, List.cons_append, List.nil_append, Nat.reduceAdd, setRow, List.map_cons, List.map_nil, scC, List.set_cons_zero, List.set_cons_succ, List.take_succ_cons, List.take_zero, List.drop_succ_cons, List.drop_zero]))); any_goals kernel_rfl)
                  | (apply g_drN (id := 15) okM [[], [0], [0, 1], [], [3], [3, 4], [], [6], [6, 7], [3, 4, 5, 6, 7, 8], [], [0, 1, 2, 3, 4, 5, 6, 7, 8, 9, 10], [0, 1, 2, 3, 4, 5, 6, 7, 8, 9, 10, 11], [0, 1, 2, 3, 4, 5, 6, 7, 8, 9, 10, 11, 12], [0, 1, 2, 3, 4, 5, 6, 7, 8, 9, 10, 11, 12, 13]] [([], []), ([], []), ([], []), ([], []), ([], []), ([], []), ([], []), ([], []), ([], []), ([], []), ([], []), ([0], []), ([1], [_]), ([], [0]), ([], [])] 2; (focus (all_goals refine dp 0 0 [115, 116, 117, 118, 119, 120, 121, 122] [] pu1 ?_; all_goals refine dp 1 1 [115, 116, 117, 118, 119, 120, 121, 122] [] puI ?_; all_goals refine dp 2 3 [115, 116, 117, 118, 119, 120, 121, 122] [] puL ?_; all_goals refine dp 3 0 [112, 113, 114, 118, 119, 120, 122] [] pu1 ?_; all_goals refine dp 4 1 [112, 113, 114, 118, 119, 120, 122] [] puI ?_; all_goals refine dp 5 3 [112, 113, 114, 118, 119, 120, 122] [] puL ?_; all_goals refine dp 6 0 [112, 113, 114, 115, 116, 117, 122] [] pu1 ?_; all_goals refine dp 7 1 [112, 113, 114, 115, 116, 117, 122] [] puI ?_; all_goals refine dp 8 3 [112, 113, 114, 115, 116, 117, 122] [] puL ?_; all_goals refine dp 9 63 [112, 113, 114, 122] [] (a_sub rfl rfl (by omega) (by omega)) ?_; all_goals refine dp 10 0 [112, 113, 114, 115, 116, 117, 118, 119, 120, 121] [] pu1 ?_; all_goals refine duE 11 2047 [] [] (atN 0 (fun _ => a_litE eI [_, _, _] rfl rfl rfl rfl rfl rfl rfl rfl)) (by exact rfl) (by exact rfl) ?_; all_goals refine duN 12 4095 [] [] (callD1 (n := _) 1 (θ := [_]) (hD := (l25Made_ok _ _))) (by exact rfl) (by exact rfl) ?_; all_goals refine duE 13 8191 [] [] (by first | exact a_st_bx rfl rfl rfl rfl (fN rfl rfl) (Nat.le_of_ble_eq_true rfl) rfl | exact a_stF (E := eCf) ⟨_, _, _⟩ rfl rfl rfl rfl (fN rfl rfl) (Nat.le_of_ble_eq_true rfl) (Nat.le_of_ble_eq_true rfl) (by first | exact List.getElem?_set_self bnd | exact List.getElem?_eq_getElem bnd) (by (try dsimp only [setRow, List.set_cons_succ, List.set_cons_zero]); first | done | exact rfl) rfl) (by exact rfl) (by exact rfl) ?_; all_goals refine dp 14 16383 [] [] (a_pure (sv := .one _) rfl) ?_; all_goals (refine d_nil ?_; dsimp only [selT, selH, trues, SV.ren, C.ren, C.ren.all, tRen, GB.ren, calF, upOf, List.cons_append, List.nil_append, Nat.reduceAdd, setRow, List.map_cons, List.map_nil, scC, List.set_cons_zero, List.set_cons_succ, List.take_succ_cons, List.take_zero, List.drop_succ_cons, List.drop_zero]))); any_goals kernel_rfl)
                  | (refine o_gs rfl rfl (fun hc => ?_) (fun hc => ?_) <;> (try simp only [decide_eq_true_eq, decide_eq_false_iff_not, Bool.not_eq_true', Bool.not_eq_false', Bool.not_eq_true, Bool.not_eq_false, Bool.and_eq_true, Bool.or_eq_false_iff, Bool.not_not] at hc) <;> (try (first | contradiction | (exfalso; omega))))
                  | (refine g_cond rfl (fun hc => ?_) (fun hc => ?_) <;> (try simp only [decide_eq_true_eq, decide_eq_false_iff_not, Bool.not_eq_true', Bool.not_eq_false', Bool.not_eq_true, Bool.not_eq_false, Bool.and_eq_true, Bool.or_eq_false_iff, Bool.not_not] at hc) <;> (try (first | contradiction | (exfalso; omega))))
                rw [if_neg (by rw [hh2]; simp)] at j3
                refine q_again (i - 1) [0, 1, 2, 3, 4] (by exact stk) ?_ ?_
                · exact ⟨by omega, by omega, by rw [show (i - 1 + 1).toNat = i.toNat by omega]; exact j3⟩
                · omega
          · have hi : i = -1 := by omega
            subst hi
            have i4 : fndA O.x.pos O.x.rcs e k.toNat = none := by rw [← j3]; unfold fndA; rfl
            rw [i4] at i3
            refine q_again (k + 1) [0, 1, 2, 3, 4] (by exact stk) ?_ ?_
            · exact ⟨by omega, by omega, i3⟩
            · omega
      · have hz : O.x.rcs.length - k.toNat = 0 := by omega
        have hf : O.full = true := hc
        have h0 : fndT O.x.pos O.x.rcs O.x.rcs.length 0 = none := by rw [← i3, hz]; unfold fndT; rfl
        rw [fs_none hk (by rw [hO]; exact hh) (by rw [hO]; exact h0), hO, hf]
        refine g_conv (t_nilB (i := 0) (k := 1) (z := 1) rfl rfl rfl (by decide)) ?_
        try dsimp only [setRow, List.map_cons, List.map_nil, scC, List.set_cons_zero, List.set_cons_succ]
        refine g_conv (t_nilB (i := 0) (k := 2) (z := 1) rfl rfl rfl (by decide)) ?_
        try dsimp only [setRow, List.map_cons, List.map_nil, scC, List.set_cons_zero, List.set_cons_succ]
        repeat (first | refine g_ret ?_ | refine q_sr ?_ | refine q_br ?_ | refine q_lr ?_ | refine q_cr ?_)
        refine ends_id ?_
        refine endK [?_, ?_] (h2 := ?_) (h3 := ?_) (nd := ?_)
        rotate_left 2
        all_goals (repeat' first | with_reducible exact SVLe.refl | exact SVLe.any | exact SVLe.one (.sh rfl) | exact SVLe.one (.nil (by decide)) | refine SVLe.agg ?_ | refine SVLe.tup ?_ | exact TLe.nil | refine TLe.cons ?_ ?_ | exact CsLe.nil | refine CsLe.cons ?_ ?_ | exact CLe.refl | exact CLe.sh rfl | exact CLe.nil (by decide) | refine cle_i ?_ | refine cle_b ?_ | exact trivial | refine And.intro ?_ ?_ | exact Or.inl rfl | exact Or.inr rfl | refine Or.inr (row_eq ?_) | (refine Or.inr (bx_eq rfl rfl ?_); (try dsimp only [C.ren, C.ren.all]); (try exact rfl)) | exact SVLe.refl | refine sle_i ?_ | refine sle_b ?_)
        all_goals first | exact (show nodupB _ = true from rfl) | exact Or.inr rfl | (rfl)
      · have hz : O.x.rcs.length - k.toNat = 0 := by omega
        have hf : O.full = false := hc
        have h0 : fndT O.x.pos O.x.rcs O.x.rcs.length 0 = none := by rw [← i3, hz]; unfold fndT; rfl
        rw [fs_none hk (by rw [hO]; exact hh) (by rw [hO]; exact h0), hO, hf]
        refine g_conv (t_nilB (i := 0) (k := 1) (z := 1) rfl rfl rfl (by decide)) ?_
        try dsimp only [setRow, List.map_cons, List.map_nil, scC, List.set_cons_zero, List.set_cons_succ]
        refine g_conv (t_nilB (i := 0) (k := 2) (z := 1) rfl rfl rfl (by decide)) ?_
        try dsimp only [setRow, List.map_cons, List.map_nil, scC, List.set_cons_zero, List.set_cons_succ]
        repeat (first | refine g_ret ?_ | refine q_sr ?_ | refine q_br ?_ | refine q_lr ?_ | refine q_cr ?_)
        refine ends_id ?_
        refine endK [?_, ?_] (h2 := ?_) (h3 := ?_) (nd := ?_)
        rotate_left 2
        all_goals (repeat' first | with_reducible exact SVLe.refl | exact SVLe.any | exact SVLe.one (.sh rfl) | exact SVLe.one (.nil (by decide)) | refine SVLe.agg ?_ | refine SVLe.tup ?_ | exact TLe.nil | refine TLe.cons ?_ ?_ | exact CsLe.nil | refine CsLe.cons ?_ ?_ | exact CLe.refl | exact CLe.sh rfl | exact CLe.nil (by decide) | refine cle_i ?_ | refine cle_b ?_ | exact trivial | refine And.intro ?_ ?_ | exact Or.inl rfl | exact Or.inr rfl | refine Or.inr (row_eq ?_) | (refine Or.inr (bx_eq rfl rfl ?_); (try dsimp only [C.ren, C.ren.all]); (try exact rfl)) | exact SVLe.refl | refine sle_i ?_ | refine sle_b ?_)
        all_goals first | exact (show nodupB _ = true from rfl) | exact Or.inr rfl | (rfl)
theorem sFindShift_ok (m : Mach) (b : Int) (hm : (m.ru.length : Int) ≤ 16777216) : Does Try.prog 41 [.agg (maC m), .one (int b)] [] (.tup [(true, [int (fsRes m b).1.k, .gv 0, .gv 1]), (false, [int (fsRes m b).2])]) [roI (fsRes m b).1.nu, .row 1 []] := by
  by_cases hk : askC m blank b = 0
  · refine does_of (k := 0) Try.func41 rfl Try.ntmps41 rfl rfl fun w F0 S0 ρ0 => ?_
    dsimp only [argT, argH]
    repeat' first
      | refine g_seq ?_
      | refine g_skip ?_
      | refine g_exit ?_
      | refine g_block ?_
      | refine g_reg ?_
      | refine g_if_t rfl ?_
      | refine g_if_f rfl ?_
      | refine o_nil ?_
      | refine q_s ?_
      | refine q_se ?_
      | refine q_b ?_
      | refine q_be rfl ?_
      | refine q_bn rfl ?_
      | refine q_le ?_
      | refine q_ce ?_
      | (apply n3; exact a_new (gb := .bx _) rfl; exact rfl; (try dsimp only [List.map_cons, List.map_nil, scC, Nat.reduceAdd]))
      | (apply p3; (first | exact pu1 | exact a_ne rfl rfl | exact a_neS rfl rfl rfl); exact rfl)
      | (apply w3; exact a_st_bx rfl rfl rfl rfl (fN rfl rfl) (Nat.le_of_ble_eq_true rfl) rfl; exact rfl; (try dsimp only [setRow, List.map_cons, List.map_nil, scC, List.set_cons_zero, List.set_cons_succ, List.take_succ_cons, List.take_zero, List.drop_succ_cons, List.drop_zero, Nat.reduceAdd]))
      | (apply c4 0; exact callK1 (θ := []) (hD := (l25Ask_ok _ _ preB43)); exact rfl; exact rfl; exact rfl; (try dsimp only [SV.ren, C.ren, C.ren.all, tRen, GB.ren, calF, upOf, List.cons_append, List.nil_append, Nat.reduceAdd]))
      | (apply c4 2; exact callK1 (θ := []) (hD := (l25FindShift_ok _ _ preB43)); exact rfl; exact rfl; exact rfl; (try dsimp only [SV.ren, C.ren, C.ren.all, tRen, GB.ren, calF, upOf, List.cons_append, List.nil_append, Nat.reduceAdd]))
      | (refine o_gs rfl rfl (fun hc => ?_) (fun hc => ?_) <;> (try simp only [decide_eq_true_eq, decide_eq_false_iff_not, Bool.not_eq_true', Bool.not_eq_false', Bool.not_eq_true, Bool.not_eq_false, Bool.and_eq_true, Bool.or_eq_false_iff, Bool.not_not] at hc) <;> (try (first | contradiction | (exfalso; omega))))
      | (refine g_cond rfl (fun hc => ?_) (fun hc => ?_) <;> (try simp only [decide_eq_true_eq, decide_eq_false_iff_not, Bool.not_eq_true', Bool.not_eq_false', Bool.not_eq_true, Bool.not_eq_false, Bool.and_eq_true, Bool.or_eq_false_iff, Bool.not_not] at hc) <;> (try (first | contradiction | (exfalso; omega))))
    repeat (first | refine g_ret ?_ | refine q_sr ?_ | refine q_br ?_ | refine q_lr ?_ | refine q_cr ?_)
    refine ends_id ?_
    refine endK [?_, ?_] (h2 := ?_) (h3 := ?_) (nd := ?_)
    rotate_left 2
    all_goals (repeat' first | with_reducible exact SVLe.refl | exact SVLe.any | exact SVLe.one (.sh rfl) | exact SVLe.one (.nil (by decide)) | refine SVLe.agg ?_ | refine SVLe.tup ?_ | exact TLe.nil | refine TLe.cons ?_ ?_ | exact CsLe.nil | refine CsLe.cons ?_ ?_ | exact CLe.refl | exact CLe.sh rfl | exact CLe.nil (by decide) | refine cle_i ?_ | refine cle_b ?_ | exact trivial | refine And.intro ?_ ?_ | exact Or.inl rfl | exact Or.inr rfl | refine Or.inr (row_eq ?_) | (refine Or.inr (bx_eq rfl rfl ?_); (try dsimp only [C.ren, C.ren.all]); (try exact rfl)) | exact SVLe.refl | refine sle_i ?_ | refine sle_b ?_)
    all_goals first | exact (show nodupB _ = true from rfl) | exact Or.inr rfl | (rfl)
  · rw [fs_code hk]
    refine does_of (k := 0) Try.func41 rfl Try.ntmps41 rfl rfl fun w F0 S0 ρ0 => ?_
    dsimp only [argT, argH]
    repeat' first
      | refine g_seq ?_
      | refine g_skip ?_
      | refine g_exit ?_
      | refine g_block ?_
      | refine g_reg ?_
      | refine g_if_t rfl ?_
      | refine g_if_f rfl ?_
      | refine o_nil ?_
      | refine q_s ?_
      | refine q_se ?_
      | refine q_b ?_
      | refine q_be rfl ?_
      | refine q_bn rfl ?_
      | refine q_le ?_
      | refine q_ce ?_
      | (apply n3; exact a_new (gb := .bx _) rfl; exact rfl; (try dsimp only [List.map_cons, List.map_nil, scC, Nat.reduceAdd]))
      | (apply p3; (first | exact pu1 | exact a_ne rfl rfl | exact a_neS rfl rfl rfl); exact rfl)
      | (apply w3; exact a_st_bx rfl rfl rfl rfl (fN rfl rfl) (Nat.le_of_ble_eq_true rfl) rfl; exact rfl; (try dsimp only [setRow, List.map_cons, List.map_nil, scC, List.set_cons_zero, List.set_cons_succ, List.take_succ_cons, List.take_zero, List.drop_succ_cons, List.drop_zero, Nat.reduceAdd]))
      | (apply c4 0; exact callK1 (θ := []) (hD := (l25Ask_ok _ _ preB43)); exact rfl; exact rfl; exact rfl; (try dsimp only [SV.ren, C.ren, C.ren.all, tRen, GB.ren, calF, upOf, List.cons_append, List.nil_append, Nat.reduceAdd]))
      | (apply c4 2; exact callK1 (θ := []) (hD := (l25FindShift_ok _ _ preB43)); exact rfl; exact rfl; exact rfl; (try dsimp only [SV.ren, C.ren, C.ren.all, tRen, GB.ren, calF, upOf, List.cons_append, List.nil_append, Nat.reduceAdd]))
      | (refine o_gs rfl rfl (fun hc => ?_) (fun hc => ?_) <;> (try simp only [decide_eq_true_eq, decide_eq_false_iff_not, Bool.not_eq_true', Bool.not_eq_false', Bool.not_eq_true, Bool.not_eq_false, Bool.and_eq_true, Bool.or_eq_false_iff, Bool.not_not] at hc) <;> (try (first | contradiction | (exfalso; omega))))
      | (refine g_cond rfl (fun hc => ?_) (fun hc => ?_) <;> (try simp only [decide_eq_true_eq, decide_eq_false_iff_not, Bool.not_eq_true', Bool.not_eq_false', Bool.not_eq_true, Bool.not_eq_false, Bool.and_eq_true, Bool.or_eq_false_iff, Bool.not_not] at hc) <;> (try (first | contradiction | (exfalso; omega))))
    refine g_conv (t_nilB (i := 1) (k := 1) (z := 1) rfl rfl rfl (by decide)) ?_
    try dsimp only [setRow, List.map_cons, List.map_nil, scC, List.set_cons_zero, List.set_cons_succ]
    refine g_conv (t_nilB (i := 1) (k := 2) (z := 1) rfl rfl rfl (by decide)) ?_
    try dsimp only [setRow, List.map_cons, List.map_nil, scC, List.set_cons_zero, List.set_cons_succ]
    repeat (first | refine g_ret ?_ | refine q_sr ?_ | refine q_br ?_ | refine q_lr ?_ | refine q_cr ?_)
    refine ends_id ?_
    refine endK [?_, ?_] (h2 := ?_) (h3 := ?_) (nd := ?_)
    rotate_left 2
    all_goals (repeat' first | with_reducible exact SVLe.refl | exact SVLe.any | exact SVLe.one (.sh rfl) | exact SVLe.one (.nil (by decide)) | refine SVLe.agg ?_ | refine SVLe.tup ?_ | exact TLe.nil | refine TLe.cons ?_ ?_ | exact CsLe.nil | refine CsLe.cons ?_ ?_ | exact CLe.refl | exact CLe.sh rfl | exact CLe.nil (by decide) | refine cle_i ?_ | refine cle_b ?_ | exact trivial | refine And.intro ?_ ?_ | exact Or.inl rfl | exact Or.inr rfl | refine Or.inr (row_eq ?_) | (refine Or.inr (bx_eq rfl rfl ?_); (try dsimp only [C.ren, C.ren.all]); (try exact rfl)) | exact SVLe.refl | refine sle_i ?_ | refine sle_b ?_)
    all_goals first | exact (show nodupB _ = true from rfl) | exact Or.inr rfl | (rfl)
theorem iFindShiftN_ok (m : Mach) (b : Int) (hm : (m.ru.length : Int) ≤ 16777216) : Does Try.prog 42 [.agg (maC m), .one (int b)] [] (.tup [(true, [int (fsRes m b).1.k, .gv 0, .gv 1]), (false, [int (fsRes m b).2])]) [roI (fsRes m b).1.nu, .row 1 []] := by
  have h := iFindShift_ok m b hm
  rw [fs_wo] at h
  exact h
theorem fs_nu (m : Mach) (b : Int) : ((fsRes m b).1.nu.length : Int) ≤ 3 := by
  have key : ∀ (pos : List Int) (rs : List Rec) (j k : Nat) (p : Prf), fndT pos rs j k = some p → (p.nu.length : Int) ≤ 3 := by
    intro pos rs j
    induction j with
    | zero => intro k p h; unfold fndT at h; cases h
    | succ j ih =>
      intro k p h
      unfold fndT at h
      split at h
      · cases h
      · split at h
        · cases h; unfold prfOf; simp
        · exact ih _ _ h
  unfold fsRes
  split
  · simp
  · split
    · simp
    · split
      · rename_i h; exact key _ _ _ _ _ h
      · simp
end Go.Proofs.Ytncccjpbaeaafaa
end
section
set_option linter.unusedVariables false
set_option linter.unusedSimpArgs false
set_option maxRecDepth 100000
set_option maxHeartbeats 4000000
namespace Go.Proofs.Ytncccjpbaeaafaa
open Go Foot
/-- Numbers one behind the other. -/
@[irreducible] def marks (k : Int) (n : Nat) : List Int := (List.range n).map fun (i : Nat) => k + (i : Int)
theorem marks_len (k : Int) (n : Nat) : (marks k n).length = n := by unfold marks; simp
theorem marks_get (k : Int) (n i : Nat) (h : i < n) : (marks k n)[i]? = some (k + i) := by unfold marks; simp [h]
theorem mark_end {k : Int} {xs l : List Int} (h1 : l.length = xs.length) (h2 : ∀ j (h : j < xs.length), l[j]? = some (k + j)) : l = marks k xs.length := by
  apply List.ext_getElem?
  intro j
  by_cases hj : j < xs.length
  · rw [marks_get k _ j hj, h2 j hj]
  · rw [List.getElem?_eq_none (by omega), List.getElem?_eq_none (by rw [marks_len]; omega)]
theorem markInt64S_ok (xs : List Int) (k : Int) (h1 : 0 ≤ k) (h2 : k ≤ 4611686018427387904) (hx : (xs.length : Int) ≤ 4611686018427) : Does Try.prog 28 [.one (.gv 0), .one (int k)] [roI xs] (.one (int (k + xs.length))) [roI (marks k xs.length)] := by
  refine does_of (k := 1) Try.func28 rfl Try.ntmps28 rfl rfl fun w F0 S0 ρ0 => ?_
  dsimp only [argT, argH]
  repeat' first
    | refine g_seq ?_
    | refine g_skip ?_
    | refine g_exit ?_
    | refine g_block ?_
    | refine g_reg ?_
    | refine g_if_t rfl ?_
    | refine g_if_f rfl ?_
    | refine o_nil ?_
    | refine q_s ?_
    | refine q_se ?_
    | refine q_b ?_
    | refine q_be rfl ?_
    | refine q_bn rfl ?_
    | refine q_le ?_
    | refine q_ce ?_
    | (apply p3; (first | exact pu1 | exact puN | exact a_len_str rfl (fT rfl) | exact puC | exact a_add rfl rfl (by omega) (by omega) | exact puI); exact rfl)
    | (apply w3; (first | exact a_st_bx rfl rfl rfl rfl (fN rfl rfl) (Nat.le_of_ble_eq_true rfl) rfl | exact a_st_rowI rfl rfl rfl rfl (fN rfl rfl) bnd | exact a_stE (E := eI) _ rfl rfl rfl rfl (fN rfl rfl) bnd (by exact rfl)); exact rfl; (try dsimp only [setRow, List.map_cons, List.map_nil, scC, List.set_cons_zero, List.set_cons_succ, List.take_succ_cons, List.take_zero, List.drop_succ_cons, List.drop_zero, Nat.reduceAdd]))
    | (refine o_gs rfl rfl (fun hc => ?_) (fun hc => ?_) <;> (try simp only [decide_eq_true_eq, decide_eq_false_iff_not, Bool.not_eq_true', Bool.not_eq_false', Bool.not_eq_true, Bool.not_eq_false, Bool.and_eq_true, Bool.or_eq_false_iff, Bool.not_not] at hc) <;> (try (first | contradiction | (exfalso; omega))))
    | (refine g_cond rfl (fun hc => ?_) (fun hc => ?_) <;> (try simp only [decide_eq_true_eq, decide_eq_false_iff_not, Bool.not_eq_true', Bool.not_eq_false', Bool.not_eq_true, Bool.not_eq_false, Bool.and_eq_true, Bool.or_eq_false_iff, Bool.not_not] at hc) <;> (try (first | contradiction | (exfalso; omega))))
  refine g_loop_id ?_
  refine loopK [0, 4] [0] (fun y : Int × List Int => 0 ≤ y.1 ∧ y.1 ≤ xs.length ∧ y.2.length = xs.length ∧ ∀ (j : Nat), (j : Int) < y.1 → y.2[j]? = some (k + j)) (fun y => [(5, .one (int y.1)), (1, .one (int (k + y.1)))]) (fun y => [(0, roI y.2)]) (fun y => (xs.length - y.1).toNat) ((0 : Int), xs) [0] (hI := ?_) (hr := ?_)
  · exact ⟨by simp, by simp, rfl, fun j h' => by simp at h'; omega⟩
  · rintro ⟨i, l⟩ ⟨k1, k2, k3, k4⟩
    dsimp only [List.cons_append, List.nil_append] at *
    skip
    repeat' first
      | refine g_seq ?_
      | refine g_skip ?_
      | refine g_exit ?_
      | refine g_block ?_
      | refine g_reg ?_
      | refine g_if_t rfl ?_
      | refine g_if_f rfl ?_
      | refine o_nil ?_
      | refine q_s ?_
      | refine q_se ?_
      | refine q_b ?_
      | refine q_be rfl ?_
      | refine q_bn rfl ?_
      | refine q_le ?_
      | refine q_ce ?_
      | (apply p3; (first | exact pu1 | exact puN | exact a_len_str rfl (fT rfl) | exact puC | exact a_add rfl rfl (by omega) (by omega) | exact puI); exact rfl)
      | (apply w3; (first | exact a_st_bx rfl rfl rfl rfl (fN rfl rfl) (Nat.le_of_ble_eq_true rfl) rfl | exact a_st_rowI rfl rfl rfl rfl (fN rfl rfl) bnd | exact a_stE (E := eI) _ rfl rfl rfl rfl (fN rfl rfl) bnd (by exact rfl)); exact rfl; (try dsimp only [setRow, List.map_cons, List.map_nil, scC, List.set_cons_zero, List.set_cons_succ, List.take_succ_cons, List.take_zero, List.drop_succ_cons, List.drop_zero, Nat.reduceAdd]))
      | (refine o_gs rfl rfl (fun hc => ?_) (fun hc => ?_) <;> (try simp only [decide_eq_true_eq, decide_eq_false_iff_not, Bool.not_eq_true', Bool.not_eq_false', Bool.not_eq_true, Bool.not_eq_false, Bool.and_eq_true, Bool.or_eq_false_iff, Bool.not_not] at hc) <;> (try (first | contradiction | (exfalso; omega))))
      | (refine g_cond rfl (fun hc => ?_) (fun hc => ?_) <;> (try simp only [decide_eq_true_eq, decide_eq_false_iff_not, Bool.not_eq_true', Bool.not_eq_false', Bool.not_eq_true, Bool.not_eq_false, Bool.and_eq_true, Bool.or_eq_false_iff, Bool.not_not] at hc) <;> (try (first | contradiction | (exfalso; omega))))
    · refine q_again (i + 1, l.set i.toNat (k + i)) [0] (by exact stk) ?_ ?_
      · refine ⟨by dsimp only; omega, by dsimp only; omega, by simp [k3], fun j h => ?_⟩
        dsimp only at h ⊢
        rw [List.getElem?_set]
        split
        · rename_i e
          subst e
          rw [if_pos (by omega)]
          congr 1
          omega
        · exact k4 j (by omega)
      · dsimp only; omega
    · have hi : i = xs.length := by omega
      subst hi
      have hl := mark_end (k := k) k3 fun j hj => k4 j (by omega)
      repeat (first | refine g_ret ?_ | refine q_sr ?_ | refine q_br ?_ | refine q_lr ?_ | refine q_cr ?_)
      refine ends_id ?_
      refine endK [] (h2 := ?_) (h3 := ?_) (nd := ?_)
      all_goals (repeat' first | with_reducible exact SVLe.refl | exact SVLe.any | exact SVLe.one (.sh rfl) | exact SVLe.one (.nil (by decide)) | refine SVLe.agg ?_ | refine SVLe.tup ?_ | exact TLe.nil | refine TLe.cons ?_ ?_ | exact CsLe.nil | refine CsLe.cons ?_ ?_ | exact CLe.refl | exact CLe.sh rfl | exact CLe.nil (by decide) | refine cle_i ?_ | refine cle_b ?_ | exact trivial | refine And.intro ?_ ?_ | exact Or.inl rfl | exact Or.inr rfl | refine Or.inr (row_eq ?_) | (refine Or.inr (bx_eq rfl rfl ?_); (try dsimp only [C.ren, C.ren.all]); (try exact rfl)) | exact SVLe.refl | refine sle_i ?_ | refine sle_b ?_)
      all_goals first | exact (show nodupB _ = true from rfl) | exact Or.inr rfl | (exact hl)
/-- Are the numbers there? Then the next number, else -1. -/
@[irreducible] def held (k : Int) (xs : List Int) : Int := if xs = marks k xs.length then k + xs.length else -1
theorem held_marks (k : Int) (n : Nat) : held k (marks k n) = k + n := by unfold held; rw [marks_len, if_pos rfl]
theorem heldInt64S_ok (xs : List Int) (k : Int) (h1 : 0 ≤ k) (h2 : k ≤ 4611686018427387904) (hx : (xs.length : Int) ≤ 4611686018427) : Does Try.prog 29 [.one (shI xs), .one (int k)] [] (.one (int (held k xs))) [] := by
  refine does_of (k := 0) Try.func29 rfl Try.ntmps29 rfl rfl fun w F0 S0 ρ0 => ?_
  dsimp only [argT, argH]
  repeat' first
    | refine g_seq ?_
    | refine g_skip ?_
    | refine g_exit ?_
    | refine g_block ?_
    | refine g_reg ?_
    | refine g_if_t rfl ?_
    | refine g_if_f rfl ?_
    | refine o_nil ?_
    | refine q_s ?_
    | refine q_se ?_
    | refine q_b ?_
    | refine q_be rfl ?_
    | refine q_bn rfl ?_
    | refine q_le ?_
    | refine q_ce ?_
    | (apply p3; (first | exact pu1 | exact puL | exact puN | exact a_len_str rfl (fT rfl) | exact puC | exact a_ne rfl rfl | exact a_neS rfl rfl rfl | exact a_add rfl rfl (by omega) (by omega) | exact puI); exact rfl)
    | (refine o_gs rfl rfl (fun hc => ?_) (fun hc => ?_) <;> (try simp only [decide_eq_true_eq, decide_eq_false_iff_not, Bool.not_eq_true', Bool.not_eq_false', Bool.not_eq_true, Bool.not_eq_false, Bool.and_eq_true, Bool.or_eq_false_iff, Bool.not_not] at hc) <;> (try (first | contradiction | (exfalso; omega))))
    | (refine g_cond rfl (fun hc => ?_) (fun hc => ?_) <;> (try simp only [decide_eq_true_eq, decide_eq_false_iff_not, Bool.not_eq_true', Bool.not_eq_false', Bool.not_eq_true, Bool.not_eq_false, Bool.and_eq_true, Bool.or_eq_false_iff, Bool.not_not] at hc) <;> (try (first | contradiction | (exfalso; omega))))
  refine g_loop_id ?_
  refine loopK [0, 4] [] (fun i : Int => 0 ≤ i ∧ i ≤ xs.length ∧ ∀ (j : Nat), (j : Int) < i → xs[j]? = some (k + j)) (fun i => [(5, .one (int i)), (1, .one (int (k + i)))]) (fun _ => []) (fun i => (xs.length - i).toNat) (0 : Int) [] (hI := ?_) (hr := ?_)
  · exact ⟨by simp, by simp, fun j h' => by omega⟩
  · rintro i ⟨k1, k2, k4⟩
    dsimp only [List.cons_append, List.nil_append] at *
    skip
    repeat' first
      | refine g_seq ?_
      | refine g_skip ?_
      | refine g_exit ?_
      | refine g_block ?_
      | refine g_reg ?_
      | refine g_if_t rfl ?_
      | refine g_if_f rfl ?_
      | refine o_nil ?_
      | refine q_s ?_
      | refine q_se ?_
      | refine q_b ?_
      | refine q_be rfl ?_
      | refine q_bn rfl ?_
      | refine q_le ?_
      | refine q_ce ?_
      | (apply p3; (first | exact pu1 | exact puL | exact puN | exact a_len_str rfl (fT rfl) | exact puC | exact a_ne rfl rfl | exact a_neS rfl rfl rfl | exact a_add rfl rfl (by omega) (by omega) | exact puI); exact rfl)
      | (refine o_gs rfl rfl (fun hc => ?_) (fun hc => ?_) <;> (try simp only [decide_eq_true_eq, decide_eq_false_iff_not, Bool.not_eq_true', Bool.not_eq_false', Bool.not_eq_true, Bool.not_eq_false, Bool.and_eq_true, Bool.or_eq_false_iff, Bool.not_not] at hc) <;> (try (first | contradiction | (exfalso; omega))))
      | (refine g_cond rfl (fun hc => ?_) (fun hc => ?_) <;> (try simp only [decide_eq_true_eq, decide_eq_false_iff_not, Bool.not_eq_true', Bool.not_eq_false', Bool.not_eq_true, Bool.not_eq_false, Bool.and_eq_true, Bool.or_eq_false_iff, Bool.not_not] at hc) <;> (try (first | contradiction | (exfalso; omega))))
    · repeat (first | refine g_ret ?_ | refine q_sr ?_ | refine q_br ?_ | refine q_lr ?_ | refine q_cr ?_)
      refine ends_id ?_
      refine endK [] (h2 := ?_) (h3 := ?_) (nd := ?_)
      all_goals (repeat' first | with_reducible exact SVLe.refl | exact SVLe.any | exact SVLe.one (.sh rfl) | exact SVLe.one (.nil (by decide)) | refine SVLe.agg ?_ | refine SVLe.tup ?_ | exact TLe.nil | refine TLe.cons ?_ ?_ | exact CsLe.nil | refine CsLe.cons ?_ ?_ | exact CLe.refl | exact CLe.sh rfl | exact CLe.nil (by decide) | refine cle_i ?_ | refine cle_b ?_ | exact trivial | refine And.intro ?_ ?_ | exact Or.inl rfl | exact Or.inr rfl | refine Or.inr (row_eq ?_) | (refine Or.inr (bx_eq rfl rfl ?_); (try dsimp only [C.ren, C.ren.all]); (try exact rfl)) | exact SVLe.refl | refine sle_i ?_ | refine sle_b ?_)
      all_goals first | exact (show nodupB _ = true from rfl) | exact Or.inr rfl | ((unfold held; rw [if_neg]; intro e; have e1 := marks_get k xs.length i.toNat (by omega); rw [← e, List.getElem?_eq_getElem (by omega)] at e1; simp only [Option.some.injEq] at e1; omega))
    · refine q_again (i + 1) [] (by exact stk) ?_ ?_
      · refine ⟨by omega, by omega, fun j h => ?_⟩
        by_cases hj : (j : Int) < i
        · exact k4 j hj
        · have : j = i.toNat := by omega
          subst this
          rw [List.getElem?_eq_getElem (by omega), hc]
          congr 1
          omega
      · omega
    · have hi : i = xs.length := by omega
      subst hi
      have hl := mark_end (k := k) (xs := xs) rfl fun j hj => k4 j (by omega)
      repeat (first | refine g_ret ?_ | refine q_sr ?_ | refine q_br ?_ | refine q_lr ?_ | refine q_cr ?_)
      refine ends_id ?_
      refine endK [] (h2 := ?_) (h3 := ?_) (nd := ?_)
      all_goals (repeat' first | with_reducible exact SVLe.refl | exact SVLe.any | exact SVLe.one (.sh rfl) | exact SVLe.one (.nil (by decide)) | refine SVLe.agg ?_ | refine SVLe.tup ?_ | exact TLe.nil | refine TLe.cons ?_ ?_ | exact CsLe.nil | refine CsLe.cons ?_ ?_ | exact CLe.refl | exact CLe.sh rfl | exact CLe.nil (by decide) | refine cle_i ?_ | refine cle_b ?_ | exact trivial | refine And.intro ?_ ?_ | exact Or.inl rfl | exact Or.inr rfl | refine Or.inr (row_eq ?_) | (refine Or.inr (bx_eq rfl rfl ?_); (try dsimp only [C.ren, C.ren.all]); (try exact rfl)) | exact SVLe.refl | refine sle_i ?_ | refine sle_b ?_)
      all_goals first | exact (show nodupB _ = true from rfl) | exact Or.inr rfl | ((unfold held; rw [if_pos hl]))
end Go.Proofs.Ytncccjpbaeaafaa
end
section
set_option linter.unusedVariables false
set_option linter.unusedSimpArgs false
set_option maxRecDepth 100000
set_option maxHeartbeats 4000000
namespace Go.Proofs.Ytncccjpbaeaafaa
open Go Foot
/-- Rules with numbers one behind the other. -/
@[irreducible] def marksR (k : Int) (n : Nat) : List Rule' := (List.range n).map fun (i : Nat) => ⟨k + 3 * (i : Int), k + 3 * (i : Int) + 1, k + 3 * (i : Int) + 2⟩
theorem marksR_len (k : Int) (n : Nat) : (marksR k n).length = n := by unfold marksR; simp
theorem marksR_get (k : Int) (n i : Nat) (h : i < n) : (marksR k n)[i]? = some ⟨k + 3 * i, k + 3 * i + 1, k + 3 * i + 2⟩ := by unfold marksR; simp [h]
theorem markR_end {k : Int} {xs l : List Rule'} (h1 : l.length = xs.length) (h2 : ∀ j (h : j < xs.length), l[j]? = some ⟨k + 3 * j, k + 3 * j + 1, k + 3 * j + 2⟩) : l = marksR k xs.length := by
  apply List.ext_getElem?
  intro j
  by_cases hj : j < xs.length
  · rw [marksR_get k _ j hj, h2 j hj]
  · rw [List.getElem?_eq_none (by omega), List.getElem?_eq_none (by rw [marksR_len]; omega)]
theorem preD2 {p : Prop} (h : p := by first | with_reducible assumption | omega | (simp only [List.length_append, List.length_cons, List.length_nil, List.length_set, List.length_replicate, List.length_take, List.length_drop, List.length_tail, List.length_dropLast, List.length_reverse] at *; omega) | exact mem_len (by assumption) (by omega) | (with_reducible refine Int.le_trans (Int.ofNat_le.2 (trimR_len _)) ?_; simp only [List.length_cons, List.length_tail]; omega) | (exact (ruAt_ok (by assumption) (by assumption) (by assumption)).2.1) | (exact (ruAt_ok (by assumption) (by assumption) (by assumption)).2.1) | (have := vMach_bd (by assumption); omega) | (simp only [mC_ch, mC_tu]; omega) | (with_reducible refine Int.le_trans (Int.ofNat_le.2 (pushL_len _ _)) ?_; simp only [List.length_dropLast]; omega) | exact (ask_ok (by assumption)).1 | exact (ask_ok (by assumption)).2.1 | exact (ask_ok (by assumption)).2.2.1 | exact (ask_ok (by assumption)).2.2.2 | (simp only [marks_len]; omega) | (simp only [marksR_len]; omega) | trivial) : p := h
theorem markRuleS_ok (m : Mach) (k : Int) (h1 : 0 ≤ k) (h2 : k ≤ 4611686018427387904) (hx : (m.ru.length : Int) ≤ 4611686018427) : Does Try.prog 55 [.one (.gv 0), .one (int k)] [.row 3 (rows eR m.ru)] (.one (int (k + 3 * m.ru.length))) [.row 3 (rows eR (marksR k m.ru.length))] := by
  refine does_of (k := 1) Try.func55 rfl Try.ntmps55 rfl rfl fun w F0 S0 ρ0 => ?_
  dsimp only [argT, argH]
  repeat' first
    | refine g_seq ?_
    | refine g_skip ?_
    | refine g_exit ?_
    | refine g_block ?_
    | refine g_reg ?_
    | refine g_if_t rfl ?_
    | refine g_if_f rfl ?_
    | refine o_nil ?_
    | refine q_s ?_
    | refine q_se ?_
    | refine q_b ?_
    | refine q_be rfl ?_
    | refine q_bn rfl ?_
    | refine q_le ?_
    | refine q_ce ?_
    | (apply p3; (first | exact pu1 | exact puN | exact a_len_str rfl (fT rfl) | exact puC | exact a_add rfl rfl (by omega) (by omega) | exact puI); exact rfl)
    | (apply w3; (first | exact a_st_bx rfl rfl rfl rfl (fN rfl rfl) (Nat.le_of_ble_eq_true rfl) rfl | exact a_st_rowI rfl rfl rfl rfl (fN rfl rfl) bnd | exact a_stE (E := eI) _ rfl rfl rfl rfl (fN rfl rfl) bnd (by exact rfl) | exact a_stF (E := eR) ⟨_, _, _⟩ rfl rfl rfl rfl (fN rfl rfl) (Nat.le_of_ble_eq_true rfl) (Nat.le_of_ble_eq_true rfl) (by first | exact List.getElem?_set_self bnd | exact List.getElem?_eq_getElem bnd) (by (try dsimp only [setRow, List.set_cons_succ, List.set_cons_zero]); first | done | exact rfl) rfl); exact rfl; (try dsimp only [setRow, List.map_cons, List.map_nil, scC, List.set_cons_zero, List.set_cons_succ, List.take_succ_cons, List.take_zero, List.drop_succ_cons, List.drop_zero, Nat.reduceAdd]))
    | (refine o_gs rfl rfl (fun hc => ?_) (fun hc => ?_) <;> (try simp only [decide_eq_true_eq, decide_eq_false_iff_not, Bool.not_eq_true', Bool.not_eq_false', Bool.not_eq_true, Bool.not_eq_false, Bool.and_eq_true, Bool.or_eq_false_iff, Bool.not_not] at hc) <;> (try (first | contradiction | (exfalso; omega))))
    | (refine g_cond rfl (fun hc => ?_) (fun hc => ?_) <;> (try simp only [decide_eq_true_eq, decide_eq_false_iff_not, Bool.not_eq_true', Bool.not_eq_false', Bool.not_eq_true, Bool.not_eq_false, Bool.and_eq_true, Bool.or_eq_false_iff, Bool.not_not] at hc) <;> (try (first | contradiction | (exfalso; omega))))
  refine g_loop_id ?_
  refine loopK [0, 4] [0] (fun y : Int × List Rule' => 0 ≤ y.1 ∧ y.1 ≤ m.ru.length ∧ y.2.length = m.ru.length ∧ ∀ (j : Nat), (j : Int) < y.1 → y.2[j]? = some ⟨k + 3 * j, k + 3 * j + 1, k + 3 * j + 2⟩) (fun y => [(5, .one (int y.1)), (1, .one (int (k + 3 * y.1)))]) (fun y => [(0, .row 3 (rows eR y.2))]) (fun y => (m.ru.length - y.1).toNat) ((0 : Int), m.ru) [0] (hI := ?_) (hr := ?_)
  · exact ⟨by simp, by simp, rfl, fun j h' => by simp at h'; omega⟩
  · rintro ⟨i, l⟩ ⟨k1, k2, k3, k4⟩
    dsimp only [List.cons_append, List.nil_append] at *
    skip
    repeat' first
      | refine g_seq ?_
      | refine g_skip ?_
      | refine g_exit ?_
      | refine g_block ?_
      | refine g_reg ?_
      | refine g_if_t rfl ?_
      | refine g_if_f rfl ?_
      | refine o_nil ?_
      | refine q_s ?_
      | refine q_se ?_
      | refine q_b ?_
      | refine q_be rfl ?_
      | refine q_bn rfl ?_
      | refine q_le ?_
      | refine q_ce ?_
      | (apply p3; (first | exact pu1 | exact puN | exact a_len_str rfl (fT rfl) | exact puC | exact a_add rfl rfl (by omega) (by omega) | exact puI); exact rfl)
      | (apply w3; (first | exact a_st_bx rfl rfl rfl rfl (fN rfl rfl) (Nat.le_of_ble_eq_true rfl) rfl | exact a_st_rowI rfl rfl rfl rfl (fN rfl rfl) bnd | exact a_stE (E := eI) _ rfl rfl rfl rfl (fN rfl rfl) bnd (by exact rfl) | exact a_stF (E := eR) ⟨_, _, _⟩ rfl rfl rfl rfl (fN rfl rfl) (Nat.le_of_ble_eq_true rfl) (Nat.le_of_ble_eq_true rfl) (by first | exact List.getElem?_set_self bnd | exact List.getElem?_eq_getElem bnd) (by (try dsimp only [setRow, List.set_cons_succ, List.set_cons_zero]); first | done | exact rfl) rfl); exact rfl; (try dsimp only [setRow, List.map_cons, List.map_nil, scC, List.set_cons_zero, List.set_cons_succ, List.take_succ_cons, List.take_zero, List.drop_succ_cons, List.drop_zero, Nat.reduceAdd]))
      | (refine o_gs rfl rfl (fun hc => ?_) (fun hc => ?_) <;> (try simp only [decide_eq_true_eq, decide_eq_false_iff_not, Bool.not_eq_true', Bool.not_eq_false', Bool.not_eq_true, Bool.not_eq_false, Bool.and_eq_true, Bool.or_eq_false_iff, Bool.not_not] at hc) <;> (try (first | contradiction | (exfalso; omega))))
      | (refine g_cond rfl (fun hc => ?_) (fun hc => ?_) <;> (try simp only [decide_eq_true_eq, decide_eq_false_iff_not, Bool.not_eq_true', Bool.not_eq_false', Bool.not_eq_true, Bool.not_eq_false, Bool.and_eq_true, Bool.or_eq_false_iff, Bool.not_not] at hc) <;> (try (first | contradiction | (exfalso; omega))))
    · refine q_again (i + 1, _) [0] (by exact stk) ?_ ?_
      · refine ⟨by dsimp only; omega, by dsimp only; omega, by simp [k3], fun j h => ?_⟩
        dsimp only at h ⊢
        simp only [List.set_set]
        rw [List.getElem?_set]
        split
        · rename_i e
          subst e
          rw [if_pos (by omega), show ((i.toNat : Nat) : Int) = i by omega, show k + 3 * i + 1 + 1 = k + 3 * i + 2 by omega]
        · exact k4 j (by omega)
      · dsimp only; omega
    · have hi : i = m.ru.length := by omega
      subst hi
      have hl := markR_end (k := k) k3 fun j hj => k4 j (by omega)
      rw [← hl]
      repeat (first | refine g_ret ?_ | refine q_sr ?_ | refine q_br ?_ | refine q_lr ?_ | refine q_cr ?_)
      refine ends_id ?_
      refine endK [] (h2 := ?_) (h3 := ?_) (nd := ?_)
      all_goals (repeat' first | with_reducible exact SVLe.refl | exact SVLe.any | exact SVLe.one (.sh rfl) | exact SVLe.one (.nil (by decide)) | refine SVLe.agg ?_ | refine SVLe.tup ?_ | exact TLe.nil | refine TLe.cons ?_ ?_ | exact CsLe.nil | refine CsLe.cons ?_ ?_ | exact CLe.refl | exact CLe.sh rfl | exact CLe.nil (by decide) | refine cle_i ?_ | refine cle_b ?_ | exact trivial | refine And.intro ?_ ?_ | exact Or.inl rfl | exact Or.inr rfl | refine Or.inr (row_eq ?_) | (refine Or.inr (bx_eq rfl rfl ?_); (try dsimp only [C.ren, C.ren.all]); (try exact rfl)) | exact SVLe.refl | refine sle_i ?_ | refine sle_b ?_)
      all_goals first | exact (show nodupB _ = true from rfl) | exact Or.inr rfl | (rfl)
theorem markMachR_ok (m : Mach) (k : Int) (h1 : 0 ≤ k) (h2 : k ≤ 4611686018427387904) (hx : (m.ru.length : Int) ≤ 4611686018427) : Does Try.prog 16 [.agg (maO m 0), .one (int k)] [.row 3 (rows eR m.ru)] (.one (int (k + 3 * m.ru.length))) [.row 3 (rows eR (marksR k m.ru.length))] := by
  refine does_of (k := 1) Try.func16 rfl Try.ntmps16 rfl rfl fun w F0 S0 ρ0 => ?_
  dsimp only [argT, argH]
  repeat' first
    | refine g_seq ?_
    | refine g_skip ?_
    | refine g_exit ?_
    | refine g_block ?_
    | refine g_reg ?_
    | refine g_if_t rfl ?_
    | refine g_if_f rfl ?_
    | refine o_nil ?_
    | refine q_s ?_
    | refine q_se ?_
    | refine q_b ?_
    | refine q_be rfl ?_
    | refine q_bn rfl ?_
    | refine q_le ?_
    | refine q_ce ?_
    | (apply n3; exact a_new (gb := .bx _) rfl; exact rfl; (try dsimp only [List.map_cons, List.map_nil, scC, Nat.reduceAdd]))
    | (apply p3; (first | exact pu1 | exact puL); exact rfl)
    | (apply c4 0; exact callK1 (θ := [_]) (hD := (markRuleS_ok _ _ preD2 preD2 preD2)); exact rfl; exact rfl; exact rfl; (try dsimp only [SV.ren, C.ren, C.ren.all, tRen, GB.ren, calF, upOf, List.cons_append, List.nil_append, Nat.reduceAdd]))
    | (refine o_gs rfl rfl (fun hc => ?_) (fun hc => ?_) <;> (try simp only [decide_eq_true_eq, decide_eq_false_iff_not, Bool.not_eq_true', Bool.not_eq_false', Bool.not_eq_true, Bool.not_eq_false, Bool.and_eq_true, Bool.or_eq_false_iff, Bool.not_not] at hc) <;> (try (first | contradiction | (exfalso; omega))))
    | (refine g_cond rfl (fun hc => ?_) (fun hc => ?_) <;> (try simp only [decide_eq_true_eq, decide_eq_false_iff_not, Bool.not_eq_true', Bool.not_eq_false', Bool.not_eq_true, Bool.not_eq_false, Bool.and_eq_true, Bool.or_eq_false_iff, Bool.not_not] at hc) <;> (try (first | contradiction | (exfalso; omega))))
  repeat (first | refine g_ret ?_ | refine q_sr ?_ | refine q_br ?_ | refine q_lr ?_ | refine q_cr ?_)
  refine ends_id ?_
  refine endK [] (h2 := ?_) (h3 := ?_) (nd := ?_)
  all_goals (repeat' first | with_reducible exact SVLe.refl | exact SVLe.any | exact SVLe.one (.sh rfl) | exact SVLe.one (.nil (by decide)) | refine SVLe.agg ?_ | refine SVLe.tup ?_ | exact TLe.nil | refine TLe.cons ?_ ?_ | exact CsLe.nil | refine CsLe.cons ?_ ?_ | exact CLe.refl | exact CLe.sh rfl | exact CLe.nil (by decide) | refine cle_i ?_ | refine cle_b ?_ | exact trivial | refine And.intro ?_ ?_ | exact Or.inl rfl | exact Or.inr rfl | refine Or.inr (row_eq ?_) | (refine Or.inr (bx_eq rfl rfl ?_); (try dsimp only [C.ren, C.ren.all]); (try exact rfl)) | exact SVLe.refl | refine sle_i ?_ | refine sle_b ?_)
  all_goals first | exact (show nodupB _ = true from rfl) | exact Or.inr rfl | (rfl)
end Go.Proofs.Ytncccjpbaeaafaa
end
section
set_option linter.unusedVariables false
set_option linter.unusedSimpArgs false
set_option maxRecDepth 100000
set_option maxHeartbeats 4000000
namespace Go.Proofs.Ytncccjpbaeaafaa
open Go Foot
theorem preD4 {p : Prop} (h : p := by first | with_reducible assumption | omega | (simp only [List.length_append, List.length_cons, List.length_nil, List.length_set, List.length_replicate, List.length_take, List.length_drop, List.length_tail, List.length_dropLast, List.length_reverse] at *; omega) | exact mem_len (by assumption) (by omega) | (with_reducible refine Int.le_trans (Int.ofNat_le.2 (trimR_len _)) ?_; simp only [List.length_cons, List.length_tail]; omega) | (exact (ruAt_ok (by assumption) (by assumption) (by assumption)).2.1) | (exact (ruAt_ok (by assumption) (by assumption) (by assumption)).2.1) | (have := vMach_bd (by assumption); omega) | (simp only [mC_ch, mC_tu]; omega) | (with_reducible refine Int.le_trans (Int.ofNat_le.2 (pushL_len _ _)) ?_; simp only [List.length_dropLast]; omega) | exact (ask_ok (by assumption)).1 | exact (ask_ok (by assumption)).2.1 | exact (ask_ok (by assumption)).2.2.1 | exact (ask_ok (by assumption)).2.2.2 | (simp only [marks_len]; omega) | (simp only [marksR_len]; omega) | trivial) : p := h
theorem markInt64SS0_ok (k : Int) : Does Try.prog 83 [.one (.gv 0), .one (int k)] [roW []] (.one (int k)) [roW []] := by
  refine does_of (k := 1) Try.func83 rfl Try.ntmps83 rfl rfl fun w F0 S0 ρ0 => ?_
  dsimp only [argT, argH]
  repeat' first
    | refine g_seq ?_
    | refine g_skip ?_
    | refine g_exit ?_
    | refine g_block ?_
    | refine g_reg ?_
    | refine g_if_t rfl ?_
    | refine g_if_f rfl ?_
    | refine o_nil ?_
    | refine q_s ?_
    | refine q_se ?_
    | refine q_b ?_
    | refine q_be rfl ?_
    | refine q_bn rfl ?_
    | refine q_le ?_
    | refine q_ce ?_
    | (apply p3; (first | exact pu1 | exact puL | exact puN | exact a_len_str rfl (fT rfl) | exact puC | exact a_add rfl rfl (by omega) (by omega) | exact puI); exact rfl)
    | (apply c4 0; exact callK1 (θ := [_]) (hD := (markInt64S_ok _ _ preD4 preD4 preD4)); exact rfl; exact rfl; exact rfl; (try dsimp only [SV.ren, C.ren, C.ren.all, tRen, GB.ren, calF, upOf, List.cons_append, List.nil_append, Nat.reduceAdd]))
    | (refine o_gs rfl rfl (fun hc => ?_) (fun hc => ?_) <;> (try simp only [decide_eq_true_eq, decide_eq_false_iff_not, Bool.not_eq_true', Bool.not_eq_false', Bool.not_eq_true, Bool.not_eq_false, Bool.and_eq_true, Bool.or_eq_false_iff, Bool.not_not] at hc) <;> (try (first | contradiction | (exfalso; omega))))
    | (refine g_cond rfl (fun hc => ?_) (fun hc => ?_) <;> (try simp only [decide_eq_true_eq, decide_eq_false_iff_not, Bool.not_eq_true', Bool.not_eq_false', Bool.not_eq_true, Bool.not_eq_false, Bool.and_eq_true, Bool.or_eq_false_iff, Bool.not_not] at hc) <;> (try (first | contradiction | (exfalso; omega))))
  refine g_loop_id ?_
  refine loopK [0, 1, 4] [] (fun i : Int => i = 0) (fun i => [(5, .one (int i))]) (fun _ => []) (fun i => 0) (0 : Int) [0] (hI := ?_) (hr := ?_)
  · rfl
  · rintro i h0
    dsimp only [List.cons_append, List.nil_append] at *
    skip
    repeat' first
      | refine g_seq ?_
      | refine g_skip ?_
      | refine g_exit ?_
      | refine g_block ?_
      | refine g_reg ?_
      | refine g_if_t rfl ?_
      | refine g_if_f rfl ?_
      | refine o_nil ?_
      | refine q_s ?_
      | refine q_se ?_
      | refine q_b ?_
      | refine q_be rfl ?_
      | refine q_bn rfl ?_
      | refine q_le ?_
      | refine q_ce ?_
      | (apply p3; (first | exact pu1 | exact puL | exact puN | exact a_len_str rfl (fT rfl) | exact puC | exact a_add rfl rfl (by omega) (by omega) | exact puI); exact rfl)
      | (apply c4 0; exact callK1 (θ := [_]) (hD := (markInt64S_ok _ _ preD4 preD4 preD4)); exact rfl; exact rfl; exact rfl; (try dsimp only [SV.ren, C.ren, C.ren.all, tRen, GB.ren, calF, upOf, List.cons_append, List.nil_append, Nat.reduceAdd]))
      | (refine o_gs rfl rfl (fun hc => ?_) (fun hc => ?_) <;> (try simp only [decide_eq_true_eq, decide_eq_false_iff_not, Bool.not_eq_true', Bool.not_eq_false', Bool.not_eq_true, Bool.not_eq_false, Bool.and_eq_true, Bool.or_eq_false_iff, Bool.not_not] at hc) <;> (try (first | contradiction | (exfalso; omega))))
      | (refine g_cond rfl (fun hc => ?_) (fun hc => ?_) <;> (try simp only [decide_eq_true_eq, decide_eq_false_iff_not, Bool.not_eq_true', Bool.not_eq_false', Bool.not_eq_true, Bool.not_eq_false, Bool.and_eq_true, Bool.or_eq_false_iff, Bool.not_not] at hc) <;> (try (first | contradiction | (exfalso; omega))))
    · exfalso; rw [List.length_nil] at hc; omega
    · repeat' first
        | refine g_seq ?_
        | refine g_skip ?_
        | refine g_exit ?_
        | refine g_block ?_
        | refine g_reg ?_
        | refine g_if_t rfl ?_
        | refine g_if_f rfl ?_
        | refine o_nil ?_
        | refine q_s ?_
        | refine q_se ?_
        | refine q_b ?_
        | refine q_be rfl ?_
        | refine q_bn rfl ?_
        | refine q_le ?_
        | refine q_ce ?_
        | (apply p3; (first | exact pu1 | exact puL | exact puN | exact a_len_str rfl (fT rfl) | exact puC | exact a_add rfl rfl (by omega) (by omega) | exact puI); exact rfl)
        | (apply c4 0; exact callK1 (θ := [_]) (hD := (markInt64S_ok _ _ preD4 preD4 preD4)); exact rfl; exact rfl; exact rfl; (try dsimp only [SV.ren, C.ren, C.ren.all, tRen, GB.ren, calF, upOf, List.cons_append, List.nil_append, Nat.reduceAdd]))
        | (refine o_gs rfl rfl (fun hc => ?_) (fun hc => ?_) <;> (try simp only [decide_eq_true_eq, decide_eq_false_iff_not, Bool.not_eq_true', Bool.not_eq_false', Bool.not_eq_true, Bool.not_eq_false, Bool.and_eq_true, Bool.or_eq_false_iff, Bool.not_not] at hc) <;> (try (first | contradiction | (exfalso; omega))))
        | (refine g_cond rfl (fun hc => ?_) (fun hc => ?_) <;> (try simp only [decide_eq_true_eq, decide_eq_false_iff_not, Bool.not_eq_true', Bool.not_eq_false', Bool.not_eq_true, Bool.not_eq_false, Bool.and_eq_true, Bool.or_eq_false_iff, Bool.not_not] at hc) <;> (try (first | contradiction | (exfalso; omega))))
      repeat (first | refine g_ret ?_ | refine q_sr ?_ | refine q_br ?_ | refine q_lr ?_ | refine q_cr ?_)
      refine ends_id ?_
      refine endK [] (h2 := ?_) (h3 := ?_) (nd := ?_)
      all_goals (repeat' first | with_reducible exact SVLe.refl | exact SVLe.any | exact SVLe.one (.sh rfl) | exact SVLe.one (.nil (by decide)) | refine SVLe.agg ?_ | refine SVLe.tup ?_ | exact TLe.nil | refine TLe.cons ?_ ?_ | exact CsLe.nil | refine CsLe.cons ?_ ?_ | exact CLe.refl | exact CLe.sh rfl | exact CLe.nil (by decide) | refine cle_i ?_ | refine cle_b ?_ | exact trivial | refine And.intro ?_ ?_ | exact Or.inl rfl | exact Or.inr rfl | refine Or.inr (row_eq ?_) | (refine Or.inr (bx_eq rfl rfl ?_); (try dsimp only [C.ren, C.ren.all]); (try exact rfl)) | exact SVLe.refl | refine sle_i ?_ | refine sle_b ?_)
      all_goals first | exact (show nodupB _ = true from rfl) | exact Or.inr rfl | (rfl)
theorem heldInt64SS0_ok (k : Int) : Does Try.prog 84 [.one (shW []), .one (int k)] [] (.one (int k)) [] := by
  refine does_of (k := 0) Try.func84 rfl Try.ntmps84 rfl rfl fun w F0 S0 ρ0 => ?_
  dsimp only [argT, argH]
  repeat' first
    | refine g_seq ?_
    | refine g_skip ?_
    | refine g_exit ?_
    | refine g_block ?_
    | refine g_reg ?_
    | refine g_if_t rfl ?_
    | refine g_if_f rfl ?_
    | refine o_nil ?_
    | refine q_s ?_
    | refine q_se ?_
    | refine q_b ?_
    | refine q_be rfl ?_
    | refine q_bn rfl ?_
    | refine q_le ?_
    | refine q_ce ?_
    | (apply p3; (first | exact pu1 | exact puL | exact puN | exact a_len_str rfl (fT rfl) | exact puC | exact a_add rfl rfl (by omega) (by omega) | exact puI); exact rfl)
    | (apply c4 0; exact callK1 (θ := []) (hD := (heldInt64S_ok _ _ preD4 preD4 preD4)); exact rfl; exact rfl; exact rfl; (try dsimp only [SV.ren, C.ren, C.ren.all, tRen, GB.ren, calF, upOf, List.cons_append, List.nil_append, Nat.reduceAdd]))
    | (refine o_gs rfl rfl (fun hc => ?_) (fun hc => ?_) <;> (try simp only [decide_eq_true_eq, decide_eq_false_iff_not, Bool.not_eq_true', Bool.not_eq_false', Bool.not_eq_true, Bool.not_eq_false, Bool.and_eq_true, Bool.or_eq_false_iff, Bool.not_not] at hc) <;> (try (first | contradiction | (exfalso; omega))))
    | (refine g_cond rfl (fun hc => ?_) (fun hc => ?_) <;> (try simp only [decide_eq_true_eq, decide_eq_false_iff_not, Bool.not_eq_true', Bool.not_eq_false', Bool.not_eq_true, Bool.not_eq_false, Bool.and_eq_true, Bool.or_eq_false_iff, Bool.not_not] at hc) <;> (try (first | contradiction | (exfalso; omega))))
  refine g_loop_id ?_
  refine loopK [0, 1, 4] [] (fun i : Int => i = 0) (fun i => [(5, .one (int i))]) (fun _ => []) (fun i => 0) (0 : Int) [] (hI := ?_) (hr := ?_)
  · rfl
  · rintro i h0
    dsimp only [List.cons_append, List.nil_append] at *
    skip
    repeat' first
      | refine g_seq ?_
      | refine g_skip ?_
      | refine g_exit ?_
      | refine g_block ?_
      | refine g_reg ?_
      | refine g_if_t rfl ?_
      | refine g_if_f rfl ?_
      | refine o_nil ?_
      | refine q_s ?_
      | refine q_se ?_
      | refine q_b ?_
      | refine q_be rfl ?_
      | refine q_bn rfl ?_
      | refine q_le ?_
      | refine q_ce ?_
      | (apply p3; (first | exact pu1 | exact puL | exact puN | exact a_len_str rfl (fT rfl) | exact puC | exact a_add rfl rfl (by omega) (by omega) | exact puI); exact rfl)
      | (apply c4 0; exact callK1 (θ := []) (hD := (heldInt64S_ok _ _ preD4 preD4 preD4)); exact rfl; exact rfl; exact rfl; (try dsimp only [SV.ren, C.ren, C.ren.all, tRen, GB.ren, calF, upOf, List.cons_append, List.nil_append, Nat.reduceAdd]))
      | (refine o_gs rfl rfl (fun hc => ?_) (fun hc => ?_) <;> (try simp only [decide_eq_true_eq, decide_eq_false_iff_not, Bool.not_eq_true', Bool.not_eq_false', Bool.not_eq_true, Bool.not_eq_false, Bool.and_eq_true, Bool.or_eq_false_iff, Bool.not_not] at hc) <;> (try (first | contradiction | (exfalso; omega))))
      | (refine g_cond rfl (fun hc => ?_) (fun hc => ?_) <;> (try simp only [decide_eq_true_eq, decide_eq_false_iff_not, Bool.not_eq_true', Bool.not_eq_false', Bool.not_eq_true, Bool.not_eq_false, Bool.and_eq_true, Bool.or_eq_false_iff, Bool.not_not] at hc) <;> (try (first | contradiction | (exfalso; omega))))
    · exfalso; rw [List.length_nil] at hc; omega
    · repeat' first
        | refine g_seq ?_
        | refine g_skip ?_
        | refine g_exit ?_
        | refine g_block ?_
        | refine g_reg ?_
        | refine g_if_t rfl ?_
        | refine g_if_f rfl ?_
        | refine o_nil ?_
        | refine q_s ?_
        | refine q_se ?_
        | refine q_b ?_
        | refine q_be rfl ?_
        | refine q_bn rfl ?_
        | refine q_le ?_
        | refine q_ce ?_
        | (apply p3; (first | exact pu1 | exact puL | exact puN | exact a_len_str rfl (fT rfl) | exact puC | exact a_add rfl rfl (by omega) (by omega) | exact puI); exact rfl)
        | (apply c4 0; exact callK1 (θ := []) (hD := (heldInt64S_ok _ _ preD4 preD4 preD4)); exact rfl; exact rfl; exact rfl; (try dsimp only [SV.ren, C.ren, C.ren.all, tRen, GB.ren, calF, upOf, List.cons_append, List.nil_append, Nat.reduceAdd]))
        | (refine o_gs rfl rfl (fun hc => ?_) (fun hc => ?_) <;> (try simp only [decide_eq_true_eq, decide_eq_false_iff_not, Bool.not_eq_true', Bool.not_eq_false', Bool.not_eq_true, Bool.not_eq_false, Bool.and_eq_true, Bool.or_eq_false_iff, Bool.not_not] at hc) <;> (try (first | contradiction | (exfalso; omega))))
        | (refine g_cond rfl (fun hc => ?_) (fun hc => ?_) <;> (try simp only [decide_eq_true_eq, decide_eq_false_iff_not, Bool.not_eq_true', Bool.not_eq_false', Bool.not_eq_true, Bool.not_eq_false, Bool.and_eq_true, Bool.or_eq_false_iff, Bool.not_not] at hc) <;> (try (first | contradiction | (exfalso; omega))))
      repeat (first | refine g_ret ?_ | refine q_sr ?_ | refine q_br ?_ | refine q_lr ?_ | refine q_cr ?_)
      refine ends_id ?_
      refine endK [] (h2 := ?_) (h3 := ?_) (nd := ?_)
      all_goals (repeat' first | with_reducible exact SVLe.refl | exact SVLe.any | exact SVLe.one (.sh rfl) | exact SVLe.one (.nil (by decide)) | refine SVLe.agg ?_ | refine SVLe.tup ?_ | exact TLe.nil | refine TLe.cons ?_ ?_ | exact CsLe.nil | refine CsLe.cons ?_ ?_ | exact CLe.refl | exact CLe.sh rfl | exact CLe.nil (by decide) | refine cle_i ?_ | refine cle_b ?_ | exact trivial | refine And.intro ?_ ?_ | exact Or.inl rfl | exact Or.inr rfl | refine Or.inr (row_eq ?_) | (refine Or.inr (bx_eq rfl rfl ?_); (try dsimp only [C.ren, C.ren.all]); (try exact rfl)) | exact SVLe.refl | refine sle_i ?_ | refine sle_b ?_)
      all_goals first | exact (show nodupB _ = true from rfl) | exact Or.inr rfl | (rfl)
theorem markProof0_ok (kd : Int) (nu : List Int) (k : Int) (h1 : 0 ≤ k) (h2 : k ≤ 4611686018427387904) (hx : (nu.length : Int) ≤ 4611686018427) : Does Try.prog 43 [.agg [int kd, .gv 0, .gv 1], .one (int k)] [roI nu, roW []] (.one (int (k + nu.length))) [roI (marks k nu.length), roW []] := by
  refine does_of (k := 2) Try.func43 rfl Try.ntmps43 rfl rfl fun w F0 S0 ρ0 => ?_
  dsimp only [argT, argH]
  repeat' first
    | refine g_seq ?_
    | refine g_skip ?_
    | refine g_exit ?_
    | refine g_block ?_
    | refine g_reg ?_
    | refine g_if_t rfl ?_
    | refine g_if_f rfl ?_
    | refine o_nil ?_
    | refine q_s ?_
    | refine q_se ?_
    | refine q_b ?_
    | refine q_be rfl ?_
    | refine q_bn rfl ?_
    | refine q_le ?_
    | refine q_ce ?_
    | (apply n3; exact a_new (gb := .bx _) rfl; exact rfl; (try dsimp only [List.map_cons, List.map_nil, scC, Nat.reduceAdd]))
    | (apply p3; (first | exact pu1 | exact puL); exact rfl)
    | (apply c4 0; exact callK1 (θ := [_]) (hD := (markInt64S_ok _ _ preD4 preD4 preD4)); exact rfl; exact rfl; exact rfl; (try dsimp only [SV.ren, C.ren, C.ren.all, tRen, GB.ren, calF, upOf, List.cons_append, List.nil_append, Nat.reduceAdd]))
    | (apply c4 0; exact callK0 (θ := [_]) (hD := (markInt64SS0_ok _)); exact rfl; exact rfl; exact rfl; (try dsimp only [SV.ren, C.ren, C.ren.all, tRen, GB.ren, calF, upOf, List.cons_append, List.nil_append, Nat.reduceAdd]))
    | (refine o_gs rfl rfl (fun hc => ?_) (fun hc => ?_) <;> (try simp only [decide_eq_true_eq, decide_eq_false_iff_not, Bool.not_eq_true', Bool.not_eq_false', Bool.not_eq_true, Bool.not_eq_false, Bool.and_eq_true, Bool.or_eq_false_iff, Bool.not_not] at hc) <;> (try (first | contradiction | (exfalso; omega))))
    | (refine g_cond rfl (fun hc => ?_) (fun hc => ?_) <;> (try simp only [decide_eq_true_eq, decide_eq_false_iff_not, Bool.not_eq_true', Bool.not_eq_false', Bool.not_eq_true, Bool.not_eq_false, Bool.and_eq_true, Bool.or_eq_false_iff, Bool.not_not] at hc) <;> (try (first | contradiction | (exfalso; omega))))
  repeat (first | refine g_ret ?_ | refine q_sr ?_ | refine q_br ?_ | refine q_lr ?_ | refine q_cr ?_)
  refine ends_id ?_
  refine endK [] (h2 := ?_) (h3 := ?_) (nd := ?_)
  all_goals (repeat' first | with_reducible exact SVLe.refl | exact SVLe.any | exact SVLe.one (.sh rfl) | exact SVLe.one (.nil (by decide)) | refine SVLe.agg ?_ | refine SVLe.tup ?_ | exact TLe.nil | refine TLe.cons ?_ ?_ | exact CsLe.nil | refine CsLe.cons ?_ ?_ | exact CLe.refl | exact CLe.sh rfl | exact CLe.nil (by decide) | refine cle_i ?_ | refine cle_b ?_ | exact trivial | refine And.intro ?_ ?_ | exact Or.inl rfl | exact Or.inr rfl | refine Or.inr (row_eq ?_) | (refine Or.inr (bx_eq rfl rfl ?_); (try dsimp only [C.ren, C.ren.all]); (try exact rfl)) | exact SVLe.refl | refine sle_i ?_ | refine sle_b ?_)
  all_goals first | exact (show nodupB _ = true from rfl) | exact Or.inr rfl | (rfl)
theorem heldProof0_ok (kd : Int) (nu : List Int) (k : Int) (h1 : 0 ≤ k) (h2 : k ≤ 4611686018427387904) (hx : (nu.length : Int) ≤ 4611686018427) : Does Try.prog 44 [.agg [int kd, shI nu, shW []], .one (int k)] [] (.one (int (held k nu))) [] := by
  refine does_of (k := 0) Try.func44 rfl Try.ntmps44 rfl rfl fun w F0 S0 ρ0 => ?_
  dsimp only [argT, argH]
  repeat' first
    | refine g_seq ?_
    | refine g_skip ?_
    | refine g_exit ?_
    | refine g_block ?_
    | refine g_reg ?_
    | refine g_if_t rfl ?_
    | refine g_if_f rfl ?_
    | refine o_nil ?_
    | refine q_s ?_
    | refine q_se ?_
    | refine q_b ?_
    | refine q_be rfl ?_
    | refine q_bn rfl ?_
    | refine q_le ?_
    | refine q_ce ?_
    | (apply n3; exact a_new (gb := .bx _) rfl; exact rfl; (try dsimp only [List.map_cons, List.map_nil, scC, Nat.reduceAdd]))
    | (apply p3; (first | exact pu1 | exact puL | exact puC); exact rfl)
    | (apply c4 0; exact callK1 (θ := []) (hD := (heldInt64S_ok _ _ preD4 preD4 preD4)); exact rfl; exact rfl; exact rfl; (try dsimp only [SV.ren, C.ren, C.ren.all, tRen, GB.ren, calF, upOf, List.cons_append, List.nil_append, Nat.reduceAdd]))
    | (apply c4 0; exact callK1 (θ := []) (hD := (heldInt64SS0_ok _)); exact rfl; exact rfl; exact rfl; (try dsimp only [SV.ren, C.ren, C.ren.all, tRen, GB.ren, calF, upOf, List.cons_append, List.nil_append, Nat.reduceAdd]))
    | (refine o_gs rfl rfl (fun hc => ?_) (fun hc => ?_) <;> (try simp only [decide_eq_true_eq, decide_eq_false_iff_not, Bool.not_eq_true', Bool.not_eq_false', Bool.not_eq_true, Bool.not_eq_false, Bool.and_eq_true, Bool.or_eq_false_iff, Bool.not_not] at hc) <;> (try (first | contradiction | (exfalso; omega))))
    | (refine g_cond rfl (fun hc => ?_) (fun hc => ?_) <;> (try simp only [decide_eq_true_eq, decide_eq_false_iff_not, Bool.not_eq_true', Bool.not_eq_false', Bool.not_eq_true, Bool.not_eq_false, Bool.and_eq_true, Bool.or_eq_false_iff, Bool.not_not] at hc) <;> (try (first | contradiction | (exfalso; omega))))
  · have hh : held k nu = -1 := by
      unfold held at hc ⊢
      split
      · rename_i h; rw [if_pos h] at hc; omega
      · rfl
    rw [hh]
    repeat (first | refine g_ret ?_ | refine q_sr ?_ | refine q_br ?_ | refine q_lr ?_ | refine q_cr ?_)
    refine ends_id ?_
    refine endK [] (h2 := ?_) (h3 := ?_) (nd := ?_)
    all_goals (repeat' first | with_reducible exact SVLe.refl | exact SVLe.any | exact SVLe.one (.sh rfl) | exact SVLe.one (.nil (by decide)) | refine SVLe.agg ?_ | refine SVLe.tup ?_ | exact TLe.nil | refine TLe.cons ?_ ?_ | exact CsLe.nil | refine CsLe.cons ?_ ?_ | exact CLe.refl | exact CLe.sh rfl | exact CLe.nil (by decide) | refine cle_i ?_ | refine cle_b ?_ | exact trivial | refine And.intro ?_ ?_ | exact Or.inl rfl | exact Or.inr rfl | refine Or.inr (row_eq ?_) | (refine Or.inr (bx_eq rfl rfl ?_); (try dsimp only [C.ren, C.ren.all]); (try exact rfl)) | exact SVLe.refl | refine sle_i ?_ | refine sle_b ?_)
    all_goals first | exact (show nodupB _ = true from rfl) | exact Or.inr rfl | (rfl)
  · repeat (first | refine g_ret ?_ | refine q_sr ?_ | refine q_br ?_ | refine q_lr ?_ | refine q_cr ?_)
    refine ends_id ?_
    refine endK [] (h2 := ?_) (h3 := ?_) (nd := ?_)
    all_goals (repeat' first | with_reducible exact SVLe.refl | exact SVLe.any | exact SVLe.one (.sh rfl) | exact SVLe.one (.nil (by decide)) | refine SVLe.agg ?_ | refine SVLe.tup ?_ | exact TLe.nil | refine TLe.cons ?_ ?_ | exact CsLe.nil | refine CsLe.cons ?_ ?_ | exact CLe.refl | exact CLe.sh rfl | exact CLe.nil (by decide) | refine cle_i ?_ | refine cle_b ?_ | exact trivial | refine And.intro ?_ ?_ | exact Or.inl rfl | exact Or.inr rfl | refine Or.inr (row_eq ?_) | (refine Or.inr (bx_eq rfl rfl ?_); (try dsimp only [C.ren, C.ren.all]); (try exact rfl)) | exact SVLe.refl | refine sle_i ?_ | refine sle_b ?_)
    all_goals first | exact (show nodupB _ = true from rfl) | exact Or.inr rfl | (rfl)
end Go.Proofs.Ytncccjpbaeaafaa
end
