/- For every machine and every budget: the program's IsTnf answers as the reference's does, and leaves its argument alone. The tables of the library that the rows list are tied to the program's text. -/
import Derived.Test.YtcmdfohamphndaaGreatDoorQ21
import Derived.SevenTiedAt
import Derived.Test.YtcmdfohamphndaaGreatDoorCards
import Derived.Test.YtcmdfohamphndaaGreatDoorTie
set_option linter.unusedVariables false
set_option linter.unusedSimpArgs false
set_option maxRecDepth 100000
set_option maxHeartbeats 4000000
namespace Go.Proofs.YtcmdfohamphndaaGreatDoor
open Go Foot Go.ChangeShapes Go.WideShapes Go.ChangeAt Go.RowKit Go.Deep
theorem preC19 {p : Prop} (h : p := by first | with_reducible assumption | omega | (simp only [List.length_append, List.length_cons, List.length_nil, List.length_set, List.length_replicate, List.length_take, List.length_drop, List.length_tail, List.length_dropLast, List.length_reverse] at *; omega) | exact mem_len (by assumption) (by omega) | (with_reducible refine Int.le_trans (Int.ofNat_le.2 (trimR_len _)) ?_; simp only [List.length_cons, List.length_tail]; omega) | (exact (ruAt_ok (by assumption) (by assumption) (by assumption)).2.1) | (exact (ruAt_ok (by assumption) (by assumption) (by assumption)).2.1) | (have := vMach_bd (by assumption); omega) | (simp only [mC_ch, mC_tu]; omega) | (have := vTag_bd (by assumption); omega) | (have := (‹Gd _ _›).le; omega) | (exact tgHalts_no (by assumption)) | (exact tgHead (by assumption) (by assumption) (by assumption)) | (exact Int.le_trans (tgStep_gd (by assumption) (by assumption) (by assumption) (by assumption)).le (by decide)) | (exact vTag_r (by assumption)) | (with_reducible refine Int.le_trans (Int.ofNat_le.2 (pushL_len _ _)) ?_; simp only [List.length_dropLast]; omega) | exact ls_at (by assumption) (by omega) | exact pt_gd (by assumption) | exact lv_at (by assumption) (by omega) | exact pt_gd (lv_at (by assumption) (by omega)) | exact (ask_ok (by assumption)).1 | exact (ask_ok (by assumption)).2.1 | exact (ask_ok (by assumption)).2.2.1 | exact (ask_ok (by assumption)).2.2.2 | (simp only [marks_len]; omega) | (simp only [marksR_len]; omega) | exact lns_at (by assumption) (by omega) | exact bgs_at (by assumption) (by omega) | trivial) : p := h
theorem lawIsTnf (m : Mach) (b : Int) (hm : m.ru.length ≤ maxLen) : Does Tryz.prog 7 [.agg (maC m), .one (int b)] [] (.one (boo true)) [] := by
  have h1 : (m.ru.length : Int) ≤ 9223372036854775807 := by unfold maxLen at hm; omega
  clear hm
  have h4 := szL_le (n := m.ru.length) (l := 1048576) (by omega)
  by_cases ha : szL m.ru.length 1048576 < 0
  · refine does_of (k := 0) Tryz.func7 rfl Tryz.ntmps7 rfl rfl fun w F0 S0 ρ0 => ?_
    dsimp only [argT, argH]
    repeat' first | (apply n3; exact a_new (gb := .bx _) rfl; exact rfl; refine dA ?_) | (apply p3; (first | exact pu1 | exact puL | exact puC | exact a_neB rfl rfl (by kernel_rfl)); exact rfl) | refine cd ?_ | (apply w3; (first | exact a_st_bx rfl rfl rfl rfl (fN rfl rfl) (Nat.le_of_ble_eq_true rfl) rfl | exact a_stE (E := eMa) ⟨_, _, _⟩ rfl rfl rfl rfl (fN rfl rfl) bnd (by exact rfl)); exact rfl; refine dS ?_) | (apply c4 0; exact callK1 (θ := []) (hD := (szMachine_ok _ _ preC19 preC19 preC19)); exact rfl; exact rfl; exact rfl; refine dM ?_) | (apply c4 1; exact callK1 (θ := []) (hD := (toMachine_ok _ preC19)); exact rfl; exact rfl; exact rfl; refine dM ?_) | (apply c4 0; exact callK1 (θ := []) (hD := (sIsTnf_ok _ _ preC19)); exact rfl; exact rfl; exact rfl; refine dM ?_) | (apply c4 0; exact callK1 (θ := []) (hD := (iIsTnf_ok _ _ preC19)); exact rfl; exact rfl; exact rfl; refine dM ?_) | (apply g_drN (id := 10) okM [[],[],[1],[0,1,2],[0,1,2,3]] [([],[]),([],[]),([0],[]),([],[]),([],[])] 1; (focus (refine dp 0 0 [27, 28] [(true, 0)] puL ?_; refine dp 1 0 [26] [] puL ?_; refine duN 2 1 [26] [] (callD1 (n := _) 0 (θ := []) (hD := (toMachine_ok _ preC19))) (by exact rfl) (by exact rfl) ?_; refine dp 3 7 [] [] (callD1 (n := _) 1 (θ := []) (hD := (eqMachine_ok _ _ preC19 preC19))) ?_; refine dp 4 15 [] [] (a_pure (sv := .one _) rfl) ?_; (refine d_nil ?_; refine dN ?_))); any_goals kernel_rfl) | ((first | refine o_gs rfl rfl (fun hc => ?_) (fun hc => ?_) | refine g_cond rfl (fun hc => ?_) (fun hc => ?_)) <;> (try simp only [dcB] at hc) <;> (try first | contradiction | (exfalso; omega)))
    repeat refine cr ?_
    refine ends_id ?_
    refine endK [] (h2 := ?_) (h3 := ?_) (nd := ?_)
    all_goals (repeat' first | exact ce0 | refine ce ?_ | refine ce2 ?_ ?_ | exact SVLe.refl | refine ceb ?_)
    all_goals first | exact (show nodupB _ = true from rfl) | exact Or.inr rfl | (rfl)
  have k1 := szL_ge (by omega) ha
  have km : ¬ eqM m m = false := by simp [eqM]
  have kt : ¬ (tnB m b == tnB m b) = false := by simp
  refine does_of (k := 0) Tryz.func7 rfl Tryz.ntmps7 rfl rfl fun w F0 S0 ρ0 => ?_
  dsimp only [argT, argH]
  repeat' first | (apply n3; exact a_new (gb := .bx _) rfl; exact rfl; refine dA ?_) | (apply p3; (first | exact pu1 | exact puL | exact puC | exact a_neB rfl rfl (by kernel_rfl)); exact rfl) | refine cd ?_ | (apply w3; (first | exact a_st_bx rfl rfl rfl rfl (fN rfl rfl) (Nat.le_of_ble_eq_true rfl) rfl | exact a_stE (E := eMa) ⟨_, _, _⟩ rfl rfl rfl rfl (fN rfl rfl) bnd (by exact rfl)); exact rfl; refine dS ?_) | (apply c4 0; exact callK1 (θ := []) (hD := (szMachine_ok _ _ preC19 preC19 preC19)); exact rfl; exact rfl; exact rfl; refine dM ?_) | (apply c4 1; exact callK1 (θ := []) (hD := (toMachine_ok _ preC19)); exact rfl; exact rfl; exact rfl; refine dM ?_) | (apply c4 0; exact callK1 (θ := []) (hD := (sIsTnf_ok _ _ preC19)); exact rfl; exact rfl; exact rfl; refine dM ?_) | (apply c4 0; exact callK1 (θ := []) (hD := (iIsTnf_ok _ _ preC19)); exact rfl; exact rfl; exact rfl; refine dM ?_) | (apply g_drN (id := 10) okM [[],[],[1],[0,1,2],[0,1,2,3]] [([],[]),([],[]),([0],[]),([],[]),([],[])] 1; (focus (refine dp 0 0 [27, 28] [(true, 0)] puL ?_; refine dp 1 0 [26] [] puL ?_; refine duN 2 1 [26] [] (callD1 (n := _) 0 (θ := []) (hD := (toMachine_ok _ preC19))) (by exact rfl) (by exact rfl) ?_; refine dp 3 7 [] [] (callD1 (n := _) 1 (θ := []) (hD := (eqMachine_ok _ _ preC19 preC19))) ?_; refine dp 4 15 [] [] (a_pure (sv := .one _) rfl) ?_; (refine d_nil ?_; refine dN ?_))); any_goals kernel_rfl) | ((first | refine o_gs rfl rfl (fun hc => ?_) (fun hc => ?_) | refine g_cond rfl (fun hc => ?_) (fun hc => ?_)) <;> (try simp only [dcB] at hc) <;> (try first | contradiction | (exfalso; omega)))
  repeat refine cr ?_
  refine ends_id ?_
  refine endK [] (h2 := ?_) (h3 := ?_) (nd := ?_)
  all_goals (repeat' first | exact ce0 | refine ce ?_ | refine ce2 ?_ ?_ | exact SVLe.refl | refine ceb ?_)
  all_goals first | exact (show nodupB _ = true from rfl) | exact Or.inr rfl | (rfl)
set_option maxRecDepth 100000 in
set_option maxRecDepth 100000 in
theorem liftedFnExactIsTnf (os : Os) (started : os.Started) (H : Type) (enc : TypeId × Value → H) : ReturnsInHanded {} Tryz.checked os 7 .any (fun w args => (Rows.fnExactIsTnfSpec.pre enc Tryz.prog Tryz.f7 [] false w args ∧ laidMetH Tryz.prog Rows.fnExactIsTnfRow.laid w) ∧ sizedMet enc Tryz.prog Tryz.f7 (OpenSpec.ofChange Rows.fnExactIsTnfSpec) false w args) (Rows.fnExactIsTnfSpec.post enc Tryz.prog Tryz.f7 false true false false) := by
  refine returnsInHanded_of_change_and (C := Tryz.checked) (X := fun w _ => laidMetH Tryz.prog Rows.fnExactIsTnfRow.laid w) (fun _ _ _ hh h => h.of_heap hh) own started (by kernel_rfl) Tryz.func7 (ChangeSpec.witness_shaped (enc := enc) (C := Tryz.checked) (os := os) (X := fun w _ => laidMetH Tryz.prog Rows.fnExactIsTnfRow.laid w) false (World.doorLaid Tryz.prog doorN os) #[.agg #[.int .i64 0, .int .i64 0, .slice none 0 0], .int .i64 0] 12 rfl (World.shaped_of_RefB (by kernel_rfl) (by kernel_rfl)) (by kernel_rfl) (by kernel_rfl) (by kernel_rfl) (door_met os _)) ?_
  intro W base args ds gs before hval0 hW hcnd _ hL _
  have hval : ∀ (j : Nat) t v, Tryz.f7.params[j]? = some t → args[j]? = some v → Value.okWide Tryz.prog W .any base t v := hval0
  have hW' := hW
  obtain ⟨p, q, hA0, hV, rfl, hfz, hnd⟩ := hW
  have hA : DataW.TrodAll enc Tryz.prog W 0 (fun _ => true) true Tryz.f7.params.toList args.toList ds p := hA0
  rw [Tryz.params7] at hA hval
  obtain ⟨v0, vs0, d0, ds0, p0, r0, hargs, rfl, rfl, h0, s0⟩ := trodAll_cons hA
  obtain ⟨v1, vs1, d1, ds1, p1, r1, rfl, rfl, rfl, h1, s1⟩ := trodAll_cons s0
  obtain ⟨rfl, rfl, rfl⟩ := trodAll_nil s1
  obtain rfl : args = #[v0, v1] := by cases args; simp_all
  obtain ⟨rfl, rfl⟩ := trodVars_none hV
  have k0 := h0
  have k1 := h1
  have lt0 : ∀ x ∈ p0, x.block < W.heap.size := by obtain ⟨m, hm⟩ := k0; exact DataW.trod_lt m _ _ _ hm
  have lt1 : ∀ x ∈ p1, x.block < W.heap.size := by obtain ⟨m, hm⟩ := k1; exact DataW.trod_lt m _ _ _ hm
  obtain ⟨a0, e0, q0⟩ := arg_agg (ρ := fun _ => none) Tryz.underlying44 (hval 0 44 v0 rfl rfl) h0 opens_machine
  obtain ⟨_, rfl⟩ := okWide_int Tryz.underlying2 (hval 1 2 v1 rfl rfl)
  obtain ⟨a1, e1, q1⟩ := arg_one (ρ := fun _ => none) rfl h1 opens_i
  clear hA0 hval0
  refine (does_calls (lawIsTnf a0 a1 q0.2.2.1) (tabs_met hL) ⟨_, _, rfl, e0, ⟨_, _, rfl, e1, rfl⟩⟩).mono fun e W' ⟨he, bel⟩ => ?_
  subst he
  exact ⟨_, rfl, _, _, _, [], _, [], hW', trodAll_mk1 (shut_bool Tryz.underlying4 _), (trodAll_cons_mk (Below.trod laidOut (by kernel_rfl) (of_decide_eq_true (by kernel_rfl)) k0 bel lt0) (trodAll_cons_mk (Below.trod laidOut (by kernel_rfl) (of_decide_eq_true (by kernel_rfl)) k1 bel lt1) trodAll_mk0)), rfl, bel.frame _, fun h => by cases h⟩
theorem fact0FnExactIsTnf : (Rows.fnExactIsTnfRow.inPlace == Tryz.pinned.checked.prog.inPlace 7) = true := by kernel_rfl
theorem fact1FnExactIsTnf : (Rows.fnExactIsTnfRow.unfollowed == Tryz.pinned.checked.prog.unfollowed 7) = true := by kernel_rfl
theorem fact2FnExactIsTnf : (Rows.fnExactIsTnfRow.recurses == Tryz.pinned.checked.prog.recurses 7) = true := by kernel_rfl
theorem fact3FnExactIsTnf : (Rows.fnExactIsTnfRow.named == Tryz.pinned.checked.prog.varsNamed 7) = true := by kernel_rfl
theorem closedFnExactIsTnf : joinedFacts Tryz.pinned.checked.prog 7 Tryz.f7 Rows.fnExactIsTnfSpec Rows.fnExactIsTnfRow = true := by
  unfold joinedFacts
  rw [fact0FnExactIsTnf, fact1FnExactIsTnf, fact2FnExactIsTnf, fact3FnExactIsTnf]
  kernel_rfl
theorem provedFnExactIsTnf : Rows.FnExactIsTnfSaid :=
  OpenClaim.holds_of_wide 7 Tryz.f7 rfl rfl rfl rfl rfl rfl rfl ⟨rfl, rfl, rfl, rfl, rfl⟩ rfl rfl rfl rfl rfl (by kernel_rfl) Tryz.func7 closedFnExactIsTnf
    (of_decide_eq_true (by kernel_rfl)) (by unfold Func.isWrapper; first | (rw [if_pos (by decide +kernel)]; kernel_rfl) | (rw [if_neg (by decide +kernel)]; exact ⟨rfl, rfl⟩))
    (fun os started H enc _ => liftedFnExactIsTnf os started H enc)
theorem card1FnExactIsTnf : Rows.fnExactIsTnfRow.wfByText (OpenSpec.ofChange Rows.fnExactIsTnfSpec) = true := by kernel_rfl
theorem card2FnExactIsTnf : Tryz.pinned.checked.prog.mainIs = some (Rows.fnExactIsTnfCard.stood.harness.1, Rows.fnExactIsTnfCard.stood.harness.2.toList) := by kernel_rfl
theorem card3FnExactIsTnf : true = Tryz.pinned.checked.prog.looks [] := by kernel_rfl
theorem card4FnExactIsTnf : false = Rows.fnExactIsTnfRow.goesBy Tryz.pinned.checked.prog := by kernel_rfl
theorem card5FnExactIsTnf : Tryz.prog.funcNamed "loop.example/g01079/laws.FnExactIsTnf" = some 7 := by kernel_rfl
theorem card6FnExactIsTnf : ([44, 2].all fun u => !Tryz.prog.wantsStandIn u) = true := by kernel_rfl
theorem provedCardFnExactIsTnf : Rows.FnExactIsTnfCardSaid :=
  Claim7.holds_tied_plain_at .later [] [.data, .data, .data] true Rows.fnExactIsTnfCard.stood.harness true provedFnExactIsTnf (fun _ h => by cases h) card1FnExactIsTnf (fun _ h => by cases h) fnExactIsTnf_row_tie rfl ⟨rfl, rfl⟩ card2FnExactIsTnf rfl
    (fun f fn hf hfn => by
      obtain rfl : f = 7 := Option.some.inj (card5FnExactIsTnf.symm.trans hf) |>.symm
      obtain rfl : fn = Tryz.f7 := (Option.some.inj (Tryz.func7.symm.trans hfn)).symm
      exact ⟨card3FnExactIsTnf, fun j t ht => by
        rw [Tryz.params7] at ht
        have hm : t ∈ [44, 2] := by simpa using Array.mem_of_getElem? ht
        exact (show Tryz.prog.wantsStandIn t = false by simpa using List.all_eq_true.1 card6FnExactIsTnf t hm)⟩)
    card4FnExactIsTnf
end Go.Proofs.YtcmdfohamphndaaGreatDoor
