/- For every machine and every budget: the program's FindBackward finds the proof that the reference's finds, with the same code, leaves its argument alone, and hands back a proof of its own. The tables of the library that the rows list are tied to the program's text. -/
import Derived.Test.YtbekdojhcokalaaGreatDoorQ19
import Derived.SevenTiedAt
import Derived.Test.YtbekdojhcokalaaGreatDoorCards
import Derived.Test.YtbekdojhcokalaaGreatDoorTie
set_option linter.unusedVariables false
set_option linter.unusedSimpArgs false
set_option maxRecDepth 100000
set_option maxHeartbeats 4000000
namespace Go.Proofs.YtbekdojhcokalaaGreatDoor
open Go Foot Go.ChangeShapes Go.WideShapes Go.ChangeAt Go.RowKit Go.Deep
theorem fb_nu (m : Mach) (b : Int) : ((fbP m b).nu.length : Int) ≤ 3 := by
  unfold fbP
  split <;> simp
theorem preC16 {p : Prop} (h : p := by first | with_reducible assumption | omega | (simp only [List.length_append, List.length_cons, List.length_nil, List.length_set, List.length_replicate, List.length_take, List.length_drop, List.length_tail, List.length_dropLast, List.length_reverse] at *; omega) | exact mem_len (by assumption) (by omega) | (with_reducible refine Int.le_trans (Int.ofNat_le.2 (trimR_len _)) ?_; simp only [List.length_cons, List.length_tail]; omega) | (exact (ruAt_ok (by assumption) (by assumption) (by assumption)).2.1) | (exact (ruAt_ok (by assumption) (by assumption) (by assumption)).2.1) | (have := vMach_bd (by assumption); omega) | (simp only [mC_ch, mC_tu]; omega) | (have := vTag_bd (by assumption); omega) | (have := (‹Gd _ _›).le; omega) | (exact tgHalts_no (by assumption)) | (exact tgHead (by assumption) (by assumption) (by assumption)) | (exact Int.le_trans (tgStep_gd (by assumption) (by assumption) (by assumption) (by assumption)).le (by decide)) | (exact vTag_r (by assumption)) | (with_reducible refine Int.le_trans (Int.ofNat_le.2 (pushL_len _ _)) ?_; simp only [List.length_dropLast]; omega) | exact ls_at (by assumption) (by omega) | exact pt_gd (by assumption) | exact lv_at (by assumption) (by omega) | exact pt_gd (lv_at (by assumption) (by omega)) | exact (ask_ok (by assumption)).1 | exact (ask_ok (by assumption)).2.1 | exact (ask_ok (by assumption)).2.2.1 | exact (ask_ok (by assumption)).2.2.2 | (simp only [marks_len]; omega) | (simp only [marksR_len]; omega) | exact lns_at (by assumption) (by omega) | exact bgs_at (by assumption) (by omega) | trivial) : p := h
theorem lawFindBackward (m : Mach) (b : Int) (hm : m.ru.length ≤ maxLen) : Does Tryz.prog 9 [.agg (maC m), .one (int b)] [] (.one (boo true)) [] := by
  have h1 : (m.ru.length : Int) ≤ 9223372036854775807 := by unfold maxLen at hm; omega
  clear hm
  have h4 := szL_le (n := m.ru.length) (l := 1048576) (by omega)
  by_cases ha : szL m.ru.length 1048576 < 0
  · refine does_of (k := 0) Tryz.func9 rfl Tryz.ntmps9 rfl rfl fun w F0 S0 ρ0 => ?_
    dsimp only [argT, argH]
    repeat' first | (apply n3; exact a_new (gb := .bx _) rfl; exact rfl; refine dA ?_) | (apply p3; (first | exact pu1 | exact puL | exact puC | exact a_ne rfl rfl | exact a_neS rfl rfl rfl); exact rfl) | refine cd ?_ | (apply w3; exact a_st_bx rfl rfl rfl rfl (fN rfl rfl) (Nat.le_of_ble_eq_true rfl) rfl; exact rfl; refine dS ?_) | (apply c4 0; exact callK1 (θ := []) (hD := (szMachine_ok _ _ preC16 preC16 preC16)); exact rfl; exact rfl; exact rfl; refine dM ?_) | (apply c4 1; exact callK1 (θ := []) (hD := (toMachine_ok _ preC16)); exact rfl; exact rfl; exact rfl; refine dM ?_) | (apply c4 0; exact callF (hD := (sFindBackward_ok _ _ preC16)); exact rfl; exact rfl; exact rfl; refine dM ?_) | (apply c4 2; exact callK1 (θ := []) (hD := (iFindBackward_ok _ _ preC16)); exact rfl; exact rfl; exact rfl; refine dM ?_) | (apply c4 0; exact callK1 (θ := []) (hD := (eqProof_ok _ _ preC16 preC16 preC16 preC16 preC16 preC16)); exact rfl; exact rfl; exact rfl; refine dM ?_) | (apply c4 0; exact callK1 (θ := [_]) (hD := (markMachR_ok _ _ preC16 preC16 preC16)); exact rfl; exact rfl; exact rfl; refine dM ?_) | (apply c4 0; exact callK0 (θ := [_, _]) (hD := (markProof0_ok _ _ _ preC16 preC16 preC16)); exact rfl; exact rfl; exact rfl; refine dM ?_) | (apply c4 0; exact callK1 (θ := []) (hD := (heldProof0_ok _ _ _ preC16 preC16 preC16)); exact rfl; exact rfl; exact rfl; refine dM ?_) | refine o_no rfl rfl rfl rfl ?_ | refine o_noN rfl rfl rfl ?_ | (apply py3; exact rfl; exact rfl; (first | exact pu1 | exact puL | exact puC | exact a_ne rfl rfl | exact a_neS rfl rfl rfl); exact rfl; exact rfl) | (apply ny3; exact rfl; exact rfl; exact a_new (gb := .bx _) rfl; exact rfl; exact rfl) | (apply cy4 0; exact rfl; exact rfl; exact callK1 (θ := []) (hD := (szMachine_ok _ _ preC16 preC16 preC16)); exact rfl; exact rfl; exact rfl; exact rfl; refine dM ?_) | (apply cy4 1; exact rfl; exact rfl; exact callK1 (θ := []) (hD := (toMachine_ok _ preC16)); exact rfl; exact rfl; exact rfl; exact rfl; refine dM ?_) | (apply cy4 0; exact rfl; exact rfl; exact callF (hD := (sFindBackward_ok _ _ preC16)); exact rfl; exact rfl; exact rfl; exact rfl; refine dM ?_) | (apply cy4 2; exact rfl; exact rfl; exact callK1 (θ := []) (hD := (iFindBackward_ok _ _ preC16)); exact rfl; exact rfl; exact rfl; exact rfl; refine dM ?_) | (apply cy4 0; exact rfl; exact rfl; exact callK1 (θ := []) (hD := (eqProof_ok _ _ preC16 preC16 preC16 preC16 preC16 preC16)); exact rfl; exact rfl; exact rfl; exact rfl; refine dM ?_) | (apply cy4 0; exact rfl; exact rfl; exact callK1 (θ := [_]) (hD := (markMachR_ok _ _ preC16 preC16 preC16)); exact rfl; exact rfl; exact rfl; exact rfl; refine dM ?_) | (apply cy4 0; exact rfl; exact rfl; exact callK0 (θ := [_, _]) (hD := (markProof0_ok _ _ _ preC16 preC16 preC16)); exact rfl; exact rfl; exact rfl; exact rfl; refine dM ?_) | (apply cy4 0; exact rfl; exact rfl; exact callK1 (θ := []) (hD := (heldProof0_ok _ _ _ preC16 preC16 preC16)); exact rfl; exact rfl; exact rfl; exact rfl; refine dM ?_) | (apply g_drN (id := 10) okM [[],[],[1],[0,1,2],[0,1,2,3]] [([],[]),([],[]),([0],[]),([],[]),([],[])] 1; (focus (refine dp 0 0 [46, 47] [(true, 0)] puL ?_; refine dp 1 0 [45] [] puL ?_; refine duN 2 1 [45] [] (callD1 (n := _) 0 (θ := []) (hD := (toMachine_ok _ preC16))) (by exact rfl) (by exact rfl) ?_; refine dp 3 7 [] [] (callD1 (n := _) 1 (θ := []) (hD := (eqMachine_ok _ _ preC16 preC16))) ?_; refine dp 4 15 [] [] (a_pure (sv := .one _) rfl) ?_; (refine d_nil ?_; refine dN ?_))); any_goals kernel_rfl) | ((first | refine o_gs rfl rfl (fun hc => ?_) (fun hc => ?_) | refine g_cond rfl (fun hc => ?_) (fun hc => ?_)) <;> (try simp only [dcB] at hc) <;> (try first | contradiction | (exfalso; omega)))
    repeat refine cr ?_
    refine ends_id ?_
    refine endK [] (h2 := ?_) (h3 := ?_) (nd := ?_)
    all_goals (repeat' first | exact ce0 | refine ce ?_ | refine ce2 ?_ ?_ | exact SVLe.refl | refine ceb ?_)
    all_goals first | exact (show nodupB _ = true from rfl) | exact Or.inr rfl | (rfl)
  have k1 := szL_ge (by omega) ha
  have k2 := fb_nu m b
  have k3 : ∀ x ∈ ([] : List (List Int)), (x.length : Int) ≤ 1048576 := fun x hx => by cases hx
  have kp : ¬ eqP ⟨(fbP m b).k, (fbP m b).nu, []⟩ ⟨(fbP m b).k, (fbP m b).nu, []⟩ = false := by simp [eqP]
  have kh := held_marks 1 (fbP m b).nu.length
  have km : ¬ eqM m m = false := by simp [eqM]
  refine does_of (k := 0) Tryz.func9 rfl Tryz.ntmps9 rfl rfl fun w F0 S0 ρ0 => ?_
  dsimp only [argT, argH]
  repeat' first | (apply n3; exact a_new (gb := .bx _) rfl; exact rfl; refine dA ?_) | (apply p3; (first | exact pu1 | exact puL | exact puC | exact a_ne rfl rfl | exact a_neS rfl rfl rfl); exact rfl) | refine cd ?_ | (apply w3; exact a_st_bx rfl rfl rfl rfl (fN rfl rfl) (Nat.le_of_ble_eq_true rfl) rfl; exact rfl; refine dS ?_) | (apply c4 0; exact callK1 (θ := []) (hD := (szMachine_ok _ _ preC16 preC16 preC16)); exact rfl; exact rfl; exact rfl; refine dM ?_) | (apply c4 1; exact callK1 (θ := []) (hD := (toMachine_ok _ preC16)); exact rfl; exact rfl; exact rfl; refine dM ?_) | (apply c4 0; exact callF (hD := (sFindBackward_ok _ _ preC16)); exact rfl; exact rfl; exact rfl; refine dM ?_) | (apply c4 2; exact callK1 (θ := []) (hD := (iFindBackward_ok _ _ preC16)); exact rfl; exact rfl; exact rfl; refine dM ?_) | (apply c4 0; exact callK1 (θ := []) (hD := (eqProof_ok ⟨(fbP m b).k, (fbP m b).nu, []⟩ ⟨(fbP m b).k, (fbP m b).nu, []⟩ (by dsimp only; omega) (by dsimp only; omega) (by simp) (by simp) k3 k3)); exact rfl; exact rfl; exact rfl; refine dM ?_) | (apply c4 0; exact callK1 (θ := [_]) (hD := (markMachR_ok _ _ preC16 preC16 preC16)); exact rfl; exact rfl; exact rfl; refine dM ?_) | (apply c4 0; exact callK1 (θ := []) (hD := (eqProof_ok ⟨(fbP m b).k, (fbP m b).nu, []⟩ ⟨(fbP m b).k, (fbP m b).nu, []⟩ (by dsimp only; omega) (by dsimp only; omega) (by simp) (by simp) k3 k3)); exact rfl; exact rfl; exact rfl; refine dM ?_) | (apply c4 0; exact callK0 (θ := [_, _]) (hD := (markProof0_ok _ _ _ preC16 preC16 preC16)); exact rfl; exact rfl; exact rfl; refine dM ?_) | (apply c4 0; exact callK1 (θ := []) (hD := (heldProof0_ok _ _ _ preC16 preC16 preC16)); exact rfl; exact rfl; exact rfl; refine dM ?_) | (apply c4 0; exact callK1 (θ := []) (hD := (eqProof_ok ⟨(fbP m b).k, (fbP m b).nu, []⟩ ⟨(fbP m b).k, (fbP m b).nu, []⟩ (by dsimp only; omega) (by dsimp only; omega) (by simp) (by simp) k3 k3)); exact rfl; exact rfl; exact rfl; refine dM ?_) | refine o_no rfl rfl rfl rfl ?_ | refine o_noN rfl rfl rfl ?_ | (apply py3; exact rfl; exact rfl; (first | exact pu1 | exact puL | exact puC | exact a_ne rfl rfl | exact a_neS rfl rfl rfl); exact rfl; exact rfl) | (apply ny3; exact rfl; exact rfl; exact a_new (gb := .bx _) rfl; exact rfl; exact rfl) | (apply cy4 0; exact rfl; exact rfl; exact callK1 (θ := []) (hD := (szMachine_ok _ _ preC16 preC16 preC16)); exact rfl; exact rfl; exact rfl; exact rfl; refine dM ?_) | (apply cy4 1; exact rfl; exact rfl; exact callK1 (θ := []) (hD := (toMachine_ok _ preC16)); exact rfl; exact rfl; exact rfl; exact rfl; refine dM ?_) | (apply cy4 0; exact rfl; exact rfl; exact callF (hD := (sFindBackward_ok _ _ preC16)); exact rfl; exact rfl; exact rfl; exact rfl; refine dM ?_) | (apply cy4 2; exact rfl; exact rfl; exact callK1 (θ := []) (hD := (iFindBackward_ok _ _ preC16)); exact rfl; exact rfl; exact rfl; exact rfl; refine dM ?_) | (apply cy4 0; exact rfl; exact rfl; exact callK1 (θ := []) (hD := (eqProof_ok ⟨(fbP m b).k, (fbP m b).nu, []⟩ ⟨(fbP m b).k, (fbP m b).nu, []⟩ (by dsimp only; omega) (by dsimp only; omega) (by simp) (by simp) k3 k3)); exact rfl; exact rfl; exact rfl; exact rfl; refine dM ?_) | (apply cy4 0; exact rfl; exact rfl; exact callK1 (θ := [_]) (hD := (markMachR_ok _ _ preC16 preC16 preC16)); exact rfl; exact rfl; exact rfl; exact rfl; refine dM ?_) | (apply cy4 0; exact rfl; exact rfl; exact callK1 (θ := []) (hD := (eqProof_ok ⟨(fbP m b).k, (fbP m b).nu, []⟩ ⟨(fbP m b).k, (fbP m b).nu, []⟩ (by dsimp only; omega) (by dsimp only; omega) (by simp) (by simp) k3 k3)); exact rfl; exact rfl; exact rfl; exact rfl; refine dM ?_) | (apply cy4 0; exact rfl; exact rfl; exact callK0 (θ := [_, _]) (hD := (markProof0_ok _ _ _ preC16 preC16 preC16)); exact rfl; exact rfl; exact rfl; exact rfl; refine dM ?_) | (apply cy4 0; exact rfl; exact rfl; exact callK1 (θ := []) (hD := (heldProof0_ok _ _ _ preC16 preC16 preC16)); exact rfl; exact rfl; exact rfl; exact rfl; refine dM ?_) | (apply cy4 0; exact rfl; exact rfl; exact callK1 (θ := []) (hD := (eqProof_ok ⟨(fbP m b).k, (fbP m b).nu, []⟩ ⟨(fbP m b).k, (fbP m b).nu, []⟩ (by dsimp only; omega) (by dsimp only; omega) (by simp) (by simp) k3 k3)); exact rfl; exact rfl; exact rfl; exact rfl; refine dM ?_) | (apply g_drN (id := 10) okM [[],[],[1],[0,1,2],[0,1,2,3]] [([],[]),([],[]),([0],[]),([],[]),([],[])] 1; (focus (refine dp 0 0 [46, 47] [(true, 0)] puL ?_; refine dp 1 0 [45] [] puL ?_; refine duN 2 1 [45] [] (callD1 (n := _) 0 (θ := []) (hD := (toMachine_ok _ preC16))) (by exact rfl) (by exact rfl) ?_; refine dp 3 7 [] [] (callD1 (n := _) 1 (θ := []) (hD := (eqMachine_ok _ _ preC16 preC16))) ?_; refine dp 4 15 [] [] (a_pure (sv := .one _) rfl) ?_; (refine d_nil ?_; refine dN ?_))); any_goals kernel_rfl) | ((first | refine o_gs rfl rfl (fun hc => ?_) (fun hc => ?_) | refine g_cond rfl (fun hc => ?_) (fun hc => ?_)) <;> (try simp only [dcB] at hc) <;> (try first | contradiction | (exfalso; omega)))
  repeat refine cr ?_
  refine ends_id ?_
  refine endK [] (h2 := ?_) (h3 := ?_) (nd := ?_)
  all_goals (repeat' first | exact ce0 | refine ce ?_ | refine ce2 ?_ ?_ | exact SVLe.refl | refine ceb ?_)
  all_goals first | exact (show nodupB _ = true from rfl) | exact Or.inr rfl | (rfl)
set_option maxRecDepth 100000 in
set_option maxRecDepth 100000 in
theorem liftedFnExactFindBackward (os : Os) (started : os.Started) (H : Type) (enc : TypeId × Value → H) : ReturnsInHanded {} Tryz.checked os 9 .any (fun w args => (Rows.fnExactFindBackwardSpec.pre enc Tryz.prog Tryz.f9 [] false w args ∧ laidMetH Tryz.prog Rows.fnExactFindBackwardRow.laid w) ∧ sizedMet enc Tryz.prog Tryz.f9 (OpenSpec.ofChange Rows.fnExactFindBackwardSpec) false w args) (Rows.fnExactFindBackwardSpec.post enc Tryz.prog Tryz.f9 false true false false) := by
  refine returnsInHanded_of_change_and (C := Tryz.checked) (X := fun w _ => laidMetH Tryz.prog Rows.fnExactFindBackwardRow.laid w) (fun _ _ _ hh h => h.of_heap hh) own started (by kernel_rfl) Tryz.func9 (ChangeSpec.witness_shaped (enc := enc) (C := Tryz.checked) (os := os) (X := fun w _ => laidMetH Tryz.prog Rows.fnExactFindBackwardRow.laid w) false (World.doorLaid Tryz.prog doorN os) #[.agg #[.int .i64 0, .int .i64 0, .slice none 0 0], .int .i64 0] 12 rfl (World.shaped_of_RefB (by kernel_rfl) (by kernel_rfl)) (by kernel_rfl) (by kernel_rfl) (by kernel_rfl) (door_met os _)) ?_
  intro W base args ds gs before hval0 hW hcnd _ hL _
  have hval : ∀ (j : Nat) t v, Tryz.f9.params[j]? = some t → args[j]? = some v → Value.okWide Tryz.prog W .any base t v := hval0
  have hW' := hW
  obtain ⟨p, q, hA0, hV, rfl, hfz, hnd⟩ := hW
  have hA : DataW.TrodAll enc Tryz.prog W 0 (fun _ => true) true Tryz.f9.params.toList args.toList ds p := hA0
  rw [Tryz.params9] at hA hval
  obtain ⟨v0, vs0, d0, ds0, p0, r0, hargs, rfl, rfl, h0, s0⟩ := trodAll_cons hA
  obtain ⟨v1, vs1, d1, ds1, p1, r1, rfl, rfl, rfl, h1, s1⟩ := trodAll_cons s0
  obtain ⟨rfl, rfl, rfl⟩ := trodAll_nil s1
  obtain rfl : args = #[v0, v1] := by cases args; simp_all
  obtain ⟨rfl, rfl⟩ := trodVars_none hV
  have k0 := h0
  have k1 := h1
  have lt0 : ∀ x ∈ p0, x.block < W.heap.size := by obtain ⟨m, hm⟩ := k0; exact DataW.trod_lt m _ _ _ hm
  have lt1 : ∀ x ∈ p1, x.block < W.heap.size := by obtain ⟨m, hm⟩ := k1; exact DataW.trod_lt m _ _ _ hm
  obtain ⟨a0, e0, q0⟩ := arg_agg (ρ := fun _ => none) Tryz.underlying42 (hval 0 42 v0 rfl rfl) h0 opens_machine
  obtain ⟨_, rfl⟩ := okWide_int Tryz.underlying2 (hval 1 2 v1 rfl rfl)
  obtain ⟨a1, e1, q1⟩ := arg_one (ρ := fun _ => none) rfl h1 opens_i
  clear hA0 hval0
  refine (does_calls (lawFindBackward a0 a1 q0.2.2.1) (tabs_met hL) ⟨_, _, rfl, e0, ⟨_, _, rfl, e1, rfl⟩⟩).mono fun e W' ⟨he, bel⟩ => ?_
  subst he
  exact ⟨_, rfl, _, _, _, [], _, [], hW', trodAll_mk1 (shut_bool Tryz.underlying4 _), (trodAll_cons_mk (Below.trod laidOut (by kernel_rfl) (of_decide_eq_true (by kernel_rfl)) k0 bel lt0) (trodAll_cons_mk (Below.trod laidOut (by kernel_rfl) (of_decide_eq_true (by kernel_rfl)) k1 bel lt1) trodAll_mk0)), rfl, bel.frame _, fun h => by cases h⟩
theorem fact0FnExactFindBackward : (Rows.fnExactFindBackwardRow.inPlace == Tryz.pinned.checked.prog.inPlace 9) = true := by kernel_rfl
theorem fact1FnExactFindBackward : (Rows.fnExactFindBackwardRow.unfollowed == Tryz.pinned.checked.prog.unfollowed 9) = true := by kernel_rfl
theorem fact2FnExactFindBackward : (Rows.fnExactFindBackwardRow.recurses == Tryz.pinned.checked.prog.recurses 9) = true := by kernel_rfl
theorem fact3FnExactFindBackward : (Rows.fnExactFindBackwardRow.named == Tryz.pinned.checked.prog.varsNamed 9) = true := by kernel_rfl
theorem closedFnExactFindBackward : joinedFacts Tryz.pinned.checked.prog 9 Tryz.f9 Rows.fnExactFindBackwardSpec Rows.fnExactFindBackwardRow = true := by
  unfold joinedFacts
  rw [fact0FnExactFindBackward, fact1FnExactFindBackward, fact2FnExactFindBackward, fact3FnExactFindBackward]
  kernel_rfl
theorem provedFnExactFindBackward : Rows.FnExactFindBackwardSaid :=
  OpenClaim.holds_of_wide 9 Tryz.f9 rfl rfl rfl rfl rfl rfl rfl ⟨rfl, rfl, rfl, rfl, rfl⟩ rfl rfl rfl rfl rfl (by kernel_rfl) Tryz.func9 closedFnExactFindBackward
    (of_decide_eq_true (by kernel_rfl)) (by unfold Func.isWrapper; first | (rw [if_pos (by decide +kernel)]; kernel_rfl) | (rw [if_neg (by decide +kernel)]; exact ⟨rfl, rfl⟩))
    (fun os started H enc _ => liftedFnExactFindBackward os started H enc)
theorem provedCardFnExactFindBackward : Rows.FnExactFindBackwardCardSaid :=
  Claim7.holds_tied_plain_at .later [] [.data, .data, .data] true Rows.fnExactFindBackwardCard.stood.harness true provedFnExactFindBackward (fun _ h => by cases h) (by kernel_rfl) (fun _ h => by cases h) fnExactFindBackward_row_tie rfl ⟨rfl, rfl⟩ (by kernel_rfl) rfl
    (fun f fn hf hfn => by
      obtain rfl : f = 9 := Option.some.inj ((show Tryz.prog.funcNamed "loop.example/g01079/laws.FnExactFindBackward" = some 9 by kernel_rfl).symm.trans hf) |>.symm
      obtain rfl : fn = Tryz.f9 := (Option.some.inj (Tryz.func9.symm.trans hfn)).symm
      exact ⟨by kernel_rfl, fun j t ht => by
        rw [Tryz.params9] at ht
        have hm : t ∈ [42, 2] := by simpa using Array.mem_of_getElem? ht
        have hall : ([42, 2].all fun u => !Tryz.prog.wantsStandIn u) = true := by kernel_rfl
        exact (show Tryz.prog.wantsStandIn t = false by simpa using List.all_eq_true.1 hall t hm)⟩)
    (by kernel_rfl)
end Go.Proofs.YtbekdojhcokalaaGreatDoor
