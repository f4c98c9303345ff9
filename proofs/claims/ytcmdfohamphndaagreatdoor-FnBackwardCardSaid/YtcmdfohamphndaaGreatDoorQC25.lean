/- Backward search, whatever bytes draw the machine: the configuration that a step comes from is matched by one of the partial configurations that are found before the window of what it leads to; each of them goes forward by one step to the window's state, and their texts are read back. The tables of the library that the rows list are tied to the program's text. -/
import Derived.Test.YtcmdfohamphndaaGreatDoorQ23
import Derived.SevenTiedAt
import Derived.Test.YtcmdfohamphndaaGreatDoorCards
import Derived.Test.YtcmdfohamphndaaGreatDoorTie
set_option linter.unusedVariables false
set_option linter.unusedSimpArgs false
set_option maxRecDepth 100000
set_option maxHeartbeats 4000000
namespace Go.Proofs.YtcmdfohamphndaaGreatDoor
open Go Foot Go.ChangeShapes Go.WideShapes Go.ChangeAt Go.RowKit Go.Deep
theorem lawBackwardB (l : List Int) (h : l.length ≤ maxLen ∧ ∀ x ∈ l, 0 ≤ x ∧ x < 256) : Does Tryz.prog 14 [.one (shY l)] [] (.one (boo true)) [] :=
  lawBackward l (by have := h.1; unfold maxLen at this; omega) fun x hx => by have := h.2 x hx; omega
set_option maxRecDepth 100000 in
set_option maxRecDepth 100000 in
theorem liftedFnBackward (os : Os) (started : os.Started) (H : Type) (enc : TypeId × Value → H) : ReturnsInHanded {} Tryz.checked os 14 .any (fun w args => (Rows.fnBackwardSpec.pre enc Tryz.prog Tryz.f14 [] false w args ∧ laidMetH Tryz.prog Rows.fnBackwardRow.laid w) ∧ sizedMet enc Tryz.prog Tryz.f14 (OpenSpec.ofChange Rows.fnBackwardSpec) false w args) (Rows.fnBackwardSpec.post enc Tryz.prog Tryz.f14 false true false false) := by
  refine returnsInHanded_of_change_and (C := Tryz.checked) (X := fun w _ => laidMetH Tryz.prog Rows.fnBackwardRow.laid w) (fun _ _ _ hh h => h.of_heap hh) own started (by kernel_rfl) Tryz.func14 (ChangeSpec.witness_shaped (enc := enc) (C := Tryz.checked) (os := os) (X := fun w _ => laidMetH Tryz.prog Rows.fnBackwardRow.laid w) false (World.doorLaid Tryz.prog doorN os) #[.slice none 0 0] 12 rfl (World.shaped_of_RefB (by kernel_rfl) (by kernel_rfl)) (by kernel_rfl) (by kernel_rfl) (by kernel_rfl) (door_met5 os _)) ?_
  intro W base args ds gs before hval0 hW hcnd _ hL _
  have hval : ∀ (j : Nat) t v, Tryz.f14.params[j]? = some t → args[j]? = some v → Value.okWide Tryz.prog W .any base t v := hval0
  have hW' := hW
  obtain ⟨p, q, hA0, hV, rfl, hfz, hnd⟩ := hW
  have hA : DataW.TrodAll enc Tryz.prog W 0 (fun _ => true) true Tryz.f14.params.toList args.toList ds p := hA0
  rw [Tryz.params14] at hA hval
  obtain ⟨v0, vs0, d0, ds0, p0, r0, hargs, rfl, rfl, h0, s0⟩ := trodAll_cons hA
  obtain ⟨rfl, rfl, rfl⟩ := trodAll_nil s0
  obtain rfl : args = #[v0] := by cases args; simp_all
  obtain ⟨rfl, rfl⟩ := trodVars_none hV
  have k0 := h0
  have lt0 : ∀ x ∈ p0, x.block < W.heap.size := by obtain ⟨m, hm⟩ := k0; exact DataW.trod_lt m _ _ _ hm
  obtain ⟨_, _, _, rfl⟩ := okWide_slice Tryz.underlying52 (hval 0 52 v0 rfl rfl)
  obtain ⟨a0, e0, q0⟩ := arg_one (ρ := fun _ => none) rfl h0 opens_Y
  clear hA0 hval0
  refine (does_calls (lawBackwardB a0 q0) (tabs_met5 hL) ⟨_, _, rfl, e0, rfl⟩).mono fun e W' ⟨he, bel⟩ => ?_
  subst he
  exact ⟨_, rfl, _, _, _, [], _, [], hW', trodAll_mk1 (shut_bool Tryz.underlying4 _), (trodAll_cons_mk (Below.trod laidOut (by kernel_rfl) (of_decide_eq_true (by kernel_rfl)) k0 bel lt0) trodAll_mk0), rfl, bel.frame _, fun h => by cases h⟩
theorem fact0FnBackward : (Rows.fnBackwardRow.inPlace == Tryz.pinned.checked.prog.inPlace 14) = true := by kernel_rfl
theorem fact1FnBackward : (Rows.fnBackwardRow.unfollowed == Tryz.pinned.checked.prog.unfollowed 14) = true := by kernel_rfl
theorem fact2FnBackward : (Rows.fnBackwardRow.recurses == Tryz.pinned.checked.prog.recurses 14) = true := by kernel_rfl
theorem fact3FnBackward : (Rows.fnBackwardRow.named == Tryz.pinned.checked.prog.varsNamed 14) = true := by kernel_rfl
theorem closedFnBackward : joinedFacts Tryz.pinned.checked.prog 14 Tryz.f14 Rows.fnBackwardSpec Rows.fnBackwardRow = true := by
  unfold joinedFacts
  rw [fact0FnBackward, fact1FnBackward, fact2FnBackward, fact3FnBackward]
  kernel_rfl
theorem provedFnBackward : Rows.FnBackwardSaid :=
  OpenClaim.holds_of_wide 14 Tryz.f14 rfl rfl rfl rfl rfl rfl rfl ⟨rfl, rfl, rfl, rfl, rfl⟩ rfl rfl rfl rfl rfl (by kernel_rfl) Tryz.func14 closedFnBackward
    (of_decide_eq_true (by kernel_rfl)) (by unfold Func.isWrapper; first | (rw [if_pos (by decide +kernel)]; kernel_rfl) | (rw [if_neg (by decide +kernel)]; exact ⟨rfl, rfl⟩))
    (fun os started H enc _ => liftedFnBackward os started H enc)
theorem card1FnBackward : Rows.fnBackwardRow.wfByText (OpenSpec.ofChange Rows.fnBackwardSpec) = true := by kernel_rfl
theorem card2FnBackward : Tryz.pinned.checked.prog.mainIs = some (Rows.fnBackwardCard.stood.harness.1, Rows.fnBackwardCard.stood.harness.2.toList) := by kernel_rfl
theorem card3FnBackward : true = Tryz.pinned.checked.prog.looks [] := by kernel_rfl
theorem card4FnBackward : false = Rows.fnBackwardRow.goesBy Tryz.pinned.checked.prog := by kernel_rfl
theorem card5FnBackward : Tryz.prog.funcNamed "loop.example/g01079/laws.FnBackward" = some 14 := by kernel_rfl
theorem card6FnBackward : ([52].all fun u => !Tryz.prog.wantsStandIn u) = true := by kernel_rfl
theorem provedCardFnBackward : Rows.FnBackwardCardSaid :=
  Claim7.holds_tied_plain_at .later [] [.data, .data, .data, .sentinel, .sentinel] true Rows.fnBackwardCard.stood.harness true provedFnBackward (fun _ h => by cases h) card1FnBackward (fun _ h => by cases h) fnBackward_row_tie rfl ⟨rfl, rfl⟩ card2FnBackward rfl
    (fun f fn hf hfn => by
      obtain rfl : f = 14 := Option.some.inj (card5FnBackward.symm.trans hf) |>.symm
      obtain rfl : fn = Tryz.f14 := (Option.some.inj (Tryz.func14.symm.trans hfn)).symm
      exact ⟨card3FnBackward, fun j t ht => by
        rw [Tryz.params14] at ht
        have hm : t ∈ [52] := by simpa using Array.mem_of_getElem? ht
        exact (show Tryz.prog.wantsStandIn t = false by simpa using List.all_eq_true.1 card6FnBackward t hm)⟩)
    card4FnBackward
end Go.Proofs.YtcmdfohamphndaaGreatDoor
