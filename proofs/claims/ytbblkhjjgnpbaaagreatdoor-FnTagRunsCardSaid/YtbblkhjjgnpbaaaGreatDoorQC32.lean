/- Tag systems, whatever bytes draw one and a word: its text is read back, a run's words are as many as its steps and one, each as long as the bounds say, and a run goes on from where another one ends. The tables of the library that the rows list are tied to the program's text. -/
import Derived.Test.YtbblkhjjgnpbaaaGreatDoorQ21
import Derived.SevenTiedAt
import Derived.Test.YtbblkhjjgnpbaaaGreatDoorCards
import Derived.Test.YtbblkhjjgnpbaaaGreatDoorTie
set_option linter.unusedVariables false
set_option linter.unusedSimpArgs false
set_option maxRecDepth 100000
set_option maxHeartbeats 4000000
namespace Go.Proofs.YtbblkhjjgnpbaaaGreatDoor
open Go Foot Go.ChangeShapes Go.WideShapes Go.ChangeAt Go.RowKit Go.Deep
theorem lawTagRunsB (l l2 : List Int) (h : l.length ≤ maxLen ∧ ∀ x ∈ l,0 ≤ x ∧ x < 256) (h2 : l2.length ≤ maxLen ∧ ∀ x ∈ l2,0 ≤ x ∧ x < 256) : Does Tryz.prog 4 [.one (shY l),.one (shY l2)] [] (.one (boo true)) [] :=
  lawTagRuns l l2 (by have := h.1; unfold maxLen at this; omega) (by have := h2.1; unfold maxLen at this; omega) (fun x hx => by have := h.2 x hx; omega) fun x hx => by have := h2.2 x hx; omega
set_option maxRecDepth 100000 in
set_option maxRecDepth 100000 in
theorem liftedFnTagRuns (os : Os) (started : os.Started) (H : Type) (enc : TypeId × Value → H) : ReturnsInHanded {} Tryz.checked os 4 .any (fun w args => (Rows.fnTagRunsSpec.pre enc Tryz.prog Tryz.f4 [] false w args ∧ laidMetH Tryz.prog Rows.fnTagRunsRow.laid w) ∧ sizedMet enc Tryz.prog Tryz.f4 (OpenSpec.ofChange Rows.fnTagRunsSpec) false w args) (Rows.fnTagRunsSpec.post enc Tryz.prog Tryz.f4 false true false false) := by
  refine returnsInHanded_of_change_and (C := Tryz.checked) (X := fun w _ => laidMetH Tryz.prog Rows.fnTagRunsRow.laid w) (fun _ _ _ hh h => h.of_heap hh) own started (by kernel_rfl) Tryz.func4 (ChangeSpec.witness_shaped (enc := enc) (C := Tryz.checked) (os := os) (X := fun w _ => laidMetH Tryz.prog Rows.fnTagRunsRow.laid w) false (World.laidAll Tryz.prog os Rows.fnTagRunsRow.laid) #[.slice none 0 0,.slice none 0 0] 12 rfl (World.shaped_of_ZipB (by kernel_rfl) (by kernel_rfl)) (by kernel_rfl) (by kernel_rfl) (by kernel_rfl) (door_met7 os _)) ?_
  intro W base args ds gs before hval0 hW hcnd _ hL _
  have hval : ∀ (j : Nat) t v,Tryz.f4.params[j]? = some t → args[j]? = some v → Value.okWide Tryz.prog W .any base t v := hval0
  have hW' := hW
  obtain ⟨p,q,hA0,hV,rfl,hfz,hnd⟩ := hW
  have hA : DataW.TrodAll enc Tryz.prog W 0 (fun _ => true) true Tryz.f4.params.toList args.toList ds p := hA0
  rw [Tryz.params4] at hA hval
  obtain ⟨v0,vs0,d0,ds0,p0,r0,hargs,rfl,rfl,h0,s0⟩ := trodAll_cons hA
  obtain ⟨v1,vs1,d1,ds1,p1,r1,rfl,rfl,rfl,h1,s1⟩ := trodAll_cons s0
  obtain ⟨rfl,rfl,rfl⟩ := trodAll_nil s1
  obtain rfl : args = #[v0,v1] := by cases args; simp_all
  obtain ⟨rfl,rfl⟩ := trodVars_none hV
  have k0 := h0
  have k1 := h1
  have lt0 : ∀ x ∈ p0,x.block < W.heap.size := by obtain ⟨m,hm⟩ := k0; exact DataW.trod_lt m _ _ _ hm
  have lt1 : ∀ x ∈ p1,x.block < W.heap.size := by obtain ⟨m,hm⟩ := k1; exact DataW.trod_lt m _ _ _ hm
  obtain ⟨_,_,_,rfl⟩ := okWide_slice Tryz.underlying31 (hval 0 31 v0 rfl rfl)
  obtain ⟨a0,e0,q0⟩ := arg_one (ρ := fun _ => none) rfl h0 opens_Y
  obtain ⟨_,_,_,rfl⟩ := okWide_slice Tryz.underlying31 (hval 1 31 v1 rfl rfl)
  obtain ⟨a1,e1,q1⟩ := arg_one (ρ := fun _ => none) rfl h1 opens_Y
  clear hA0 hval0
  refine (does_calls (lawTagRunsB a0 a1 q0 q1) (tabs_met7 hL) ⟨_,_,rfl,e0,⟨_,_,rfl,e1,rfl⟩⟩).mono fun e W' ⟨he,bel⟩ => ?_
  subst he
  exact ⟨_,rfl,_,_,_,[],_,[],hW',trodAll_mk1 (shut_bool Tryz.underlying4 _),(trodAll_cons_mk (Below.trod laidOut (by kernel_rfl) (of_decide_eq_true (by kernel_rfl)) k0 bel lt0) (trodAll_cons_mk (Below.trod laidOut (by kernel_rfl) (of_decide_eq_true (by kernel_rfl)) k1 bel lt1) trodAll_mk0)),rfl,bel.frame _,fun h => by cases h⟩
theorem fact0FnTagRuns : (Rows.fnTagRunsRow.inPlace == Tryz.pinned.checked.prog.inPlace 4) = true := by kernel_rfl
theorem fact1FnTagRuns : (Rows.fnTagRunsRow.unfollowed == Tryz.pinned.checked.prog.unfollowed 4) = true := by kernel_rfl
theorem fact2FnTagRuns : (Rows.fnTagRunsRow.recurses == Tryz.pinned.checked.prog.recurses 4) = true := by kernel_rfl
theorem fact3FnTagRuns : (Rows.fnTagRunsRow.named == Tryz.pinned.checked.prog.varsNamed 4) = true := by kernel_rfl
theorem closedFnTagRuns : joinedFacts Tryz.pinned.checked.prog 4 Tryz.f4 Rows.fnTagRunsSpec Rows.fnTagRunsRow = true := by
  unfold joinedFacts
  rw [fact0FnTagRuns,fact1FnTagRuns,fact2FnTagRuns,fact3FnTagRuns]
  kernel_rfl
theorem provedFnTagRuns : Rows.FnTagRunsSaid :=
  OpenClaim.holds_of_wide 4 Tryz.f4 rfl rfl rfl rfl rfl rfl rfl ⟨rfl,rfl,rfl,rfl,rfl⟩ rfl rfl rfl rfl rfl (by kernel_rfl) Tryz.func4 closedFnTagRuns
    (of_decide_eq_true (by kernel_rfl)) (by unfold Func.isWrapper; first | (rw [if_pos (by decide +kernel)]; kernel_rfl) | (rw [if_neg (by decide +kernel)]; exact ⟨rfl,rfl⟩))
    (fun os started H enc _ => liftedFnTagRuns os started H enc)
theorem card1FnTagRuns : Rows.fnTagRunsRow.wfByText (OpenSpec.ofChange Rows.fnTagRunsSpec) = true := by kernel_rfl
theorem card2FnTagRuns : Tryz.pinned.checked.prog.mainIs = some (Rows.fnTagRunsCard.stood.harness.1,Rows.fnTagRunsCard.stood.harness.2.toList) := by kernel_rfl
theorem card3FnTagRuns : true = Tryz.pinned.checked.prog.looks [] := by kernel_rfl
theorem card4FnTagRuns : false = Rows.fnTagRunsRow.goesBy Tryz.pinned.checked.prog := by kernel_rfl
theorem card5FnTagRuns : Tryz.prog.funcNamed "loop.example/g01079/laws.FnTagRuns" = some 4 := by kernel_rfl
theorem card6FnTagRuns : ([31,31].all fun u => !Tryz.prog.wantsStandIn u) = true := by kernel_rfl
theorem provedCardFnTagRuns : Rows.FnTagRunsCardSaid :=
  Claim7.holds_tied_plain_at .later [] [.data,.data,.data,.data,.sentinel,.sentinel,.pinned] true Rows.fnTagRunsCard.stood.harness true provedFnTagRuns (fun _ h => by cases h) card1FnTagRuns (fun _ h => by cases h) fnTagRuns_row_tie rfl ⟨rfl,rfl⟩ card2FnTagRuns rfl
    (fun f fn hf hfn => by
      obtain rfl : f = 4 := Option.some.inj (card5FnTagRuns.symm.trans hf) |>.symm
      obtain rfl : fn = Tryz.f4 := (Option.some.inj (Tryz.func4.symm.trans hfn)).symm
      exact ⟨card3FnTagRuns,fun j t ht => by
        rw [Tryz.params4] at ht
        have hm : t ∈ [31,31] := by simpa using Array.mem_of_getElem? ht
        exact (show Tryz.prog.wantsStandIn t = false by simpa using List.all_eq_true.1 card6FnTagRuns t hm)⟩)
    card4FnTagRuns
end Go.Proofs.YtbblkhjjgnpbaaaGreatDoor
