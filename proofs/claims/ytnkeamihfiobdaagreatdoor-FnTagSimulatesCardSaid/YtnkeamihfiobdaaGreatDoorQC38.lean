/- Whatever bytes draw a machine with two symbols and a configuration: its tag system comes to all its configurations, in order, behind as many steps as are stated. The tables of the library that the rows list are tied to the program's text. -/
import Derived.Test.YtnkeamihfiobdaaGreatDoorQ21
import Derived.SevenTiedAt
import Derived.Test.YtnkeamihfiobdaaGreatDoorCards
import Derived.Test.YtnkeamihfiobdaaGreatDoorTie
set_option linter.unusedVariables false
set_option linter.unusedSimpArgs false
set_option maxRecDepth 100000
set_option maxHeartbeats 4000000
namespace Go.Proofs.YtnkeamihfiobdaaGreatDoor
open Go Foot Go.ChangeShapes Go.WideShapes Go.ChangeAt Go.RowKit Go.Deep
theorem lawTagSimulatesB (l l2 : List Int) (h : l.length ≤ maxLen ∧ ∀ x ∈ l,0 ≤ x ∧ x < 256) (h2 : l2.length ≤ maxLen ∧ ∀ x ∈ l2,0 ≤ x ∧ x < 256) : Does Tryz.prog 3 [.one (shY l),.one (shY l2)] [] (.one (boo true)) [] :=
  lawTagSimulates l l2 (by have := h.1; unfold maxLen at this; omega) (by have := h2.1; unfold maxLen at this; omega) (fun x hx => by have := h.2 x hx; omega) fun x hx => by have := h2.2 x hx; omega
set_option maxRecDepth 100000 in
set_option maxRecDepth 100000 in
theorem liftedFnTagSimulates (os : Os) (started : os.Started) (H : Type) (enc : TypeId × Value → H) : ReturnsInHanded {} Tryz.checked os 3 .any (fun w args => (Rows.fnTagSimulatesSpec.pre enc Tryz.prog Tryz.f3 [] false w args ∧ laidMetH Tryz.prog Rows.fnTagSimulatesRow.laid w) ∧ sizedMet enc Tryz.prog Tryz.f3 (OpenSpec.ofChange Rows.fnTagSimulatesSpec) false w args) (Rows.fnTagSimulatesSpec.post enc Tryz.prog Tryz.f3 false true false false) := by
  refine returnsInHanded_of_change_and (C := Tryz.checked) (X := fun w _ => laidMetH Tryz.prog Rows.fnTagSimulatesRow.laid w) (fun _ _ _ hh h => h.of_heap hh) own started (by kernel_rfl) Tryz.func3 (ChangeSpec.witness_shaped (enc := enc) (C := Tryz.checked) (os := os) (X := fun w _ => laidMetH Tryz.prog Rows.fnTagSimulatesRow.laid w) false (World.laidAll Tryz.prog os Rows.fnTagSimulatesRow.laid) #[.slice none 0 0,.slice none 0 0] 12 rfl (World.shaped_of_ZipB (by kernel_rfl) (by kernel_rfl)) (by kernel_rfl) (by kernel_rfl) (by kernel_rfl) (door_met os _)) ?_
  intro W base args ds gs before hval0 hW hcnd _ hL _
  have hval : ∀ (j : Nat) t v,Tryz.f3.params[j]? = some t → args[j]? = some v → Value.okWide Tryz.prog W .any base t v := hval0
  have hW' := hW
  obtain ⟨p,q,hA0,hV,rfl,hfz,hnd⟩ := hW
  have hA : DataW.TrodAll enc Tryz.prog W 0 (fun _ => true) true Tryz.f3.params.toList args.toList ds p := hA0
  rw [Tryz.params3] at hA hval
  obtain ⟨v0,vs0,d0,ds0,p0,r0,hargs,rfl,rfl,h0,s0⟩ := trodAll_cons hA
  obtain ⟨v1,vs1,d1,ds1,p1,r1,rfl,rfl,rfl,h1,s1⟩ := trodAll_cons s0
  obtain ⟨rfl,rfl,rfl⟩ := trodAll_nil s1
  obtain rfl : args = #[v0,v1] := by cases args; simp_all
  obtain ⟨rfl,rfl⟩ := trodVars_none hV
  have k0 := h0
  have k1 := h1
  have lt0 : ∀ x ∈ p0,x.block < W.heap.size := by obtain ⟨m,hm⟩ := k0; exact DataW.trod_lt m _ _ _ hm
  have lt1 : ∀ x ∈ p1,x.block < W.heap.size := by obtain ⟨m,hm⟩ := k1; exact DataW.trod_lt m _ _ _ hm
  obtain ⟨_,_,_,rfl⟩ := okWide_slice Tryz.underlying22 (hval 0 22 v0 rfl rfl)
  obtain ⟨a0,e0,q0⟩ := arg_one (ρ := fun _ => none) rfl h0 opens_Y
  obtain ⟨_,_,_,rfl⟩ := okWide_slice Tryz.underlying22 (hval 1 22 v1 rfl rfl)
  obtain ⟨a1,e1,q1⟩ := arg_one (ρ := fun _ => none) rfl h1 opens_Y
  clear hA0 hval0
  refine (does_calls (lawTagSimulatesB a0 a1 q0 q1) (tabs_met hL) ⟨_,_,rfl,e0,⟨_,_,rfl,e1,rfl⟩⟩).mono fun e W' ⟨he,bel⟩ => ?_
  subst he
  exact ⟨_,rfl,_,_,_,[],_,[],hW',trodAll_mk1 (shut_bool Tryz.underlying4 _),(trodAll_cons_mk (Below.trod laidOut (by kernel_rfl) (of_decide_eq_true (by kernel_rfl)) k0 bel lt0) (trodAll_cons_mk (Below.trod laidOut (by kernel_rfl) (of_decide_eq_true (by kernel_rfl)) k1 bel lt1) trodAll_mk0)),rfl,bel.frame _,fun h => by cases h⟩
theorem fact0FnTagSimulates : (Rows.fnTagSimulatesRow.inPlace == Tryz.pinned.checked.prog.inPlace 3) = true := by kernel_rfl
theorem fact1FnTagSimulates : (Rows.fnTagSimulatesRow.unfollowed == Tryz.pinned.checked.prog.unfollowed 3) = true := by kernel_rfl
theorem fact2FnTagSimulates : (Rows.fnTagSimulatesRow.recurses == Tryz.pinned.checked.prog.recurses 3) = true := by kernel_rfl
theorem fact3FnTagSimulates : (Rows.fnTagSimulatesRow.named == Tryz.pinned.checked.prog.varsNamed 3) = true := by kernel_rfl
theorem closedFnTagSimulates : joinedFacts Tryz.pinned.checked.prog 3 Tryz.f3 Rows.fnTagSimulatesSpec Rows.fnTagSimulatesRow = true := by
  unfold joinedFacts
  rw [fact0FnTagSimulates,fact1FnTagSimulates,fact2FnTagSimulates,fact3FnTagSimulates]
  kernel_rfl
theorem provedFnTagSimulates : Rows.FnTagSimulatesSaid :=
  OpenClaim.holds_of_wide 3 Tryz.f3 rfl rfl rfl rfl rfl rfl rfl ⟨rfl,rfl,rfl,rfl,rfl⟩ rfl rfl rfl rfl rfl (by kernel_rfl) Tryz.func3 closedFnTagSimulates
    (of_decide_eq_true (by kernel_rfl)) (by unfold Func.isWrapper; first | (rw [if_pos (by decide +kernel)]; kernel_rfl) | (rw [if_neg (by decide +kernel)]; exact ⟨rfl,rfl⟩))
    (fun os started H enc _ => liftedFnTagSimulates os started H enc)
theorem card1FnTagSimulates : Rows.fnTagSimulatesRow.wfByText (OpenSpec.ofChange Rows.fnTagSimulatesSpec) = true := by kernel_rfl
theorem card2FnTagSimulates : Tryz.pinned.checked.prog.mainIs = some (Rows.fnTagSimulatesCard.stood.harness.1,Rows.fnTagSimulatesCard.stood.harness.2.toList) := by kernel_rfl
theorem card3FnTagSimulates : true = Tryz.pinned.checked.prog.looks [] := by kernel_rfl
theorem card4FnTagSimulates : false = Rows.fnTagSimulatesRow.goesBy Tryz.pinned.checked.prog := by kernel_rfl
theorem card5FnTagSimulates : Tryz.prog.funcNamed "loop.example/g01079/laws.FnTagSimulates" = some 3 := by kernel_rfl
theorem card6FnTagSimulates : ([22,22].all fun u => !Tryz.prog.wantsStandIn u) = true := by kernel_rfl
theorem provedCardFnTagSimulates : Rows.FnTagSimulatesCardSaid :=
  Claim7.holds_tied_plain_at .later [] [.data,.data,.data] true Rows.fnTagSimulatesCard.stood.harness true provedFnTagSimulates (fun _ h => by cases h) card1FnTagSimulates (fun _ h => by cases h) fnTagSimulates_row_tie rfl ⟨rfl,rfl⟩ card2FnTagSimulates rfl
    (fun f fn hf hfn => by
      obtain rfl : f = 3 := Option.some.inj (card5FnTagSimulates.symm.trans hf) |>.symm
      obtain rfl : fn = Tryz.f3 := (Option.some.inj (Tryz.func3.symm.trans hfn)).symm
      exact ⟨card3FnTagSimulates,fun j t ht => by
        rw [Tryz.params3] at ht
        have hm : t ∈ [22,22] := by simpa using Array.mem_of_getElem? ht
        exact (show Tryz.prog.wantsStandIn t = false by simpa using List.all_eq_true.1 card6FnTagSimulates t hm)⟩)
    card4FnTagSimulates
end Go.Proofs.YtnkeamihfiobdaaGreatDoor
