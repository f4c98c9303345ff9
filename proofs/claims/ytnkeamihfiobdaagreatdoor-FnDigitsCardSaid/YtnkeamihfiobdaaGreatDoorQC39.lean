/- Whatever bytes draw a natural and a base: its digits and its text give it back, and its root is the greatest one. The tables and errors of the library that the rows list are tied to the program's text. -/
import Derived.Test.YtnkeamihfiobdaaGreatDoorQ22
import Derived.SevenTiedAt
import Derived.Test.YtnkeamihfiobdaaGreatDoorCards
import Derived.Test.YtnkeamihfiobdaaGreatDoorTie
set_option linter.unusedVariables false
set_option linter.unusedSimpArgs false
set_option maxRecDepth 100000
set_option maxHeartbeats 4000000
namespace Go.Proofs.YtnkeamihfiobdaaGreatDoor
open Go Foot Go.ChangeShapes Go.WideShapes Go.ChangeAt Go.RowKit Go.Deep
theorem lawDigitsB (l l2 : List Int) (h : l.length ≤ maxLen ∧ ∀ x ∈ l,0 ≤ x ∧ x < 256) (h2 : l2.length ≤ maxLen ∧ ∀ x ∈ l2,0 ≤ x ∧ x < 256) : Does Tryz.prog 5 [.one (shY l),.one (shY l2)] [] (.one (boo true)) [] :=
  lawDigits l l2 (by have := h.1; unfold maxLen at this; omega) (by have := h2.1; unfold maxLen at this; omega) (fun x hx => by have := h.2 x hx; omega) fun x hx => by have := h2.2 x hx; omega
set_option maxRecDepth 100000 in
set_option maxRecDepth 100000 in
theorem liftedFnDigits (os : Os) (started : os.Started) (H : Type) (enc : TypeId × Value → H) : ReturnsInHanded {} Tryz.checked os 5 .any (fun w args => (Rows.fnDigitsSpec.pre enc Tryz.prog Tryz.f5 [] false w args ∧ laidMetH Tryz.prog Rows.fnDigitsRow.laid w) ∧ sizedMet enc Tryz.prog Tryz.f5 (OpenSpec.ofChange Rows.fnDigitsSpec) false w args) (Rows.fnDigitsSpec.post enc Tryz.prog Tryz.f5 false true false false) := by
  refine returnsInHanded_of_change_and (C := Tryz.checked) (X := fun w _ => laidMetH Tryz.prog Rows.fnDigitsRow.laid w) (fun _ _ _ hh h => h.of_heap hh) own started (by kernel_rfl) Tryz.func5 (ChangeSpec.witness_shaped (enc := enc) (C := Tryz.checked) (os := os) (X := fun w _ => laidMetH Tryz.prog Rows.fnDigitsRow.laid w) false (World.laidAll Tryz.prog os Rows.fnDigitsRow.laid) #[.slice none 0 0,.slice none 0 0] 12 rfl (World.shaped_of_ZipB (by kernel_rfl) (by kernel_rfl)) (by kernel_rfl) (by kernel_rfl) (by kernel_rfl) (door_met7 os _)) ?_
  intro W base args ds gs before hval0 hW hcnd _ hL _
  have hval : ∀ (j : Nat) t v,Tryz.f5.params[j]? = some t → args[j]? = some v → Value.okWide Tryz.prog W .any base t v := hval0
  have hW' := hW
  obtain ⟨p,q,hA0,hV,rfl,hfz,hnd⟩ := hW
  have hA : DataW.TrodAll enc Tryz.prog W 0 (fun _ => true) true Tryz.f5.params.toList args.toList ds p := hA0
  rw [Tryz.params5] at hA hval
  obtain ⟨v0,vs0,d0,ds0,p0,r0,hargs,rfl,rfl,h0,s0⟩ := trodAll_cons hA
  obtain ⟨v1,vs1,d1,ds1,p1,r1,rfl,rfl,rfl,h1,s1⟩ := trodAll_cons s0
  obtain ⟨rfl,rfl,rfl⟩ := trodAll_nil s1
  obtain rfl : args = #[v0,v1] := by cases args; simp_all
  obtain ⟨rfl,rfl⟩ := trodVars_none hV
  have k0 := h0
  have k1 := h1
  have lt0 : ∀ x ∈ p0,x.block < W.heap.size := by obtain ⟨m,hm⟩ := k0; exact DataW.trod_lt m _ _ _ hm
  have lt1 : ∀ x ∈ p1,x.block < W.heap.size := by obtain ⟨m,hm⟩ := k1; exact DataW.trod_lt m _ _ _ hm
  obtain ⟨_,_,_,rfl⟩ := okWide_slice Tryz.underlying22 (hval 0 22 v0 rfl rfl)
  obtain ⟨a0,e0,q0⟩ := arg_one (ρ := fun _ => none) rfl h0 opens_Y
  obtain ⟨_,_,_,rfl⟩ := okWide_slice Tryz.underlying22 (hval 1 22 v1 rfl rfl)
  obtain ⟨a1,e1,q1⟩ := arg_one (ρ := fun _ => none) rfl h1 opens_Y
  clear hA0 hval0
  refine (does_calls (lawDigitsB a0 a1 q0 q1) (tabs_met7 hL) ⟨_,_,rfl,e0,⟨_,_,rfl,e1,rfl⟩⟩).mono fun e W' ⟨he,bel⟩ => ?_
  subst he
  exact ⟨_,rfl,_,_,_,[],_,[],hW',trodAll_mk1 (shut_bool Tryz.underlying4 _),(trodAll_cons_mk (Below.trod laidOut (by kernel_rfl) (of_decide_eq_true (by kernel_rfl)) k0 bel lt0) (trodAll_cons_mk (Below.trod laidOut (by kernel_rfl) (of_decide_eq_true (by kernel_rfl)) k1 bel lt1) trodAll_mk0)),rfl,bel.frame _,fun h => by cases h⟩
theorem fact0FnDigits : (Rows.fnDigitsRow.inPlace == Tryz.pinned.checked.prog.inPlace 5) = true := by kernel_rfl
theorem fact1FnDigits : (Rows.fnDigitsRow.unfollowed == Tryz.pinned.checked.prog.unfollowed 5) = true := by kernel_rfl
theorem fact2FnDigits : (Rows.fnDigitsRow.recurses == Tryz.pinned.checked.prog.recurses 5) = true := by kernel_rfl
theorem fact3FnDigits : (Rows.fnDigitsRow.named == Tryz.pinned.checked.prog.varsNamed 5) = true := by kernel_rfl
theorem closedFnDigits : joinedFacts Tryz.pinned.checked.prog 5 Tryz.f5 Rows.fnDigitsSpec Rows.fnDigitsRow = true := by
  unfold joinedFacts
  rw [fact0FnDigits,fact1FnDigits,fact2FnDigits,fact3FnDigits]
  kernel_rfl
theorem provedFnDigits : Rows.FnDigitsSaid :=
  OpenClaim.holds_of_wide 5 Tryz.f5 rfl rfl rfl rfl rfl rfl rfl ⟨rfl,rfl,rfl,rfl,rfl⟩ rfl rfl rfl rfl rfl (by kernel_rfl) Tryz.func5 closedFnDigits
    (of_decide_eq_true (by kernel_rfl)) (by unfold Func.isWrapper; first | (rw [if_pos (by decide +kernel)]; kernel_rfl) | (rw [if_neg (by decide +kernel)]; exact ⟨rfl,rfl⟩))
    (fun os started H enc _ => liftedFnDigits os started H enc)
theorem card1FnDigits : Rows.fnDigitsRow.wfByText (OpenSpec.ofChange Rows.fnDigitsSpec) = true := by kernel_rfl
theorem card2FnDigits : Tryz.pinned.checked.prog.mainIs = some (Rows.fnDigitsCard.stood.harness.1,Rows.fnDigitsCard.stood.harness.2.toList) := by kernel_rfl
theorem card3FnDigits : true = Tryz.pinned.checked.prog.looks [] := by kernel_rfl
theorem card4FnDigits : false = Rows.fnDigitsRow.goesBy Tryz.pinned.checked.prog := by kernel_rfl
theorem card5FnDigits : Tryz.prog.funcNamed "loop.example/g01079/laws.FnDigits" = some 5 := by kernel_rfl
theorem card6FnDigits : ([22,22].all fun u => !Tryz.prog.wantsStandIn u) = true := by kernel_rfl
theorem provedCardFnDigits : Rows.FnDigitsCardSaid :=
  Claim7.holds_tied_plain_at .later [] [.data,.data,.data,.data,.sentinel,.sentinel,.pinned] true Rows.fnDigitsCard.stood.harness true provedFnDigits (fun _ h => by cases h) card1FnDigits (fun _ h => by cases h) fnDigits_row_tie rfl ⟨rfl,rfl⟩ card2FnDigits rfl
    (fun f fn hf hfn => by
      obtain rfl : f = 5 := Option.some.inj (card5FnDigits.symm.trans hf) |>.symm
      obtain rfl : fn = Tryz.f5 := (Option.some.inj (Tryz.func5.symm.trans hfn)).symm
      exact ⟨card3FnDigits,fun j t ht => by
        rw [Tryz.params5] at ht
        have hm : t ∈ [22,22] := by simpa using Array.mem_of_getElem? ht
        exact (show Tryz.prog.wantsStandIn t = false by simpa using List.all_eq_true.1 card6FnDigits t hm)⟩)
    card4FnDigits
end Go.Proofs.YtnkeamihfiobdaaGreatDoor
