/- Automata, whatever bytes draw one and words: an automaton is that of its rank, where there is one, and of its text, and without the states that cannot be reached it tells the same words apart. The tables and errors of the library that the rows list are tied to the program's text. -/
import Derived.Test.YtbblkhjjgnpbaaaDoorQ21
import Derived.SevenTiedAt
import Derived.Test.YtbblkhjjgnpbaaaDoorCards
import Derived.Test.YtbblkhjjgnpbaaaDoorTie
set_option linter.unusedVariables false
set_option linter.unusedSimpArgs false
set_option maxRecDepth 100000
set_option maxHeartbeats 4000000
namespace Go.Proofs.YtbblkhjjgnpbaaaDoor
open Go Foot Go.ChangeShapes Go.WideShapes Go.ChangeAt Go.RowKit Go.Deep
theorem lawRanksB (l l2 : List Int) (h : l.length ≤ maxLen ∧ ∀ x ∈ l,0 ≤ x ∧ x < 256) (h2 : l2.length ≤ maxLen ∧ ∀ x ∈ l2,0 ≤ x ∧ x < 256) : Does Tryd.prog 4 [.one (shY l),.one (shY l2)] [] (.one (boo true)) [] :=
  lawRanks l l2 (by have := h.1; unfold maxLen at this; omega) (by have := h2.1; unfold maxLen at this; omega) (fun x hx => by have := h.2 x hx; omega) fun x hx => by have := h2.2 x hx; omega
set_option maxRecDepth 100000 in
set_option maxRecDepth 100000 in
theorem liftedFnRanks (os : Os) (started : os.Started) (H : Type) (enc : TypeId × Value → H) : ReturnsInHanded {} Tryd.checked os 4 .any (fun w args => (Rows.fnRanksSpec.pre enc Tryd.prog Tryd.f4 [] false w args ∧ laidMetH Tryd.prog Rows.fnRanksRow.laid w) ∧ sizedMet enc Tryd.prog Tryd.f4 (OpenSpec.ofChange Rows.fnRanksSpec) false w args) (Rows.fnRanksSpec.post enc Tryd.prog Tryd.f4 false true false false) := by
  refine returnsInHanded_of_change_and (C := Tryd.checked) (X := fun w _ => laidMetH Tryd.prog Rows.fnRanksRow.laid w) (fun _ _ _ hh h => h.of_heap hh) own started (by kernel_rfl) Tryd.func4 (ChangeSpec.witness_shaped (enc := enc) (C := Tryd.checked) (os := os) (X := fun w _ => laidMetH Tryd.prog Rows.fnRanksRow.laid w) false (World.laidAll Tryd.prog os Rows.fnRanksRow.laid) #[.slice none 0 0,.slice none 0 0] 12 rfl (World.shaped_of_ZipB (by kernel_rfl) (by kernel_rfl)) (by kernel_rfl) (by kernel_rfl) (by kernel_rfl) (door_met7 os _)) ?_
  intro W base args ds gs before hval0 hW hcnd _ hL _
  have hval : ∀ (j : Nat) t v,Tryd.f4.params[j]? = some t → args[j]? = some v → Value.okWide Tryd.prog W .any base t v := hval0
  have hW' := hW
  obtain ⟨p,q,hA0,hV,rfl,hfz,hnd⟩ := hW
  have hA : DataW.TrodAll enc Tryd.prog W 0 (fun _ => true) true Tryd.f4.params.toList args.toList ds p := hA0
  rw [Tryd.params4] at hA hval
  obtain ⟨v0,vs0,d0,ds0,p0,r0,hargs,rfl,rfl,h0,s0⟩ := trodAll_cons hA
  obtain ⟨v1,vs1,d1,ds1,p1,r1,rfl,rfl,rfl,h1,s1⟩ := trodAll_cons s0
  obtain ⟨rfl,rfl,rfl⟩ := trodAll_nil s1
  obtain rfl : args = #[v0,v1] := by cases args; simp_all
  obtain ⟨rfl,rfl⟩ := trodVars_none hV
  have k0 := h0
  have k1 := h1
  have lt0 : ∀ x ∈ p0,x.block < W.heap.size := by obtain ⟨m,hm⟩ := k0; exact DataW.trod_lt m _ _ _ hm
  have lt1 : ∀ x ∈ p1,x.block < W.heap.size := by obtain ⟨m,hm⟩ := k1; exact DataW.trod_lt m _ _ _ hm
  obtain ⟨_,_,_,rfl⟩ := okWide_slice Tryd.underlying40 (hval 0 40 v0 rfl rfl)
  obtain ⟨a0,e0,q0⟩ := arg_one (ρ := fun _ => none) rfl h0 opens_Y
  obtain ⟨_,_,_,rfl⟩ := okWide_slice Tryd.underlying40 (hval 1 40 v1 rfl rfl)
  obtain ⟨a1,e1,q1⟩ := arg_one (ρ := fun _ => none) rfl h1 opens_Y
  clear hA0 hval0
  refine (does_calls (lawRanksB a0 a1 q0 q1) (tabs_met7 hL) ⟨_,_,rfl,e0,⟨_,_,rfl,e1,rfl⟩⟩).mono fun e W' ⟨he,bel⟩ => ?_
  subst he
  exact ⟨_,rfl,_,_,_,[],_,[],hW',trodAll_mk1 (shut_bool Tryd.underlying4 _),(trodAll_cons_mk (Below.trod laidOut (by kernel_rfl) (of_decide_eq_true (by kernel_rfl)) k0 bel lt0) (trodAll_cons_mk (Below.trod laidOut (by kernel_rfl) (of_decide_eq_true (by kernel_rfl)) k1 bel lt1) trodAll_mk0)),rfl,bel.frame _,fun h => by cases h⟩
theorem fact0FnRanks : (Rows.fnRanksRow.inPlace == Tryd.pinned.checked.prog.inPlace 4) = true := by kernel_rfl
theorem fact1FnRanks : (Rows.fnRanksRow.unfollowed == Tryd.pinned.checked.prog.unfollowed 4) = true := by kernel_rfl
theorem fact2FnRanks : (Rows.fnRanksRow.recurses == Tryd.pinned.checked.prog.recurses 4) = true := by kernel_rfl
theorem fact3FnRanks : (Rows.fnRanksRow.named == Tryd.pinned.checked.prog.varsNamed 4) = true := by kernel_rfl
theorem closedFnRanks : joinedFacts Tryd.pinned.checked.prog 4 Tryd.f4 Rows.fnRanksSpec Rows.fnRanksRow = true := by
  unfold joinedFacts
  rw [fact0FnRanks,fact1FnRanks,fact2FnRanks,fact3FnRanks]
  kernel_rfl
theorem provedFnRanks : Rows.FnRanksSaid :=
  OpenClaim.holds_of_wide 4 Tryd.f4 rfl rfl rfl rfl rfl rfl rfl ⟨rfl,rfl,rfl,rfl,rfl⟩ rfl rfl rfl rfl rfl (by kernel_rfl) Tryd.func4 closedFnRanks
    (of_decide_eq_true (by kernel_rfl)) (by unfold Func.isWrapper; first | (rw [if_pos (by decide +kernel)]; kernel_rfl) | (rw [if_neg (by decide +kernel)]; exact ⟨rfl,rfl⟩))
    (fun os started H enc _ => liftedFnRanks os started H enc)
theorem card1FnRanks : Rows.fnRanksRow.wfByText (OpenSpec.ofChange Rows.fnRanksSpec) = true := by kernel_rfl
theorem card2FnRanks : Tryd.pinned.checked.prog.mainIs = some (Rows.fnRanksCard.stood.harness.1,Rows.fnRanksCard.stood.harness.2.toList) := by kernel_rfl
theorem card3FnRanks : true = Tryd.pinned.checked.prog.looks [] := by kernel_rfl
theorem card4FnRanks : false = Rows.fnRanksRow.goesBy Tryd.pinned.checked.prog := by kernel_rfl
theorem card5FnRanks : Tryd.prog.funcNamed "loop.example/g01079/laws.FnRanks" = some 4 := by kernel_rfl
theorem card6FnRanks : ([40,40].all fun u => !Tryd.prog.wantsStandIn u) = true := by kernel_rfl
theorem provedCardFnRanks : Rows.FnRanksCardSaid :=
  Claim7.holds_tied_plain_at .later [] [.data,.data,.data,.data,.sentinel,.sentinel,.pinned] true Rows.fnRanksCard.stood.harness true provedFnRanks (fun _ h => by cases h) card1FnRanks (fun _ h => by cases h) fnRanks_row_tie rfl ⟨rfl,rfl⟩ card2FnRanks rfl
    (fun f fn hf hfn => by
      obtain rfl : f = 4 := Option.some.inj (card5FnRanks.symm.trans hf) |>.symm
      obtain rfl : fn = Tryd.f4 := (Option.some.inj (Tryd.func4.symm.trans hfn)).symm
      exact ⟨card3FnRanks,fun j t ht => by
        rw [Tryd.params4] at ht
        have hm : t ∈ [40,40] := by simpa using Array.mem_of_getElem? ht
        exact (show Tryd.prog.wantsStandIn t = false by simpa using List.all_eq_true.1 card6FnRanks t hm)⟩)
    card4FnRanks
end Go.Proofs.YtbblkhjjgnpbaaaDoor
