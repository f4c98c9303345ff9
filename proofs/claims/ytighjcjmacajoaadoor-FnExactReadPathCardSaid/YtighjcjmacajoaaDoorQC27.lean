/- Whatever the text: the program's ReadPath reads what the reference reads, says the same of it, and hands back a list of its own, twice. The tables of the library that the rows list are tied to the program's text. -/
import Derived.Test.YtighjcjmacajoaaDoorQ21
import Derived.SevenTiedAt
import Derived.Test.YtighjcjmacajoaaDoorCards
import Derived.Test.YtighjcjmacajoaaDoorTie
set_option linter.unusedVariables false
set_option linter.unusedSimpArgs false
set_option maxRecDepth 100000
set_option maxHeartbeats 4000000
namespace Go.Proofs.YtighjcjmacajoaaDoor
open Go Foot Go.ChangeShapes Go.WideShapes Go.ChangeAt Go.RowKit Go.Deep
theorem rdP_len {s : Bs} {w : List Int} (h : rdP s = some w) : (w.length : Int) ≤ 36 := by
  unfold rdP at h
  split at h
  · cases h
  · next q =>
    cases h
    have h0 : s ≠ [] := fun e => q (.inl e)
    have h1 : ptP (dotS s) = s := Classical.byContradiction fun e => q (.inr (.inr e))
    unfold ptP at h1
    split at h1
    · next q2 => exact q2.1
    · exact absurd h1.symm h0
theorem preC27 {p : Prop} (h : p := by first | with_reducible assumption | omega | (simp only [List.length_append,List.length_cons,List.length_nil,List.length_set,List.length_replicate,List.length_take,List.length_drop,List.length_tail,List.length_dropLast,List.length_reverse] at *; omega) | exact mem_len (by assumption) (by omega) | (with_reducible refine Int.le_trans (Int.ofNat_le.2 (trimR_len _)) ?_; simp only [List.length_cons,List.length_tail]; omega) | (exact (ruAt_ok (by assumption) (by assumption) (by assumption)).2.1) | (exact (ruAt_ok (by assumption) (by assumption) (by assumption)).2.1) | (have := vMach_bd (by assumption); omega) | (simp only [mC_ch,mC_tu]; omega) | (have := vTag_bd (by assumption); omega) | (have := (‹Gd _ _›).le; omega) | (exact tgHalts_no (by assumption)) | (exact tgHead (by assumption) (by assumption) (by assumption)) | (exact Int.le_trans (tgStep_gd (by assumption) (by assumption) (by assumption) (by assumption)).le (by decide)) | (exact vTag_r (by assumption)) | (with_reducible refine Int.le_trans (Int.ofNat_le.2 (pushL_len _ _)) ?_; simp only [List.length_dropLast]; omega) | exact ls_at (by assumption) (by omega) | exact pt_gd (by assumption) | exact lv_at (by assumption) (by omega) | exact pt_gd (lv_at (by assumption) (by omega)) | exact (ask_ok (by assumption)).1 | exact (ask_ok (by assumption)).2.1 | exact (ask_ok (by assumption)).2.2.1 | exact (ask_ok (by assumption)).2.2.2 | (simp only [marks_len]; omega) | (simp only [marksR_len]; omega) | exact lns_at (by assumption) (by omega) | exact bgs_at (by assumption) (by omega) | trivial) : p := h
theorem lawReadPath (s : Bs) : Does Tryd.prog 3 [.one (str s)] [] (.one (boo true)) [] := by
  by_cases ha : (1048576 : Int) < s.length
  · refine does_of (k := 0) Tryd.func3 rfl Tryd.ntmps3 rfl rfl fun w F0 S0 ρ0 => ?_
    dsimp only [argT,argH]
    repeat' first|(apply p3;(first|exact pu1|exact a_lenT rfl (fT rfl)|exact puC);exact rfl)|refine cd ?_|((refine g_cond rfl (fun hc => ?_) (fun hc => ?_)) <;> (try simp only [dcB] at hc) <;> (try first|contradiction|(exfalso;omega)))
    repeat refine cr ?_
    refine ends_id ?_
    refine endK [] (h2 := ?_) (h3 := ?_) (nd := ?_)
    all_goals (repeat' first|exact ce0|refine ce ?_|refine ce2 ?_ ?_|exact SVLe.refl|refine ceb ?_)
    all_goals first | exact (show nodupB _ = true from rfl) | exact Or.inr rfl | (rfl)
  have hs : (s.length : Int) ≤ 1048576 := by omega
  obtain ⟨r,er⟩ : ∃ r,r = rdP s := ⟨_,rfl⟩
  obtain ⟨u,ew⟩ : ∃ u,u = (rdP s).getD [] := ⟨_,rfl⟩
  have hw : (u.length : Int) ≤ 36 := by
    cases hr : rdP s with
    | none => rw [ew,hr]; simp
    | some x => rw [ew,hr]; exact rdP_len hr
  have kh := held_marks 1 u.length
  have kr : ¬ eqI u u = false := by simp [eqI]
  refine does_of (k := 0) Tryd.func3 rfl Tryd.ntmps3 rfl rfl fun w F0 S0 ρ0 => ?_
  dsimp only [argT,argH]
  repeat' first|(apply p3;(first|exact pu1|exact a_lenT rfl (fT rfl)|exact puC);exact rfl)|refine cdn ?_|refine g_reg (id := 0) ?_|refine g_reg (id := 1) ?_|refine g_reg (id := 3) ?_|refine g_reg (id := 4) ?_|(apply c4 1;exact callK1 (θ := []) (hD := (sReadPath_ok s hs));exact rfl;exact rfl;exact rfl;refine dM ?_)|(apply c4 1;exact callK1 (θ := []) (hD := (ReadPath_ok s hs));exact rfl;exact rfl;exact rfl;refine dM ?_)|((refine g_cond rfl (fun hc => ?_) (fun hc => ?_)) <;> (try simp only [dcB] at hc) <;> (try first|contradiction|(exfalso;omega)))
  rw [← ew]
  cases hb : (rdP s).isSome with
  | false =>
    repeat' first|(apply p3;(first|exact pu1|exact puC|exact a_ne rfl rfl);exact rfl)|refine cdn ?_|refine g_reg (id := 5) ?_|refine g_reg (id := 7) ?_|refine g_reg (id := 8) ?_|refine g_reg (id := 9) ?_|refine g_reg (id := 10) ?_|refine g_reg (id := 11) ?_|refine g_reg (id := 13) ?_|refine g_reg (id := 15) ?_|(apply c4 1;exact callK1 (θ := []) (hD := (ReadPath_ok s hs));exact rfl;exact rfl;exact rfl;refine dM ?_)|(apply c4 0;exact callK1 (θ := []) (hD := (eqInt64S_ok _ _ preC27 preC27));exact rfl;exact rfl;exact rfl;refine dM ?_)|(apply c4 0;exact callK1 (θ := [_]) (hD := (markInt64S_ok _ _ preC27 preC27 preC27));exact rfl;exact rfl;exact rfl;refine dM ?_)|(apply c4 0;exact callK1 (θ := []) (hD := (heldInt64S_ok _ _ preC27 preC27 preC27));exact rfl;exact rfl;exact rfl;refine dM ?_)|(apply py3;exact rfl;exact rfl;(first|exact pu1|exact a_neB rfl rfl (by kernel_rfl));exact rfl;exact rfl)|((first|refine o_gs rfl rfl (fun hc => ?_) (fun hc => ?_)|refine g_cond rfl (fun hc => ?_) (fun hc => ?_)) <;> (try simp only [dcB] at hc) <;> (try first|contradiction|(exfalso;omega)))
    rw [← ew,hb]
    repeat' first|(apply p3;(first|exact pu1|exact puC|exact a_ne rfl rfl);exact rfl)|refine cd ?_|(apply c4 0;exact callK1 (θ := []) (hD := (eqInt64S_ok _ _ preC27 preC27));exact rfl;exact rfl;exact rfl;refine dM ?_)|(apply c4 0;exact callK1 (θ := []) (hD := (heldInt64S_ok _ _ preC27 preC27 preC27));exact rfl;exact rfl;exact rfl;refine dM ?_)|(apply py3;exact rfl;exact rfl;(first|exact pu1|exact a_neB rfl rfl (by kernel_rfl));exact rfl;exact rfl)|((first|refine o_gs rfl rfl (fun hc => ?_) (fun hc => ?_)|refine g_cond rfl (fun hc => ?_) (fun hc => ?_)) <;> (try simp only [dcB] at hc) <;> (try first|contradiction|(exfalso;omega)))
    repeat refine cr ?_
    refine ends_id ?_
    refine endK [] (h2 := ?_) (h3 := ?_) (nd := ?_)
    all_goals (repeat' first|exact ce0|refine ce ?_|refine ce2 ?_ ?_|exact SVLe.refl|refine ceb ?_)
    all_goals first | exact (show nodupB _ = true from rfl) | exact Or.inr rfl | (rfl)
  | true =>
    repeat' first|(apply p3;(first|exact pu1|exact puC|exact a_ne rfl rfl);exact rfl)|refine cdn ?_|refine g_reg (id := 5) ?_|refine g_reg (id := 7) ?_|refine g_reg (id := 8) ?_|refine g_reg (id := 9) ?_|refine g_reg (id := 10) ?_|refine g_reg (id := 11) ?_|refine g_reg (id := 13) ?_|refine g_reg (id := 15) ?_|(apply c4 1;exact callK1 (θ := []) (hD := (ReadPath_ok s hs));exact rfl;exact rfl;exact rfl;refine dM ?_)|(apply c4 0;exact callK1 (θ := []) (hD := (eqInt64S_ok _ _ preC27 preC27));exact rfl;exact rfl;exact rfl;refine dM ?_)|(apply c4 0;exact callK1 (θ := [_]) (hD := (markInt64S_ok _ _ preC27 preC27 preC27));exact rfl;exact rfl;exact rfl;refine dM ?_)|(apply c4 0;exact callK1 (θ := []) (hD := (heldInt64S_ok _ _ preC27 preC27 preC27));exact rfl;exact rfl;exact rfl;refine dM ?_)|(apply py3;exact rfl;exact rfl;(first|exact pu1|exact a_neB rfl rfl (by kernel_rfl));exact rfl;exact rfl)|((first|refine o_gs rfl rfl (fun hc => ?_) (fun hc => ?_)|refine g_cond rfl (fun hc => ?_) (fun hc => ?_)) <;> (try simp only [dcB] at hc) <;> (try first|contradiction|(exfalso;omega)))
    rw [← ew,hb]
    repeat' first|(apply p3;(first|exact pu1|exact puC|exact a_ne rfl rfl);exact rfl)|refine cd ?_|(apply c4 0;exact callK1 (θ := []) (hD := (eqInt64S_ok _ _ preC27 preC27));exact rfl;exact rfl;exact rfl;refine dM ?_)|(apply c4 0;exact callK1 (θ := []) (hD := (heldInt64S_ok _ _ preC27 preC27 preC27));exact rfl;exact rfl;exact rfl;refine dM ?_)|(apply py3;exact rfl;exact rfl;(first|exact pu1|exact a_neB rfl rfl (by kernel_rfl));exact rfl;exact rfl)|((first|refine o_gs rfl rfl (fun hc => ?_) (fun hc => ?_)|refine g_cond rfl (fun hc => ?_) (fun hc => ?_)) <;> (try simp only [dcB] at hc) <;> (try first|contradiction|(exfalso;omega)))
    repeat refine cr ?_
    refine ends_id ?_
    refine endK [] (h2 := ?_) (h3 := ?_) (nd := ?_)
    all_goals (repeat' first|exact ce0|refine ce ?_|refine ce2 ?_ ?_|exact SVLe.refl|refine ceb ?_)
    all_goals first | exact (show nodupB _ = true from rfl) | exact Or.inr rfl | (rfl)
set_option maxRecDepth 100000 in
set_option maxRecDepth 100000 in
theorem liftedFnExactReadPath (os : Os) (started : os.Started) (H : Type) (enc : TypeId × Value → H) : ReturnsInHanded {} Tryd.checked os 3 .any (fun w args => (Rows.fnExactReadPathSpec.pre enc Tryd.prog Tryd.f3 [] false w args ∧ laidMetH Tryd.prog Rows.fnExactReadPathRow.laid w) ∧ sizedMet enc Tryd.prog Tryd.f3 (OpenSpec.ofChange Rows.fnExactReadPathSpec) false w args) (Rows.fnExactReadPathSpec.post enc Tryd.prog Tryd.f3 false true false false) := by
  refine returnsInHanded_of_change_and (C := Tryd.checked) (X := fun w _ => laidMetH Tryd.prog Rows.fnExactReadPathRow.laid w) (fun _ _ _ hh h => h.of_heap hh) own started (by kernel_rfl) Tryd.func3 (ChangeSpec.witness_shaped (enc := enc) (C := Tryd.checked) (os := os) (X := fun w _ => laidMetH Tryd.prog Rows.fnExactReadPathRow.laid w) false (World.laidAll Tryd.prog os Rows.fnExactReadPathRow.laid) #[.string ⟨#[]⟩] 12 rfl (World.shaped_of_ZipB (by kernel_rfl) (by kernel_rfl)) (by kernel_rfl) (by kernel_rfl) (by kernel_rfl) (door_met7 os _)) ?_
  intro W base args ds gs before hval0 hW hcnd _ hL _
  have hval : ∀ (j : Nat) t v,Tryd.f3.params[j]? = some t → args[j]? = some v → Value.okWide Tryd.prog W .any base t v := hval0
  have hW' := hW
  obtain ⟨p,q,hA0,hV,rfl,hfz,hnd⟩ := hW
  have hA : DataW.TrodAll enc Tryd.prog W 0 (fun _ => true) true Tryd.f3.params.toList args.toList ds p := hA0
  rw [Tryd.params3] at hA hval
  obtain ⟨v0,vs0,d0,ds0,p0,r0,hargs,rfl,rfl,h0,s0⟩ := trodAll_cons hA
  obtain ⟨rfl,rfl,rfl⟩ := trodAll_nil s0
  obtain rfl : args = #[v0] := by cases args; simp_all
  obtain ⟨rfl,rfl⟩ := trodVars_none hV
  have k0 := h0
  have lt0 : ∀ x ∈ p0,x.block < W.heap.size := by obtain ⟨m,hm⟩ := k0; exact DataW.trod_lt m _ _ _ hm
  obtain ⟨_,rfl⟩ := okWide_string Tryd.underlying9 (hval 0 9 v0 rfl rfl)
  obtain ⟨a0,e0,q0⟩ := arg_one (ρ := fun _ => none) rfl h0 opens_T
  clear hA0 hval0
  refine (does_calls (lawReadPath a0) (tabs_met7 hL) ⟨_,_,rfl,e0,rfl⟩).mono fun e W' ⟨he,bel⟩ => ?_
  subst he
  exact ⟨_,rfl,_,_,_,[],_,[],hW',trodAll_mk1 (shut_bool Tryd.underlying4 _),(trodAll_cons_mk (Below.trod laidOut (by kernel_rfl) (of_decide_eq_true (by kernel_rfl)) k0 bel lt0) trodAll_mk0),rfl,bel.frame _,fun h => by cases h⟩
theorem fact0FnExactReadPath : (Rows.fnExactReadPathRow.inPlace == Tryd.pinned.checked.prog.inPlace 3) = true := by kernel_rfl
theorem fact1FnExactReadPath : (Rows.fnExactReadPathRow.unfollowed == Tryd.pinned.checked.prog.unfollowed 3) = true := by kernel_rfl
theorem fact2FnExactReadPath : (Rows.fnExactReadPathRow.recurses == Tryd.pinned.checked.prog.recurses 3) = true := by kernel_rfl
theorem fact3FnExactReadPath : (Rows.fnExactReadPathRow.named == Tryd.pinned.checked.prog.varsNamed 3) = true := by kernel_rfl
theorem closedFnExactReadPath : joinedFacts Tryd.pinned.checked.prog 3 Tryd.f3 Rows.fnExactReadPathSpec Rows.fnExactReadPathRow = true := by
  unfold joinedFacts
  rw [fact0FnExactReadPath,fact1FnExactReadPath,fact2FnExactReadPath,fact3FnExactReadPath]
  kernel_rfl
theorem provedFnExactReadPath : Rows.FnExactReadPathSaid :=
  OpenClaim.holds_of_wide 3 Tryd.f3 rfl rfl rfl rfl rfl rfl rfl ⟨rfl,rfl,rfl,rfl,rfl⟩ rfl rfl rfl rfl rfl (by kernel_rfl) Tryd.func3 closedFnExactReadPath
    (of_decide_eq_true (by kernel_rfl)) (by unfold Func.isWrapper; first | (rw [if_pos (by decide +kernel)]; kernel_rfl) | (rw [if_neg (by decide +kernel)]; exact ⟨rfl,rfl⟩))
    (fun os started H enc _ => liftedFnExactReadPath os started H enc)
theorem card1FnExactReadPath : Rows.fnExactReadPathRow.wfByText (OpenSpec.ofChange Rows.fnExactReadPathSpec) = true := by kernel_rfl
theorem card2FnExactReadPath : Tryd.pinned.checked.prog.mainIs = some (Rows.fnExactReadPathCard.stood.harness.1,Rows.fnExactReadPathCard.stood.harness.2.toList) := by kernel_rfl
theorem card3FnExactReadPath : true = Tryd.pinned.checked.prog.looks [] := by kernel_rfl
theorem card4FnExactReadPath : false = Rows.fnExactReadPathRow.goesBy Tryd.pinned.checked.prog := by kernel_rfl
theorem card5FnExactReadPath : Tryd.prog.funcNamed "loop.example/g01079/laws.FnExactReadPath" = some 3 := by kernel_rfl
theorem card6FnExactReadPath : ([9].all fun u => !Tryd.prog.wantsStandIn u) = true := by kernel_rfl
theorem provedCardFnExactReadPath : Rows.FnExactReadPathCardSaid :=
  Claim7.holds_tied_plain_at .later [] [.data,.data,.data,.data,.sentinel,.sentinel,.pinned] true Rows.fnExactReadPathCard.stood.harness true provedFnExactReadPath (fun _ h => by cases h) card1FnExactReadPath (fun _ h => by cases h) fnExactReadPath_row_tie rfl ⟨rfl,rfl⟩ card2FnExactReadPath rfl
    (fun f fn hf hfn => by
      obtain rfl : f = 3 := Option.some.inj (card5FnExactReadPath.symm.trans hf) |>.symm
      obtain rfl : fn = Tryd.f3 := (Option.some.inj (Tryd.func3.symm.trans hfn)).symm
      exact ⟨card3FnExactReadPath,fun j t ht => by
        rw [Tryd.params3] at ht
        have hm : t ∈ [9] := by simpa using Array.mem_of_getElem? ht
        exact (show Tryd.prog.wantsStandIn t = false by simpa using List.all_eq_true.1 card6FnExactReadPath t hm)⟩)
    card4FnExactReadPath
end Go.Proofs.YtighjcjmacajoaaDoor
