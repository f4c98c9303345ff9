/- Whatever the text: the program's ReadJournal hands back what the reference hands back, says the same of it, and its slices are its own, twice. The tables of the library that the rows list are tied to the program's text. -/
import Derived.Test.YtighjcjmacajoaaGreatDoorQ22
import Derived.SevenTiedAt
import Derived.Test.YtighjcjmacajoaaGreatDoorCards
import Derived.Test.YtighjcjmacajoaaGreatDoorTie
set_option linter.unusedVariables false
set_option linter.unusedSimpArgs false
set_option maxRecDepth 100000
set_option maxHeartbeats 4000000
namespace Go.Proofs.YtighjcjmacajoaaGreatDoor
open Go Foot Go.ChangeShapes Go.WideShapes Go.ChangeAt Go.RowKit Go.Deep
theorem preC30 {p : Prop} (h : p := by first | with_reducible assumption | omega | (simp only [List.length_append,List.length_cons,List.length_nil,List.length_set,List.length_replicate,List.length_take,List.length_drop,List.length_tail,List.length_dropLast,List.length_reverse] at *; omega) | exact mem_len (by assumption) (by omega) | (with_reducible refine Int.le_trans (Int.ofNat_le.2 (trimR_len _)) ?_; simp only [List.length_cons,List.length_tail]; omega) | (exact (ruAt_ok (by assumption) (by assumption) (by assumption)).2.1) | (exact (ruAt_ok (by assumption) (by assumption) (by assumption)).2.1) | (have := vMach_bd (by assumption); omega) | (simp only [mC_ch,mC_tu]; omega) | (have := vTag_bd (by assumption); omega) | (have := (‹Gd _ _›).le; omega) | (exact tgHalts_no (by assumption)) | (exact tgHead (by assumption) (by assumption) (by assumption)) | (exact Int.le_trans (tgStep_gd (by assumption) (by assumption) (by assumption) (by assumption)).le (by decide)) | (exact vTag_r (by assumption)) | (with_reducible refine Int.le_trans (Int.ofNat_le.2 (pushL_len _ _)) ?_; simp only [List.length_dropLast]; omega) | exact ls_at (by assumption) (by omega) | exact pt_gd (by assumption) | exact lv_at (by assumption) (by omega) | exact pt_gd (lv_at (by assumption) (by omega)) | exact (ask_ok (by assumption)).1 | exact (ask_ok (by assumption)).2.1 | exact (ask_ok (by assumption)).2.2.1 | exact (ask_ok (by assumption)).2.2.2 | (simp only [marks_len]; omega) | (simp only [marksR_len]; omega) | exact lns_at (by assumption) (by omega) | exact bgs_at (by assumption) (by omega) | trivial) : p := h
theorem lawReadJournal (s : Bs) : Does Tryz.prog 7 [.one (str s)] [] (.one (boo true)) [] := by
  by_cases ha : (1048576 : Int) < s.length
  · refine does_of (k := 0) Tryz.func7 rfl Tryz.ntmps7 rfl rfl fun w F0 S0 ρ0 => ?_
    dsimp only [argT,argH]
    repeat' first|(apply p3;(first|exact pu1|exact a_lenT rfl (fT rfl)|exact puC|exact a_neB rfl rfl (by kernel_rfl)|exact a_ne rfl rfl|exact a_neS rfl rfl rfl);exact rfl)|refine cd ?_|(apply c4 1;exact callK0 (θ := []) (hD := (ReadJournalX_ok _ preC30));exact rfl;exact rfl;exact rfl;refine dM ?_)|(apply c4 1;exact callK1 (θ := []) (hD := (ReadJournalI_ok _ preC30));exact rfl;exact rfl;exact rfl;refine dM ?_)|(apply c4 0;exact callK1 (θ := []) (hD := (eqVerdictSs_ok _ preC30));exact rfl;exact rfl;exact rfl;refine dM ?_)|(apply c4 0;exact callK1 (θ := [_]) (hD := (markVerdictSn_ok _ _ preC30 preC30 preC30));exact rfl;exact rfl;exact rfl;refine dM ?_)|(apply c4 0;exact callK1 (θ := []) (hD := (heldVerdictSn_ok _ _ preC30 preC30 preC30));exact rfl;exact rfl;exact rfl;refine dM ?_)|refine o_no rfl rfl rfl rfl ?_|refine o_noN rfl rfl rfl ?_|(apply py3;exact rfl;exact rfl;(first|exact pu1|exact a_lenT rfl (fT rfl)|exact puC|exact a_neB rfl rfl (by kernel_rfl)|exact a_ne rfl rfl|exact a_neS rfl rfl rfl);exact rfl;exact rfl)|(apply cy4 1;exact rfl;exact rfl;exact callK0 (θ := []) (hD := (ReadJournalX_ok _ preC30));exact rfl;exact rfl;exact rfl;exact rfl;refine dM ?_)|(apply cy4 1;exact rfl;exact rfl;exact callK1 (θ := []) (hD := (ReadJournalI_ok _ preC30));exact rfl;exact rfl;exact rfl;exact rfl;refine dM ?_)|(apply cy4 0;exact rfl;exact rfl;exact callK1 (θ := []) (hD := (eqVerdictSs_ok _ preC30));exact rfl;exact rfl;exact rfl;exact rfl;refine dM ?_)|(apply cy4 0;exact rfl;exact rfl;exact callK1 (θ := [_]) (hD := (markVerdictSn_ok _ _ preC30 preC30 preC30));exact rfl;exact rfl;exact rfl;exact rfl;refine dM ?_)|(apply cy4 0;exact rfl;exact rfl;exact callK1 (θ := []) (hD := (heldVerdictSn_ok _ _ preC30 preC30 preC30));exact rfl;exact rfl;exact rfl;exact rfl;refine dM ?_)|((first|refine o_gs rfl rfl (fun hc => ?_) (fun hc => ?_)|refine g_cond rfl (fun hc => ?_) (fun hc => ?_)) <;> (try simp only [dcB] at hc) <;> (try first|contradiction|(exfalso;omega)))
    repeat refine cr ?_
    refine ends_id ?_
    refine endK [] (h2 := ?_) (h3 := ?_) (nd := ?_)
    all_goals (repeat' first|exact ce0|refine ce ?_|refine ce2 ?_ ?_|exact SVLe.refl|refine ceb ?_)
    all_goals first | exact (show nodupB _ = true from rfl) | exact Or.inr rfl | (rfl)
  have hs : (s.length : Int) ≤ 1048576 := by omega
  obtain ⟨l1,gb⟩ := rjV_len s
  have ht := totV_bd (xs := (rjV s)) gb.a
  have et : totV (rjV s) = totL szv (rjV s) := by unfold totV; rfl
  have ko : ¬ (decide ((jrI s).2 = s.length) == decide ((jrI s).2 = s.length)) = false := by simp
  refine does_of (k := 0) Tryz.func7 rfl Tryz.ntmps7 rfl rfl fun w F0 S0 ρ0 => ?_
  dsimp only [argT,argH]
  repeat' first|(apply p3;(first|exact pu1|exact a_lenT rfl (fT rfl)|exact puC|exact a_neB rfl rfl (by kernel_rfl)|exact a_ne rfl rfl|exact a_neS rfl rfl rfl);exact rfl)|refine cd ?_|(apply c4 1;exact callK0 (θ := []) (hD := (ReadJournalX_ok s hs));exact rfl;exact rfl;exact rfl;refine dM ?_)|(apply c4 1;exact callK1 (θ := []) (hD := (ReadJournalI_ok s hs));exact rfl;exact rfl;exact rfl;refine dM ?_)|(apply c4 0;exact callK1 (θ := []) (hD := (eqVerdictSs_ok (rjV s) gb));exact rfl;exact rfl;exact rfl;refine dM ?_)|(apply c4 0;exact callK1 (θ := [_]) (hD := (markVerdictSn_ok (rjV s) 1 gb (by omega) (by omega)));exact rfl;exact rfl;exact rfl;refine dM ?_)|(apply c4 0;exact callK1 (θ := []) (hD := (heldVerdictSn_ok (rjV s) 1 gb (by omega) (by omega)));exact rfl;exact rfl;exact rfl;refine dM ?_)|(apply c4 1;exact callK1 (θ := []) (hD := (ReadJournalI_ok s hs));exact rfl;exact rfl;exact rfl;refine dM ?_)|(apply c4 0;exact callK1 (θ := []) (hD := (eqVerdictSs_ok (rjV s) gb));exact rfl;exact rfl;exact rfl;refine dM ?_)|(apply c4 0;exact callK1 (θ := []) (hD := (heldVerdictSn_ok (rjV s) 1 gb (by omega) (by omega)));exact rfl;exact rfl;exact rfl;refine dM ?_)|refine o_no rfl rfl rfl rfl ?_|refine o_noN rfl rfl rfl ?_|(apply py3;exact rfl;exact rfl;(first|exact pu1|exact a_lenT rfl (fT rfl)|exact puC|exact a_neB rfl rfl (by kernel_rfl)|exact a_ne rfl rfl|exact a_neS rfl rfl rfl);exact rfl;exact rfl)|(apply cy4 1;exact rfl;exact rfl;exact callK0 (θ := []) (hD := (ReadJournalX_ok s hs));exact rfl;exact rfl;exact rfl;exact rfl;refine dM ?_)|(apply cy4 1;exact rfl;exact rfl;exact callK1 (θ := []) (hD := (ReadJournalI_ok s hs));exact rfl;exact rfl;exact rfl;exact rfl;refine dM ?_)|(apply cy4 0;exact rfl;exact rfl;exact callK1 (θ := []) (hD := (eqVerdictSs_ok (rjV s) gb));exact rfl;exact rfl;exact rfl;exact rfl;refine dM ?_)|(apply cy4 0;exact rfl;exact rfl;exact callK1 (θ := [_]) (hD := (markVerdictSn_ok (rjV s) 1 gb (by omega) (by omega)));exact rfl;exact rfl;exact rfl;exact rfl;refine dM ?_)|(apply cy4 0;exact rfl;exact rfl;exact callK1 (θ := []) (hD := (heldVerdictSn_ok (rjV s) 1 gb (by omega) (by omega)));exact rfl;exact rfl;exact rfl;exact rfl;refine dM ?_)|(apply cy4 1;exact rfl;exact rfl;exact callK1 (θ := []) (hD := (ReadJournalI_ok s hs));exact rfl;exact rfl;exact rfl;exact rfl;refine dM ?_)|(apply cy4 0;exact rfl;exact rfl;exact callK1 (θ := []) (hD := (eqVerdictSs_ok (rjV s) gb));exact rfl;exact rfl;exact rfl;exact rfl;refine dM ?_)|(apply cy4 0;exact rfl;exact rfl;exact callK1 (θ := []) (hD := (heldVerdictSn_ok (rjV s) 1 gb (by omega) (by omega)));exact rfl;exact rfl;exact rfl;exact rfl;refine dM ?_)|((first|refine o_gs rfl rfl (fun hc => ?_) (fun hc => ?_)|refine g_cond rfl (fun hc => ?_) (fun hc => ?_)) <;> (try simp only [dcB] at hc) <;> (try first|contradiction|(exfalso;omega)))
  repeat refine cr ?_
  refine ends_id ?_
  refine endK [] (h2 := ?_) (h3 := ?_) (nd := ?_)
  all_goals (repeat' first|exact ce0|refine ce ?_|refine ce2 ?_ ?_|exact SVLe.refl|refine ceb ?_)
  all_goals first | exact (show nodupB _ = true from rfl) | exact Or.inr rfl | (rfl)
set_option maxRecDepth 100000 in
set_option maxRecDepth 100000 in
theorem liftedFnExactReadJournal (os : Os) (started : os.Started) (H : Type) (enc : TypeId × Value → H) : ReturnsInHanded {} Tryz.checked os 7 .any (fun w args => (Rows.fnExactReadJournalSpec.pre enc Tryz.prog Tryz.f7 [] false w args ∧ laidMetH Tryz.prog Rows.fnExactReadJournalRow.laid w) ∧ sizedMet enc Tryz.prog Tryz.f7 (OpenSpec.ofChange Rows.fnExactReadJournalSpec) false w args) (Rows.fnExactReadJournalSpec.post enc Tryz.prog Tryz.f7 false true false false) := by
  refine returnsInHanded_of_change_and (C := Tryz.checked) (X := fun w _ => laidMetH Tryz.prog Rows.fnExactReadJournalRow.laid w) (fun _ _ _ hh h => h.of_heap hh) own started (by kernel_rfl) Tryz.func7 (ChangeSpec.witness_shaped (enc := enc) (C := Tryz.checked) (os := os) (X := fun w _ => laidMetH Tryz.prog Rows.fnExactReadJournalRow.laid w) false (World.laidAll Tryz.prog os Rows.fnExactReadJournalRow.laid) #[.string ⟨#[]⟩] 12 rfl (World.shaped_of_ZipB (by kernel_rfl) (by kernel_rfl)) (by kernel_rfl) (by kernel_rfl) (by kernel_rfl) (door_met7 os _)) ?_
  intro W base args ds gs before hval0 hW hcnd _ hL _
  have hval : ∀ (j : Nat) t v,Tryz.f7.params[j]? = some t → args[j]? = some v → Value.okWide Tryz.prog W .any base t v := hval0
  have hW' := hW
  obtain ⟨p,q,hA0,hV,rfl,hfz,hnd⟩ := hW
  have hA : DataW.TrodAll enc Tryz.prog W 0 (fun _ => true) true Tryz.f7.params.toList args.toList ds p := hA0
  rw [Tryz.params7] at hA hval
  obtain ⟨v0,vs0,d0,ds0,p0,r0,hargs,rfl,rfl,h0,s0⟩ := trodAll_cons hA
  obtain ⟨rfl,rfl,rfl⟩ := trodAll_nil s0
  obtain rfl : args = #[v0] := by cases args; simp_all
  obtain ⟨rfl,rfl⟩ := trodVars_none hV
  have k0 := h0
  have lt0 : ∀ x ∈ p0,x.block < W.heap.size := by obtain ⟨m,hm⟩ := k0; exact DataW.trod_lt m _ _ _ hm
  obtain ⟨_,rfl⟩ := okWide_string Tryz.underlying9 (hval 0 9 v0 rfl rfl)
  obtain ⟨a0,e0,q0⟩ := arg_one (ρ := fun _ => none) rfl h0 opens_T
  clear hA0 hval0
  refine (does_calls (lawReadJournal a0) (tabs_met7 hL) ⟨_,_,rfl,e0,rfl⟩).mono fun e W' ⟨he,bel⟩ => ?_
  subst he
  exact ⟨_,rfl,_,_,_,[],_,[],hW',trodAll_mk1 (shut_bool Tryz.underlying4 _),(trodAll_cons_mk (Below.trod laidOut (by kernel_rfl) (of_decide_eq_true (by kernel_rfl)) k0 bel lt0) trodAll_mk0),rfl,bel.frame _,fun h => by cases h⟩
theorem fact0FnExactReadJournal : (Rows.fnExactReadJournalRow.inPlace == Tryz.pinned.checked.prog.inPlace 7) = true := by kernel_rfl
theorem fact1FnExactReadJournal : (Rows.fnExactReadJournalRow.unfollowed == Tryz.pinned.checked.prog.unfollowed 7) = true := by kernel_rfl
theorem fact2FnExactReadJournal : (Rows.fnExactReadJournalRow.recurses == Tryz.pinned.checked.prog.recurses 7) = true := by kernel_rfl
theorem fact3FnExactReadJournal : (Rows.fnExactReadJournalRow.named == Tryz.pinned.checked.prog.varsNamed 7) = true := by kernel_rfl
theorem closedFnExactReadJournal : joinedFacts Tryz.pinned.checked.prog 7 Tryz.f7 Rows.fnExactReadJournalSpec Rows.fnExactReadJournalRow = true := by
  unfold joinedFacts
  rw [fact0FnExactReadJournal,fact1FnExactReadJournal,fact2FnExactReadJournal,fact3FnExactReadJournal]
  kernel_rfl
theorem provedFnExactReadJournal : Rows.FnExactReadJournalSaid :=
  OpenClaim.holds_of_wide 7 Tryz.f7 rfl rfl rfl rfl rfl rfl rfl ⟨rfl,rfl,rfl,rfl,rfl⟩ rfl rfl rfl rfl rfl (by kernel_rfl) Tryz.func7 closedFnExactReadJournal
    (of_decide_eq_true (by kernel_rfl)) (by unfold Func.isWrapper; first | (rw [if_pos (by decide +kernel)]; kernel_rfl) | (rw [if_neg (by decide +kernel)]; exact ⟨rfl,rfl⟩))
    (fun os started H enc _ => liftedFnExactReadJournal os started H enc)
theorem card1FnExactReadJournal : Rows.fnExactReadJournalRow.wfByText (OpenSpec.ofChange Rows.fnExactReadJournalSpec) = true := by kernel_rfl
theorem card2FnExactReadJournal : Tryz.pinned.checked.prog.mainIs = some (Rows.fnExactReadJournalCard.stood.harness.1,Rows.fnExactReadJournalCard.stood.harness.2.toList) := by kernel_rfl
theorem card3FnExactReadJournal : true = Tryz.pinned.checked.prog.looks [] := by kernel_rfl
theorem card4FnExactReadJournal : false = Rows.fnExactReadJournalRow.goesBy Tryz.pinned.checked.prog := by kernel_rfl
theorem card5FnExactReadJournal : Tryz.prog.funcNamed "loop.example/g01079/laws.FnExactReadJournal" = some 7 := by kernel_rfl
theorem card6FnExactReadJournal : ([9].all fun u => !Tryz.prog.wantsStandIn u) = true := by kernel_rfl
theorem provedCardFnExactReadJournal : Rows.FnExactReadJournalCardSaid :=
  Claim7.holds_tied_plain_at .later [] [.data,.data,.data,.data,.sentinel,.sentinel,.pinned] true Rows.fnExactReadJournalCard.stood.harness true provedFnExactReadJournal (fun _ h => by cases h) card1FnExactReadJournal (fun _ h => by cases h) fnExactReadJournal_row_tie rfl ⟨rfl,rfl⟩ card2FnExactReadJournal rfl
    (fun f fn hf hfn => by
      obtain rfl : f = 7 := Option.some.inj (card5FnExactReadJournal.symm.trans hf) |>.symm
      obtain rfl : fn = Tryz.f7 := (Option.some.inj (Tryz.func7.symm.trans hfn)).symm
      exact ⟨card3FnExactReadJournal,fun j t ht => by
        rw [Tryz.params7] at ht
        have hm : t ∈ [9] := by simpa using Array.mem_of_getElem? ht
        exact (show Tryz.prog.wantsStandIn t = false by simpa using List.all_eq_true.1 card6FnExactReadJournal t hm)⟩)
    card4FnExactReadJournal
end Go.Proofs.YtighjcjmacajoaaGreatDoor
