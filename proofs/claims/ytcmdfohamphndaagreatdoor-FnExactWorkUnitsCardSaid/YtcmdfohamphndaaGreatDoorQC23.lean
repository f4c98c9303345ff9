/- For all sizes, every depth and every budget: the program's WorkUnits lists what the reference's lists, with the same code, and hands back lists of its own. The tables of the library that the rows list are tied to the program's text. -/
import Derived.Test.YtcmdfohamphndaaGreatDoorQ22
import Derived.SevenTiedAt
import Derived.Test.YtcmdfohamphndaaGreatDoorCards
import Derived.Test.YtcmdfohamphndaaGreatDoorTie
set_option linter.unusedVariables false
set_option linter.unusedSimpArgs false
set_option maxRecDepth 100000
set_option maxHeartbeats 4000000
namespace Go.Proofs.YtcmdfohamphndaaGreatDoor
open Go Foot Go.ChangeShapes Go.WideShapes Go.ChangeAt Go.RowKit Go.Deep
theorem blL_bd2 (st sy B depth : Int) (p : List Int) (hd : 0 ≤ depth ∧ depth ≤ 36) : ((blL st sy B depth p).length : Int) ≤ 400 ∧ ∀ x ∈ blL st sy B depth p,(x.length : Int) ≤ 36 := by
  cases hv : pth B (root sy st) p with
  | none => rw [(bl_none (depth := depth) hv).2]; exact ⟨by simp,fun x hx => by cases hx⟩
  | some m =>
    by_cases hpd : (p.length : Int) ≤ depth
    · obtain ⟨b1,b2⟩ := bl_some2 (B := B) hv hpd rfl
      by_cases hf : ((tre B (depth - p.length).toNat p m).length : Int) ≤ 400
      · rw [(b1 hf).2]
        refine ⟨hf,fun x hx => ?_⟩
        have := tre_len B (depth - p.length).toNat p m x hx
        omega
      · rw [(b2 hf).2]; exact ⟨by simp,fun x hx => by cases hx⟩
    · rw [(bl_some0 hv hpd).2]; exact ⟨by simp,fun x hx => by cases hx⟩
theorem wuL_bd (st sy B depth : Int) : ((wuL st sy B depth).length : Int) ≤ 400 ∧ ∀ x ∈ wuL st sy B depth,(x.length : Int) ≤ 36 := by
  by_cases h : askT st sy B = 0
  · by_cases h2 : 0 ≤ depth ∧ depth ≤ 36
    · obtain ⟨b1,b2⟩ := blL_bd2 st sy B depth [] h2
      unfold wuL
      split
      · refine ⟨?_,fun x hx => b2 x (List.mem_filter.1 hx).1⟩
        have := List.length_filter_le (wuP st sy B depth) (blL st sy B depth [])
        omega
      · exact ⟨by simp,fun x hx => by cases hx⟩
    · rw [(wu_dep h h2).2]; exact ⟨by simp,fun x hx => by cases hx⟩
  · rw [(wu_ask h).2]; exact ⟨by simp,fun x hx => by cases hx⟩
theorem preC23 {p : Prop} (h : p := by first | with_reducible assumption | omega | (simp only [List.length_append,List.length_cons,List.length_nil,List.length_set,List.length_replicate,List.length_take,List.length_drop,List.length_tail,List.length_dropLast,List.length_reverse] at *; omega) | exact mem_len (by assumption) (by omega) | (with_reducible refine Int.le_trans (Int.ofNat_le.2 (trimR_len _)) ?_; simp only [List.length_cons,List.length_tail]; omega) | (exact (ruAt_ok (by assumption) (by assumption) (by assumption)).2.1) | (exact (ruAt_ok (by assumption) (by assumption) (by assumption)).2.1) | (have := vMach_bd (by assumption); omega) | (simp only [mC_ch,mC_tu]; omega) | (have := vTag_bd (by assumption); omega) | (have := (‹Gd _ _›).le; omega) | (exact tgHalts_no (by assumption)) | (exact tgHead (by assumption) (by assumption) (by assumption)) | (exact Int.le_trans (tgStep_gd (by assumption) (by assumption) (by assumption) (by assumption)).le (by decide)) | (exact vTag_r (by assumption)) | (with_reducible refine Int.le_trans (Int.ofNat_le.2 (pushL_len _ _)) ?_; simp only [List.length_dropLast]; omega) | exact ls_at (by assumption) (by omega) | exact pt_gd (by assumption) | exact lv_at (by assumption) (by omega) | exact pt_gd (lv_at (by assumption) (by omega)) | exact (ask_ok (by assumption)).1 | exact (ask_ok (by assumption)).2.1 | exact (ask_ok (by assumption)).2.2.1 | exact (ask_ok (by assumption)).2.2.2 | (simp only [marks_len]; omega) | (simp only [marksR_len]; omega) | exact lns_at (by assumption) (by omega) | exact bgs_at (by assumption) (by omega) | trivial) : p := h
theorem lawWorkUnits (st sy d B : Int) : Does Tryz.prog 11 [.one (int st),.one (int sy),.one (int d),.one (int B)] [] (.one (boo true)) [] := by
  obtain ⟨hl,hls⟩ := wuL_bd st sy B d
  have hls2 : ∀ x ∈ wuL st sy B d,(x.length : Int) ≤ 1048576 := fun x hx => by have := hls x hx; omega
  have hls3 : ∀ x ∈ wuL st sy B d,(x.length : Int) ≤ 4611686018427 := fun x hx => by have := hls x hx; omega
  have htw : 0 ≤ totW (wuL st sy B d) ∧ totW (wuL st sy B d) ≤ 14400 := by
    have := totL_bd szw 36 (xs := wuL st sy B d) (fun x hx => ⟨by unfold szw; omega,hls x hx⟩)
    unfold totW
    omega
  have kr : ¬ eqWs (wuL st sy B d) (wuL st sy B d) = false := by simp [eqWs]
  refine does_of (k := 0) Tryz.func11 rfl Tryz.ntmps11 rfl rfl fun w F0 S0 ρ0 => ?_
  dsimp only [argT,argH]
  repeat' first|(apply p3;exact pu1;exact rfl)|refine cdn ?_|refine g_reg (id := 0) ?_|refine g_reg (id := 1) ?_|(apply c4 1;exact callK0 (θ := []) (hD := (sWorkUnits_ok _ _ _ _));exact rfl;exact rfl;exact rfl;refine dM ?_)|((first|refine o_gs rfl rfl (fun hc => ?_) (fun hc => ?_)|refine g_cond rfl (fun hc => ?_) (fun hc => ?_)) <;> (try simp only [dcB] at hc) <;> (try first|contradiction|(exfalso;omega)))
  first | refine g_turn (t_frzR (d := 9) (i := 0) rfl rfl shutR) ?_ | refine o_turn (t_frzR (d := 9) (i := 0) rfl rfl shutR) ?_
  repeat' first|(apply p3;(first|exact pu1|exact a_ne rfl rfl|exact a_neS rfl rfl rfl|exact puC);exact rfl)|refine cd ?_|(apply c4 1;exact callK0 (θ := []) (hD := (sWorkUnits_ok _ _ _ _));exact rfl;exact rfl;exact rfl;refine dM ?_)|(apply c4 1;exact callK1 (θ := []) (hD := (iWorkUnits_ok _ _ _ _));exact rfl;exact rfl;exact rfl;refine dM ?_)|(apply c4 0;exact callK1 (θ := []) (hD := (eqInt64SS_ok (wuL st sy B d) (wuL st sy B d) preC23 preC23 hls2 hls2));exact rfl;exact rfl;exact rfl;refine dM ?_)|(apply c4 0;exact callK0 (θ := [_]) (hD := (markInt64SS0_ok _));exact rfl;exact rfl;exact rfl;refine dM ?_)|(apply c4 0;exact callK1 (θ := [_]) (hD := (markInt64SSn_ok (wuL st sy B d) 1 preC23 preC23 preC23 hls3));exact rfl;exact rfl;exact rfl;refine dM ?_)|(apply c4 0;exact callK1 (θ := []) (hD := (heldInt64SS0_ok _));exact rfl;exact rfl;exact rfl;refine dM ?_)|(apply c4 0;exact callK1 (θ := []) (hD := (heldMarksW_ok (wuL st sy B d) 1 preC23 preC23 preC23 hls3));exact rfl;exact rfl;exact rfl;refine dM ?_)|(apply c4 0;exact callK1 (θ := []) (hD := (eqInt64SS_ok (wuL st sy B d) (wuL st sy B d) preC23 preC23 hls2 hls2));exact rfl;exact rfl;exact rfl;refine dM ?_)|(apply c4 0;exact callK1 (θ := []) (hD := (heldMarksW_ok (wuL st sy B d) 1 preC23 preC23 preC23 hls3));exact rfl;exact rfl;exact rfl;refine dM ?_)|refine o_no rfl rfl rfl rfl ?_|refine o_noN rfl rfl rfl ?_|(apply py3;exact rfl;exact rfl;(first|exact pu1|exact a_ne rfl rfl|exact a_neS rfl rfl rfl|exact puC);exact rfl;exact rfl)|(apply cy4 1;exact rfl;exact rfl;exact callK0 (θ := []) (hD := (sWorkUnits_ok _ _ _ _));exact rfl;exact rfl;exact rfl;exact rfl;refine dM ?_)|(apply cy4 1;exact rfl;exact rfl;exact callK1 (θ := []) (hD := (iWorkUnits_ok _ _ _ _));exact rfl;exact rfl;exact rfl;exact rfl;refine dM ?_)|(apply cy4 0;exact rfl;exact rfl;exact callK1 (θ := []) (hD := (eqInt64SS_ok (wuL st sy B d) (wuL st sy B d) preC23 preC23 hls2 hls2));exact rfl;exact rfl;exact rfl;exact rfl;refine dM ?_)|(apply cy4 0;exact rfl;exact rfl;exact callK0 (θ := [_]) (hD := (markInt64SS0_ok _));exact rfl;exact rfl;exact rfl;exact rfl;refine dM ?_)|(apply cy4 0;exact rfl;exact rfl;exact callK1 (θ := [_]) (hD := (markInt64SSn_ok (wuL st sy B d) 1 preC23 preC23 preC23 hls3));exact rfl;exact rfl;exact rfl;exact rfl;refine dM ?_)|(apply cy4 0;exact rfl;exact rfl;exact callK1 (θ := []) (hD := (heldInt64SS0_ok _));exact rfl;exact rfl;exact rfl;exact rfl;refine dM ?_)|(apply cy4 0;exact rfl;exact rfl;exact callK1 (θ := []) (hD := (heldMarksW_ok (wuL st sy B d) 1 preC23 preC23 preC23 hls3));exact rfl;exact rfl;exact rfl;exact rfl;refine dM ?_)|(apply cy4 0;exact rfl;exact rfl;exact callK1 (θ := []) (hD := (eqInt64SS_ok (wuL st sy B d) (wuL st sy B d) preC23 preC23 hls2 hls2));exact rfl;exact rfl;exact rfl;exact rfl;refine dM ?_)|(apply cy4 0;exact rfl;exact rfl;exact callK1 (θ := []) (hD := (heldMarksW_ok (wuL st sy B d) 1 preC23 preC23 preC23 hls3));exact rfl;exact rfl;exact rfl;exact rfl;refine dM ?_)|((first|refine o_gs rfl rfl (fun hc => ?_) (fun hc => ?_)|refine g_cond rfl (fun hc => ?_) (fun hc => ?_)) <;> (try simp only [dcB] at hc) <;> (try first|contradiction|(exfalso;omega)))
  repeat refine cr ?_
  refine ends_id ?_
  refine endK [] (h2 := ?_) (h3 := ?_) (nd := ?_)
  all_goals (repeat' first|exact ce0|refine ce ?_|refine ce2 ?_ ?_|exact SVLe.refl|refine ceb ?_)
  all_goals first | exact (show nodupB _ = true from rfl) | exact Or.inr rfl | (rfl)
set_option maxRecDepth 100000 in
set_option maxRecDepth 100000 in
theorem liftedFnExactWorkUnits (os : Os) (started : os.Started) (H : Type) (enc : TypeId × Value → H) : ReturnsInHanded {} Tryz.checked os 11 .any (fun w args => (Rows.fnExactWorkUnitsSpec.pre enc Tryz.prog Tryz.f11 [] false w args ∧ laidMetH Tryz.prog Rows.fnExactWorkUnitsRow.laid w) ∧ sizedMet enc Tryz.prog Tryz.f11 (OpenSpec.ofChange Rows.fnExactWorkUnitsSpec) false w args) (Rows.fnExactWorkUnitsSpec.post enc Tryz.prog Tryz.f11 false true false false) := by
  refine returnsInHanded_of_change_and (C := Tryz.checked) (X := fun w _ => laidMetH Tryz.prog Rows.fnExactWorkUnitsRow.laid w) (fun _ _ _ hh h => h.of_heap hh) own started (by kernel_rfl) Tryz.func11 (ChangeSpec.witness_shaped (enc := enc) (C := Tryz.checked) (os := os) (X := fun w _ => laidMetH Tryz.prog Rows.fnExactWorkUnitsRow.laid w) false (World.doorLaid Tryz.prog doorN os) #[.int .i64 0,.int .i64 0,.int .i64 0,.int .i64 0] 12 rfl (World.shaped_of_RefB (by kernel_rfl) (by kernel_rfl)) (by kernel_rfl) (by kernel_rfl) (by kernel_rfl) (door_met os _)) ?_
  intro W base args ds gs before hval0 hW hcnd _ hL _
  have hval : ∀ (j : Nat) t v,Tryz.f11.params[j]? = some t → args[j]? = some v → Value.okWide Tryz.prog W .any base t v := hval0
  have hW' := hW
  obtain ⟨p,q,hA0,hV,rfl,hfz,hnd⟩ := hW
  have hA : DataW.TrodAll enc Tryz.prog W 0 (fun _ => true) true Tryz.f11.params.toList args.toList ds p := hA0
  rw [Tryz.params11] at hA hval
  obtain ⟨v0,vs0,d0,ds0,p0,r0,hargs,rfl,rfl,h0,s0⟩ := trodAll_cons hA
  obtain ⟨v1,vs1,d1,ds1,p1,r1,rfl,rfl,rfl,h1,s1⟩ := trodAll_cons s0
  obtain ⟨v2,vs2,d2,ds2,p2,r2,rfl,rfl,rfl,h2,s2⟩ := trodAll_cons s1
  obtain ⟨v3,vs3,d3,ds3,p3,r3,rfl,rfl,rfl,h3,s3⟩ := trodAll_cons s2
  obtain ⟨rfl,rfl,rfl⟩ := trodAll_nil s3
  obtain rfl : args = #[v0,v1,v2,v3] := by cases args; simp_all
  obtain ⟨rfl,rfl⟩ := trodVars_none hV
  have k0 := h0
  have k1 := h1
  have k2 := h2
  have k3 := h3
  have lt0 : ∀ x ∈ p0,x.block < W.heap.size := by obtain ⟨m,hm⟩ := k0; exact DataW.trod_lt m _ _ _ hm
  have lt1 : ∀ x ∈ p1,x.block < W.heap.size := by obtain ⟨m,hm⟩ := k1; exact DataW.trod_lt m _ _ _ hm
  have lt2 : ∀ x ∈ p2,x.block < W.heap.size := by obtain ⟨m,hm⟩ := k2; exact DataW.trod_lt m _ _ _ hm
  have lt3 : ∀ x ∈ p3,x.block < W.heap.size := by obtain ⟨m,hm⟩ := k3; exact DataW.trod_lt m _ _ _ hm
  obtain ⟨_,rfl⟩ := okWide_int Tryz.underlying2 (hval 0 2 v0 rfl rfl)
  obtain ⟨a0,e0,q0⟩ := arg_one (ρ := fun _ => none) rfl h0 opens_i
  obtain ⟨_,rfl⟩ := okWide_int Tryz.underlying2 (hval 1 2 v1 rfl rfl)
  obtain ⟨a1,e1,q1⟩ := arg_one (ρ := fun _ => none) rfl h1 opens_i
  obtain ⟨_,rfl⟩ := okWide_int Tryz.underlying2 (hval 2 2 v2 rfl rfl)
  obtain ⟨a2,e2,q2⟩ := arg_one (ρ := fun _ => none) rfl h2 opens_i
  obtain ⟨_,rfl⟩ := okWide_int Tryz.underlying2 (hval 3 2 v3 rfl rfl)
  obtain ⟨a3,e3,q3⟩ := arg_one (ρ := fun _ => none) rfl h3 opens_i
  clear hA0 hval0
  refine (does_calls (lawWorkUnits a0 a1 a2 a3) (tabs_met hL) ⟨_,_,rfl,e0,⟨_,_,rfl,e1,⟨_,_,rfl,e2,⟨_,_,rfl,e3,rfl⟩⟩⟩⟩).mono fun e W' ⟨he,bel⟩ => ?_
  subst he
  exact ⟨_,rfl,_,_,_,[],_,[],hW',trodAll_mk1 (shut_bool Tryz.underlying4 _),(trodAll_cons_mk (Below.trod laidOut (by kernel_rfl) (of_decide_eq_true (by kernel_rfl)) k0 bel lt0) (trodAll_cons_mk (Below.trod laidOut (by kernel_rfl) (of_decide_eq_true (by kernel_rfl)) k1 bel lt1) (trodAll_cons_mk (Below.trod laidOut (by kernel_rfl) (of_decide_eq_true (by kernel_rfl)) k2 bel lt2) (trodAll_cons_mk (Below.trod laidOut (by kernel_rfl) (of_decide_eq_true (by kernel_rfl)) k3 bel lt3) trodAll_mk0)))),rfl,bel.frame _,fun h => by cases h⟩
theorem fact0FnExactWorkUnits : (Rows.fnExactWorkUnitsRow.inPlace == Tryz.pinned.checked.prog.inPlace 11) = true := by kernel_rfl
theorem fact1FnExactWorkUnits : (Rows.fnExactWorkUnitsRow.unfollowed == Tryz.pinned.checked.prog.unfollowed 11) = true := by kernel_rfl
theorem fact2FnExactWorkUnits : (Rows.fnExactWorkUnitsRow.recurses == Tryz.pinned.checked.prog.recurses 11) = true := by kernel_rfl
theorem fact3FnExactWorkUnits : (Rows.fnExactWorkUnitsRow.named == Tryz.pinned.checked.prog.varsNamed 11) = true := by kernel_rfl
theorem closedFnExactWorkUnits : joinedFacts Tryz.pinned.checked.prog 11 Tryz.f11 Rows.fnExactWorkUnitsSpec Rows.fnExactWorkUnitsRow = true := by
  unfold joinedFacts
  rw [fact0FnExactWorkUnits,fact1FnExactWorkUnits,fact2FnExactWorkUnits,fact3FnExactWorkUnits]
  kernel_rfl
theorem provedFnExactWorkUnits : Rows.FnExactWorkUnitsSaid :=
  OpenClaim.holds_of_wide 11 Tryz.f11 rfl rfl rfl rfl rfl rfl rfl ⟨rfl,rfl,rfl,rfl,rfl⟩ rfl rfl rfl rfl rfl (by kernel_rfl) Tryz.func11 closedFnExactWorkUnits
    (of_decide_eq_true (by kernel_rfl)) (by unfold Func.isWrapper; first | (rw [if_pos (by decide +kernel)]; kernel_rfl) | (rw [if_neg (by decide +kernel)]; exact ⟨rfl,rfl⟩))
    (fun os started H enc _ => liftedFnExactWorkUnits os started H enc)
theorem card1FnExactWorkUnits : Rows.fnExactWorkUnitsRow.wfByText (OpenSpec.ofChange Rows.fnExactWorkUnitsSpec) = true := by kernel_rfl
theorem card2FnExactWorkUnits : Tryz.pinned.checked.prog.mainIs = some (Rows.fnExactWorkUnitsCard.stood.harness.1,Rows.fnExactWorkUnitsCard.stood.harness.2.toList) := by kernel_rfl
theorem card3FnExactWorkUnits : true = Tryz.pinned.checked.prog.looks [] := by kernel_rfl
theorem card4FnExactWorkUnits : false = Rows.fnExactWorkUnitsRow.goesBy Tryz.pinned.checked.prog := by kernel_rfl
theorem card5FnExactWorkUnits : Tryz.prog.funcNamed "loop.example/g01079/laws.FnExactWorkUnits" = some 11 := by kernel_rfl
theorem card6FnExactWorkUnits : ([2,2,2,2].all fun u => !Tryz.prog.wantsStandIn u) = true := by kernel_rfl
theorem provedCardFnExactWorkUnits : Rows.FnExactWorkUnitsCardSaid :=
  Claim7.holds_tied_plain_at .later [] [.data,.data,.data] true Rows.fnExactWorkUnitsCard.stood.harness true provedFnExactWorkUnits (fun _ h => by cases h) card1FnExactWorkUnits (fun _ h => by cases h) fnExactWorkUnits_row_tie rfl ⟨rfl,rfl⟩ card2FnExactWorkUnits rfl
    (fun f fn hf hfn => by
      obtain rfl : f = 11 := Option.some.inj (card5FnExactWorkUnits.symm.trans hf) |>.symm
      obtain rfl : fn = Tryz.f11 := (Option.some.inj (Tryz.func11.symm.trans hfn)).symm
      exact ⟨card3FnExactWorkUnits,fun j t ht => by
        rw [Tryz.params11] at ht
        have hm : t ∈ [2,2,2,2] := by simpa using Array.mem_of_getElem? ht
        exact (show Tryz.prog.wantsStandIn t = false by simpa using List.all_eq_true.1 card6FnExactWorkUnits t hm)⟩)
    card4FnExactWorkUnits
end Go.Proofs.YtcmdfohamphndaaGreatDoor
