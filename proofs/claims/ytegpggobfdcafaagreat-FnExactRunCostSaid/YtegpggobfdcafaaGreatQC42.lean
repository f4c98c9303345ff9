/- For every machine, configuration and budget: the program's RunCost tells the cost that the reference's tells, whether the machine halts, and the same code, and leaves its arguments alone. No condition. -/
import Derived.Test.YtegpggobfdcafaaGreatQ14
import Derived.Test.YtegpggobfdcafaaGreatRows
set_option linter.unusedVariables false
set_option linter.unusedSimpArgs false
set_option maxRecDepth 100000
set_option maxHeartbeats 4000000
namespace Go.Proofs.YtegpggobfdcafaaGreat
open Go Foot Go.ChangeShapes Go.WideShapes Go.ChangeAt Go.RowKit Go.Deep
theorem preC42 {p : Prop} (h : p := by first | with_reducible assumption | omega | (simp only [List.length_append,List.length_cons,List.length_nil,List.length_set,List.length_replicate,List.length_take,List.length_drop,List.length_tail,List.length_dropLast,List.length_reverse] at *; omega) | exact mem_len (by assumption) (by omega) | (with_reducible refine Int.le_trans (Int.ofNat_le.2 (trimR_len _)) ?_; simp only [List.length_cons,List.length_tail]; omega) | (exact (ruAt_ok (by assumption) (by assumption) (by assumption)).2.1) | (exact (ruAt_ok (by assumption) (by assumption) (by assumption)).2.1) | (have := vMach_bd (by assumption); omega) | (simp only [List.length_append,List.length_cons,List.length_nil,repW_len,seN_len] at *; omega) | (simp only [mC_ch,mC_tu]; omega) | (have := vTag_bd (by assumption); omega) | (have := (‹Gd _ _›).le; omega) | (exact tgHalts_no (by assumption)) | (exact tgHead (by assumption) (by assumption) (by assumption)) | (exact Int.le_trans (tgStep_gd (by assumption) (by assumption) (by assumption) (by assumption)).le (by decide)) | (exact vTag_r (by assumption)) | (with_reducible refine Int.le_trans (Int.ofNat_le.2 (pushL_len _ _)) ?_; simp only [List.length_dropLast]; omega) | exact ls_at (by assumption) (by omega) | exact pt_gd (by assumption) | exact lv_at (by assumption) (by omega) | exact pt_gd (lv_at (by assumption) (by omega)) | exact (ask_ok (by assumption)).1 | exact (ask_ok (by assumption)).2.1 | exact (ask_ok (by assumption)).2.2.1 | exact (ask_ok (by assumption)).2.2.2 | (simp only [marks_len]; omega) | (simp only [marksR_len]; omega) | exact lns_at (by assumption) (by omega) | exact bgs_at (by assumption) (by omega) | trivial) : p := h
theorem lawRunCost (m : Mach) (c : Conf) (b : Int) (hm : m.ru.length ≤ maxLen) (hl : c.le.length ≤ maxLen) (hr : c.ri.length ≤ maxLen) : Does Tryz.prog 3 [.agg (maC m),.agg (coC c),.one (int b)] [] (.one (boo true)) [] := by
  have h1 : (m.ru.length : Int) ≤ 9223372036854775807 := by unfold maxLen at hm; omega
  have h2 : (c.le.length : Int) ≤ 9223372036854775807 := by unfold maxLen at hl; omega
  have h3 : (c.ri.length : Int) ≤ 9223372036854775807 := by unfold maxLen at hr; omega
  clear hm hl hr
  have h4 := szL_le (n := m.ru.length) (l := 1048576) (by omega)
  by_cases ha : szL m.ru.length 1048576 < 0
  · refine does_of (k := 0) Tryz.func3 rfl Tryz.ntmps3 rfl rfl fun w F0 S0 ρ0 => ?_
    dsimp only [argT,argH]
    repeat' first|(apply n3;exact a_new (gb := .bx _) rfl;exact rfl;refine dA ?_)|(apply p3;(first|exact pu1|exact puC);exact rfl)|refine cd ?_|(apply c4 0;exact callK1 (θ := []) (hD := (szMachine_ok _ _ preC42 preC42 preC42));exact rfl;exact rfl;exact rfl;refine dM ?_)|((refine g_cond rfl (fun hc => ?_) (fun hc => ?_)) <;> (try simp only [dcB] at hc) <;> (try first|contradiction|(exfalso;omega)))|fail
    repeat refine cr ?_
    refine ends_id ?_
    refine endK [] (h2 := ?_) (h3 := ?_) (nd := ?_)
    all_goals (repeat' first|exact ce0|refine ce ?_|refine ce2 ?_ ?_|exact SVLe.refl|refine ceb ?_)
    all_goals first | exact (show nodupB _ = true from rfl) | exact Or.inr rfl | (rfl)
  by_cases hb : szC c (szL m.ru.length 1048576) < 0
  · refine does_of (k := 0) Tryz.func3 rfl Tryz.ntmps3 rfl rfl fun w F0 S0 ρ0 => ?_
    dsimp only [argT,argH]
    repeat' first|(apply n3;exact a_new (gb := .bx _) rfl;exact rfl;refine dA ?_)|(apply p3;(first|exact pu1|exact puC);exact rfl)|refine cd ?_|(apply c4 0;exact callK1 (θ := []) (hD := (szMachine_ok _ _ preC42 preC42 preC42));exact rfl;exact rfl;exact rfl;refine dM ?_)|(apply c4 0;exact callK1 (θ := []) (hD := (szConfig_ok _ _ preC42 preC42 preC42 preC42));exact rfl;exact rfl;exact rfl;refine dM ?_)|((refine g_cond rfl (fun hc => ?_) (fun hc => ?_)) <;> (try simp only [dcB] at hc) <;> (try first|contradiction|(exfalso;omega)))|fail
    repeat refine cr ?_
    refine ends_id ?_
    refine endK [] (h2 := ?_) (h3 := ?_) (nd := ?_)
    all_goals (repeat' first|exact ce0|refine ce ?_|refine ce2 ?_ ?_|exact SVLe.refl|refine ceb ?_)
    all_goals first | exact (show nodupB _ = true from rfl) | exact Or.inr rfl | (rfl)
  have k1 := szL_ge (by omega) ha
  have k2 := szC_ge h4 hb
  refine does_of (k := 0) Tryz.func3 rfl Tryz.ntmps3 rfl rfl fun w F0 S0 ρ0 => ?_
  dsimp only [argT,argH]
  repeat' first|(apply n3;exact a_new (gb := .bx _) rfl;exact rfl;refine dA ?_)|(apply p3;(first|exact pu1|exact puC|exact a_ne rfl rfl);exact rfl)|refine cd ?_|(apply w3;(exact a_st_bx rfl rfl rfl rfl (fN rfl rfl) (Nat.le_of_ble_eq_true rfl) rfl);exact rfl;refine dS ?_)|(apply c4 0;exact callK1 (θ := []) (hD := (szMachine_ok _ _ preC42 preC42 preC42));exact rfl;exact rfl;exact rfl;refine dM ?_)|(apply c4 0;exact callK1 (θ := []) (hD := (szConfig_ok _ _ preC42 preC42 preC42 preC42));exact rfl;exact rfl;exact rfl;refine dM ?_)|(apply c4 1;exact callK1 (θ := []) (hD := (toMachine_ok _ preC42));exact rfl;exact rfl;exact rfl;refine dM ?_)|(apply c4 2;exact callK1 (θ := []) (hD := (toConfig_ok _ preC42 preC42));exact rfl;exact rfl;exact rfl;refine dM ?_)|(apply c4 0;exact callK1 (θ := []) (hD := (iRunCost_ok _ _ _ preC42 preC42 preC42));exact rfl;exact rfl;exact rfl;refine dM ?_)|refine o_no rfl rfl rfl rfl ?_|(apply py3;exact rfl;exact rfl;(first|exact pu1|exact a_ne rfl rfl|exact a_neB rfl rfl (by kernel_rfl));exact rfl;exact rfl)|(apply g_drN (id := 8) okM [[],[0],[],[0,1,2],[],[0,1,2,3,4],[0,1,2,3,4,5],[0,1,2,3,4,5,6],[0,1,2,3,4,5,6],[0,1,2,3,4,5,6],[0,1,2,3,4,5,6,7],[0,1,2,3,4,5,6,7,8,10],[0,1,2,3,4,5,6,7,8,9,10,11]] [([],[]),([0],[]),([],[]),([1,2],[]),([],[]),([],[]),([],[]),([],[]),([],[]),([],[]),([],[]),([],[]),([],[])] 3;(focus (refine dp 0 0 [29,31] [] puL ?_;refine duN 1 1 [29,31] [] (callD1 (n := _) 0 (θ := []) (hD := (toMachine_ok _ preC42))) (by exact rfl) (by exact rfl) ?_;refine dp 2 0 [27,28,31] [(true,0)] puL ?_;refine duN 3 7 [31] [] (callD1 (n := _) 1 (θ := []) (hD := (toConfig_ok _ preC42 preC42))) (by exact rfl) (by exact rfl) ?_;refine dp 4 0 [27,28,29,30] [(true,0),(true,1),(true,2)] pu1 ?_;refine dp 5 31 [] [] (callD1 (n := _) 3 (θ := []) (hD := (sRunCost_ok _ _ _ preC42 preC42 preC42))) ?_;refine dp 6 63 [] [] pu1 ?_;refine dp 7 127 [34,35] [] pu2 ?_;refine dp 8 254 [33,35,8] [] pu2 ?_;refine dp 9 508 [33,34,8,9] [] pu2 ?_;refine dp 10 1020 [34,35] [] pu1 ?_;refine dp 11 2045 [35] [] pu1 ?_;refine dp 12 4095 [] [] pu1 ?_;(refine d_nil ?_;refine dN ?_)));any_goals kernel_rfl)|(apply g_drN (id := 14) okM [[],[],[1],[0,1,2],[0,1,2,3]] [([],[]),([],[]),([0],[]),([],[]),([],[])] 1;(focus (refine dp 0 0 [62,63] [(true,0)] puL ?_;refine dp 1 0 [61] [] puL ?_;refine duN 2 1 [61] [] (callD1 (n := _) 0 (θ := []) (hD := (toMachine_ok _ preC42))) (by exact rfl) (by exact rfl) ?_;refine dp 3 7 [] [] (callD1 (n := _) 1 (θ := []) (hD := (eqMachine_ok _ _ preC42 preC42))) ?_;refine dp 4 15 [] [] (a_pure (sv := .one _) rfl) ?_;(refine d_nil ?_;refine dN ?_)));any_goals kernel_rfl)|(apply g_drN (id := 16) okM [[],[],[1],[0,1,2],[0,1,2,3]] [([],[]),([],[]),([0,1],[]),([],[]),([],[])] 2;(focus (refine dp 0 0 [67,68] [(true,0),(true,1)] puL ?_;refine dp 1 0 [66] [] puL ?_;refine duN 2 1 [66] [] (callD1 (n := _) 0 (θ := []) (hD := (toConfig_ok _ preC42 preC42))) (by exact rfl) (by exact rfl) ?_;refine dp 3 7 [] [] (callD1 (n := _) 2 (θ := []) (hD := (eqConfig_ok _ _ preC42 preC42 preC42 preC42))) ?_;refine dp 4 15 [] [] (a_pure (sv := .one _) rfl) ?_;(refine d_nil ?_;refine dN ?_)));any_goals kernel_rfl)|((first|refine o_gs rfl rfl (fun hc => ?_) (fun hc => ?_)|refine g_cond rfl (fun hc => ?_) (fun hc => ?_)) <;> (try simp only [dcB] at hc) <;> (try first|contradiction|(exfalso;omega)))|fail
  all_goals first | (exfalso; simp_all [eqM,eqC]; done) | skip
  repeat refine cr ?_
  refine ends_id ?_
  refine endK [] (h2 := ?_) (h3 := ?_) (nd := ?_)
  all_goals (repeat' first|exact ce0|refine ce ?_|refine ce2 ?_ ?_|exact SVLe.refl|refine ceb ?_)
  all_goals first | exact (show nodupB _ = true from rfl) | exact Or.inr rfl | (rfl)
set_option maxRecDepth 100000 in
theorem liftedFnExactRunCost (os : Os) (started : os.Started) (H : Type) (enc : TypeId × Value → H) : ReturnsInHanded {} Tryz.checked os 3 .any (Rows.fnExactRunCostSpec.pre6 enc Tryz.prog Tryz.f3 Rows.fnExactRunCostRow.domain false) (Rows.fnExactRunCostSpec.post enc Tryz.prog Tryz.f3 false true false false) := by
  refine returnsInHanded_of_change (C := Tryz.checked) own started (by kernel_rfl) Tryz.func3 (ChangeSpec.witness6 (enc := enc) (C := Tryz.checked) false ⟨#[],#[.agg #[.int .i64 0,.int .i64 0,.slice none 0 0],.agg #[.int .i64 0,.slice none 0 0,.slice none 0 0],.int .i64 0],[]⟩ 12 (by kernel_rfl) (by kernel_rfl) (by kernel_rfl) (by kernel_rfl)) ?_
  intro W base args ds gs before hval0 hW hcnd _
  have hval : ∀ (j : Nat) t v,Tryz.f3.params[j]? = some t → args[j]? = some v → Value.okWide Tryz.prog W .any base t v := hval0
  have hW' := hW
  obtain ⟨p,q,hA0,hV,rfl,hfz,hnd⟩ := hW
  have hA : DataW.TrodAll enc Tryz.prog W 0 (fun _ => true) true Tryz.f3.params.toList args.toList ds p := hA0
  rw [Tryz.params3] at hA hval
  obtain ⟨v0,vs0,d0,ds0,p0,r0,hargs,rfl,rfl,h0,s0⟩ := trodAll_cons hA
  obtain ⟨v1,vs1,d1,ds1,p1,r1,rfl,rfl,rfl,h1,s1⟩ := trodAll_cons s0
  obtain ⟨v2,vs2,d2,ds2,p2,r2,rfl,rfl,rfl,h2,s2⟩ := trodAll_cons s1
  obtain ⟨rfl,rfl,rfl⟩ := trodAll_nil s2
  obtain rfl : args = #[v0,v1,v2] := by cases args; simp_all
  obtain ⟨rfl,rfl⟩ := trodVars_none hV
  have k0 := h0
  have k1 := h1
  have k2 := h2
  have lt0 : ∀ x ∈ p0,x.block < W.heap.size := by obtain ⟨m,hm⟩ := k0; exact DataW.trod_lt m _ _ _ hm
  have lt1 : ∀ x ∈ p1,x.block < W.heap.size := by obtain ⟨m,hm⟩ := k1; exact DataW.trod_lt m _ _ _ hm
  have lt2 : ∀ x ∈ p2,x.block < W.heap.size := by obtain ⟨m,hm⟩ := k2; exact DataW.trod_lt m _ _ _ hm
  obtain ⟨a0,e0,q0⟩ := arg_agg (ρ := fun _ => none) Tryz.underlying24 (hval 0 24 v0 rfl rfl) h0 opens_machine
  obtain ⟨a1,e1,q1⟩ := arg_agg (ρ := fun _ => none) Tryz.underlying27 (hval 1 27 v1 rfl rfl) h1 opens_config
  obtain ⟨_,rfl⟩ := okWide_int Tryz.underlying2 (hval 2 2 v2 rfl rfl)
  obtain ⟨a2,e2,q2⟩ := arg_one (ρ := fun _ => none) rfl h2 opens_i
  clear hA0 hval0
  refine (does_calls (lawRunCost a0 a1 a2 q0.2.2.1 q1.2.1.1 q1.2.2.1) (by intro _ h; cases h) ⟨_,_,rfl,e0,⟨_,_,rfl,e1,⟨_,_,rfl,e2,rfl⟩⟩⟩).mono fun e W' ⟨he,bel⟩ => ?_
  subst he
  exact ⟨_,rfl,_,_,_,[],_,[],hW',trodAll_mk1 (shut_bool Tryz.underlying4 _),(trodAll_cons_mk (Below.trod laidOut (by kernel_rfl) (of_decide_eq_true (by kernel_rfl)) k0 bel lt0) (trodAll_cons_mk (Below.trod laidOut (by kernel_rfl) (of_decide_eq_true (by kernel_rfl)) k1 bel lt1) (trodAll_cons_mk (Below.trod laidOut (by kernel_rfl) (of_decide_eq_true (by kernel_rfl)) k2 bel lt2) trodAll_mk0))),rfl,bel.frame _,fun h => by cases h⟩
theorem provedFnExactRunCost : Rows.FnExactRunCostSaid :=
  OpenClaim.holds_of_wide 3 Tryz.f3 rfl rfl rfl rfl rfl rfl rfl ⟨rfl,rfl,rfl,rfl,rfl⟩ rfl rfl rfl rfl rfl (by kernel_rfl) Tryz.func3 (by kernel_rfl)
    (of_decide_eq_true (by kernel_rfl)) (by unfold Func.isWrapper; first | (rw [if_pos (by decide +kernel)]; kernel_rfl) | (rw [if_neg (by decide +kernel)]; exact ⟨rfl,rfl⟩))
    (fun os started H enc _ => liftedFnExactRunCost os started H enc)
end Go.Proofs.YtegpggobfdcafaaGreat
