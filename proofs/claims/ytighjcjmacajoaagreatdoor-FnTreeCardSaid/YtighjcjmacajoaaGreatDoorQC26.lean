/- The tree of two states and two symbols, whatever bytes draw a path: the path leads to a machine whose path it is, its text is read back, the nodes below the root are those of the units, and the nodes come one after the other. The tables of the library that the rows list are tied to the program's text. -/
import Derived.Test.YtighjcjmacajoaaGreatDoorQ24
import Derived.SevenTiedAt
import Derived.Test.YtighjcjmacajoaaGreatDoorCards
import Derived.Test.YtighjcjmacajoaaGreatDoorTie
set_option linter.unusedVariables false
set_option linter.unusedSimpArgs false
set_option maxRecDepth 100000
set_option maxHeartbeats 4000000
namespace Go.Proofs.YtighjcjmacajoaaGreatDoor
open Go Foot Go.ChangeShapes Go.WideShapes Go.ChangeAt Go.RowKit Go.Deep
theorem allP_len : (allP.all fun p => decide ((tfM 2 2 20 p).ru.length ≤ 100)) = true := by decide +kernel
theorem below_len : (nbL 2 2 20 2 []).length ≤ 100 := by decide +kernel
theorem units_len : (wuL 2 2 20 1).length ≤ 100 := by decide +kernel
theorem counts_bd : (sctL 2 2 20 2).length ≤ 100 ∧ ((sctL 2 2 20 2).all fun x => decide (0 ≤ x) && decide (x ≤ 1000)) = true := by decide +kernel
theorem lens_ok : ((wuL 2 2 20 1).all fun u => decide (u.length ≤ 100) && decide ((nbL 2 2 20 2 u).length ≤ 100)) = true := by decide +kernel
theorem rows_len100 : ((nbL 2 2 20 2 []).all fun u => decide (u.length ≤ 100)) = true := by decide +kernel
structure TrAt (p : List Int) (m : Mach) (n : Option (List Int)) (c : Int) (ls : List (List Int)) : Prop where
  a : p ∈ allP
  c0 : tfC 2 2 20 p = 0
  mm : tfM 2 2 20 p = m
  pc : pmC m 20 = 0
  pl : (pmL m 20).getD [] = p
  tn : tnB m 20 = true
  ml : m.ru.length ≤ 100
  l3 : p.length ≤ 3
  nc : nnC 2 2 20 p = c
  nl : nnL 2 2 20 p = n
  fc : nfC 2 2 20 2 p = 0
  fl : nfL 2 2 20 2 p = ls
  e : (c = 3 ∧ ls = [p]) ∨ (c = 0 ∧ ls = [p,n.getD []])
  nb : (n.getD []).length ≤ 100
theorem nn_len : (allP.all fun p => decide (((nnL 2 2 20 p).getD []).length ≤ 100)) = true := by decide +kernel
theorem tr_at {p : List Int} (h : p ∈ allP) : TrAt p (tfM 2 2 20 p) (nnL 2 2 20 p) (nnC 2 2 20 p) (nfL 2 2 20 2 p) := by
  have h1 := List.all_eq_true.1 allP_ok p h
  have h2 := List.all_eq_true.1 allP_len p h
  have h3 := List.all_eq_true.1 nn_len p h
  unfold chkP at h1
  simp only [Bool.and_eq_true,decide_eq_true_eq] at h1 h2 h3
  obtain ⟨⟨⟨⟨⟨⟨⟨a1,a2⟩,a3⟩,a4⟩,a5⟩,a6⟩,a7⟩,_⟩ := h1
  refine ⟨h,a1,rfl,a2,a3,a4,h2,a7,rfl,rfl,a5,rfl,?_,h3⟩
  split at a6
  · next q => exact .inl ⟨q,by simpa using a6⟩
  · simp only [Bool.and_eq_true,decide_eq_true_eq] at a6
    exact .inr a6
theorem preC26 {p : Prop} (h : p := by first | with_reducible assumption | omega | (simp only [List.length_append,List.length_cons,List.length_nil,List.length_set,List.length_replicate,List.length_take,List.length_drop,List.length_tail,List.length_dropLast,List.length_reverse] at *; omega) | exact mem_len (by assumption) (by omega) | (with_reducible refine Int.le_trans (Int.ofNat_le.2 (trimR_len _)) ?_; simp only [List.length_cons,List.length_tail]; omega) | (exact (ruAt_ok (by assumption) (by assumption) (by assumption)).2.1) | (exact (ruAt_ok (by assumption) (by assumption) (by assumption)).2.1) | (have := vMach_bd (by assumption); omega) | (simp only [mC_ch,mC_tu]; omega) | (have := vTag_bd (by assumption); omega) | (have := (‹Gd _ _›).le; omega) | (exact tgHalts_no (by assumption)) | (exact tgHead (by assumption) (by assumption) (by assumption)) | (exact Int.le_trans (tgStep_gd (by assumption) (by assumption) (by assumption) (by assumption)).le (by decide)) | (exact vTag_r (by assumption)) | (with_reducible refine Int.le_trans (Int.ofNat_le.2 (pushL_len _ _)) ?_; simp only [List.length_dropLast]; omega) | exact ls_at (by assumption) (by omega) | exact pt_gd (by assumption) | exact lv_at (by assumption) (by omega) | exact pt_gd (lv_at (by assumption) (by omega)) | exact (ask_ok (by assumption)).1 | exact (ask_ok (by assumption)).2.1 | exact (ask_ok (by assumption)).2.2.1 | exact (ask_ok (by assumption)).2.2.2 | (simp only [marks_len]; omega) | (simp only [marksR_len]; omega) | exact lns_at (by assumption) (by omega) | exact bgs_at (by assumption) (by omega) | trivial) : p := h
theorem lawTree (l l2 : List Int) (hl : (l.length : Int) ≤ 9223372036854775807) (hl2 : (l2.length : Int) ≤ 9223372036854775807) (hb : ∀ x ∈ l,0 ≤ x ∧ x ≤ 255) : Does Tryz.prog 3 [.one (shY l),.one (shY l2)] [] (.one (boo true)) [] := by
  have g : SrOk ⟨l,0,0⟩ := ⟨hl,⟨by simp,by simp⟩,hb⟩
  by_cases h1 : (1048576 : Int) < l.length
  · refine does_of (k := 0) Tryz.func3 rfl Tryz.ntmps3 rfl rfl fun w F0 S0 ρ0 => ?_
    dsimp only [argT,argH]
    repeat' first|(apply p3;(exact pu1);exact rfl)|refine cd ?_|(apply c4 0;exact callK1 (θ := []) (hD := (b10Long_ok _ preC26));exact rfl;exact rfl;exact rfl;refine dM ?_)|refine o_no rfl rfl rfl rfl ?_|((refine o_gs rfl rfl (fun hc => ?_) (fun hc => ?_)) <;> (try simp only [dcB] at hc) <;> (try first|contradiction|(exfalso;omega)))
    repeat refine cr ?_
    refine ends_id ?_
    refine endK [] (h2 := ?_) (h3 := ?_) (nd := ?_)
    all_goals (repeat' first|exact ce0|refine ce ?_|refine ce2 ?_ ?_|exact SVLe.refl|refine ceb ?_)
    all_goals first | exact (show nodupB _ = true from rfl) | exact Or.inr rfl | (rfl)
  by_cases h2 : (1048576 : Int) < l2.length
  · have hx2 := h2
    refine does_of (k := 0) Tryz.func3 rfl Tryz.ntmps3 rfl rfl fun w F0 S0 ρ0 => ?_
    dsimp only [argT,argH]
    repeat' first|(apply p3;(exact pu1);exact rfl)|refine cd ?_|(apply c4 0;exact callK1 (θ := []) (hD := (b10Long_ok _ preC26));exact rfl;exact rfl;exact rfl;refine dM ?_)|(apply py3;exact rfl;exact rfl;(exact pu1);exact rfl;exact rfl)|(apply cy4 0;exact rfl;exact rfl;exact callK1 (θ := []) (hD := (b10Long_ok _ preC26));exact rfl;exact rfl;exact rfl;exact rfl;refine dM ?_)|((first|refine o_gs rfl rfl (fun hc => ?_) (fun hc => ?_)|refine g_cond rfl (fun hc => ?_) (fun hc => ?_)) <;> (try simp only [dcB] at hc) <;> (try first|contradiction|(exfalso;omega)))
    repeat refine cr ?_
    refine ends_id ?_
    refine endK [] (h2 := ?_) (h3 := ?_) (nd := ?_)
    all_goals (repeat' first|exact ce0|refine ce ?_|refine ce2 ?_ ?_|exact SVLe.refl|refine ceb ?_)
    all_goals first | exact (show nodupB _ = true from rfl) | exact Or.inr rfl | (rfl)
  obtain ⟨p,ep⟩ : ∃ p,p = paP l := ⟨_,rfl⟩
  have T := tr_at (ep ▸ paP_mem l g)
  obtain ⟨m,em⟩ : ∃ m,m = tfM 2 2 20 p := ⟨_,rfl⟩
  obtain ⟨n,en⟩ : ∃ n,n = nnL 2 2 20 p := ⟨_,rfl⟩
  obtain ⟨c,ec⟩ : ∃ c,c = nnC 2 2 20 p := ⟨_,rfl⟩
  obtain ⟨ls,els⟩ : ∃ ls,ls = nfL 2 2 20 2 p := ⟨_,rfl⟩
  rw [← em,← en,← ec,← els] at T
  refine does_of (k := 0) Tryz.func3 rfl Tryz.ntmps3 rfl rfl fun w F0 S0 ρ0 => ?_
  dsimp only [argT,argH]
  have g1 : PaOk p := all_pa T.a
  have kp : ¬ eqI p p = false := by simp [eqI]
  have kt : ¬ tnB m 20 = false := by rw [T.tn]; decide
  have tl3 := T.l3
  have tml := T.ml
  have hp1 : (p.length : Int) ≤ 1048576 := by omega
  have hp2 : (p.length : Int) ≤ 16777216 := by omega
  have hm1 : (m.ru.length : Int) ≤ 16777216 := by omega
  repeat' first|(apply p3;exact pu1;exact rfl)|refine cdn ?_|refine g_reg (id := 0) ?_|refine g_reg (id := 1) ?_|refine g_reg (id := 3) ?_|(apply c4 0;exact callK1 (θ := []) (hD := (b10Long_ok _ preC26));exact rfl;exact rfl;exact rfl;refine dM ?_)|(apply c4 0;exact callF (hD := (b10Path_ok _ preC26));exact rfl;exact rfl;exact rfl;refine dM ?_)|(apply py3;exact rfl;exact rfl;exact pu1;exact rfl;exact rfl)|(apply cy4 0;exact rfl;exact rfl;exact callK1 (θ := []) (hD := (b10Long_ok _ preC26));exact rfl;exact rfl;exact rfl;exact rfl;refine dM ?_)|((first|refine o_gs rfl rfl (fun hc => ?_) (fun hc => ?_)|refine g_cond rfl (fun hc => ?_) (fun hc => ?_)) <;> (try simp only [dcB] at hc) <;> (try first|contradiction|(exfalso;omega)))
  rw [← ep]
  try simp only [setRow,C.frz.all,C.frz,SV.frz,tFrz,List.map_cons,List.map_nil,scC,List.set_cons_zero,List.set_cons_succ,Nat.zero_add,List.getElem?_cons_zero,List.getElem?_cons_succ,List.take_succ_cons,List.take_zero,List.drop_zero]
  repeat' first|(apply n3;exact a_new (gb := .bx _) rfl;exact rfl;refine dA ?_)|(apply p3;exact pu1;exact rfl)|refine cdn ?_|refine g_reg (id := 4) ?_|(apply w3;(exact a_st_bx rfl rfl rfl rfl (fN rfl rfl) (Nat.le_of_ble_eq_true rfl) rfl);exact rfl;refine dS ?_)|(apply c4 0;exact callF (hD := (iTnfAt_ok 2 2 20 p hp1));exact rfl;exact rfl;exact rfl;refine dM ?_)
  simp only [T.c0,← em]
  try simp only [setRow,C.frz.all,C.frz,SV.frz,tFrz,List.map_cons,List.map_nil,scC,List.set_cons_zero,List.set_cons_succ,Nat.zero_add,List.getElem?_cons_zero,List.getElem?_cons_succ,List.take_succ_cons,List.take_zero,List.drop_zero]
  repeat' first|(apply p3;(exact pu1);exact rfl)|refine cdn ?_|refine g_reg (id := 5) ?_|(apply c4 0;exact callF (hD := (iPathOfMachine_ok m 20 hm1));exact rfl;exact rfl;exact rfl;refine dM ?_)
  simp only [T.pc,T.pl]
  try simp only [setRow,C.frz.all,C.frz,SV.frz,tFrz,List.map_cons,List.map_nil,scC,List.set_cons_zero,List.set_cons_succ,Nat.zero_add,List.getElem?_cons_zero,List.getElem?_cons_succ,List.take_succ_cons,List.take_zero,List.drop_zero]
  repeat' first|(apply p3;(exact pu1);exact rfl)|refine cdn ?_|refine g_reg (id := 6) ?_|(apply c4 0;exact callK1 (θ := []) (hD := (PathTextT_ok p g1));exact rfl;exact rfl;exact rfl;refine dM ?_)|(apply c4 0;exact callF (hD := (ReadPathT_ok p g1));exact rfl;exact rfl;exact rfl;refine dM ?_)
  try simp only [setRow,C.frz.all,C.frz,SV.frz,tFrz,List.map_cons,List.map_nil,scC,List.set_cons_zero,List.set_cons_succ,Nat.zero_add,List.getElem?_cons_zero,List.getElem?_cons_succ,List.take_succ_cons,List.take_zero,List.drop_zero]
  repeat' first|(apply p3;(first|exact pu1|exact a_ne rfl rfl);exact rfl)|refine cdn ?_|refine g_reg (id := 7) ?_|(apply py3;exact rfl;exact rfl;(first|exact pu1|exact a_ne rfl rfl);exact rfl;exact rfl)|(apply cy4 0;exact rfl;exact rfl;exact callK1 (θ := []) (hD := (b10Nums_ok p p hp2 hp2));exact rfl;exact rfl;exact rfl;exact rfl;refine dM ?_)|(apply cy4 0;exact rfl;exact rfl;exact callK1 (θ := []) (hD := (iIsTnf_ok m 20 hm1));exact rfl;exact rfl;exact rfl;exact rfl;refine dM ?_)|((first|refine o_gs rfl rfl (fun hc => ?_) (fun hc => ?_)|refine g_cond rfl (fun hc => ?_) (fun hc => ?_)) <;> (try simp only [dcB] at hc) <;> (try first|contradiction|(exfalso;omega)))
  obtain ⟨A,eA⟩ : ∃ A,A = nbL 2 2 20 2 [] := ⟨_,rfl⟩
  obtain ⟨U,eU⟩ : ∃ U,U = wuL 2 2 20 1 := ⟨_,rfl⟩
  obtain ⟨K,eK⟩ : ∃ K,K = sctL 2 2 20 2 := ⟨_,rfl⟩
  have al := below_len
  have ul := units_len
  have kl := counts_bd
  have sm := sums_ok
  rw [← eA] at al sm
  rw [← eU] at ul
  rw [← eK] at kl sm
  obtain ⟨kl1,kl2⟩ := kl
  obtain ⟨sm1,sm2⟩ := sm
  have kb : ∀ x ∈ K,0 ≤ x ∧ x ≤ 1000000 := fun x hx => by have := List.all_eq_true.1 kl2 x hx; simp at this; omega
  have k16 : (K.length : Int) ≤ 1000000 := by omega
  have alp : ¬ ((A.length : Int) = 0) := fun q => sm2 (List.length_eq_zero_iff.1 (by omega))
  repeat' first|(apply p3;(exact pu1);exact rfl)|refine cdn ?_|refine g_reg (id := 9) ?_|(apply c4 1;exact callK1 (θ := []) (hD := (iNodesBelow_ok 2 2 20 2 [] preC26));exact rfl;exact rfl;exact rfl;refine dM ?_)
  rw [codes_ok.1,← eA]
  refine g_turn (t_freezeD (i := 1) rfl (shut_eO A)) ?_
  repeat' first|(apply p3;(exact pu1);exact rfl)|refine cdn ?_|refine g_reg (id := 10) ?_|(apply c4 1;exact callK1 (θ := []) (hD := (iWorkUnits_ok 2 2 1 20));exact rfl;exact rfl;exact rfl;refine dM ?_)
  rw [codes_ok.2.1,← eU]
  refine g_turn (t_freezeD (i := 2) rfl (shut_eO U)) ?_
  repeat' first|(apply p3;(exact pu1);exact rfl)|refine cdn ?_|refine g_reg (id := 11) ?_|(apply c4 0;exact callF (hD := (iStatusCounts_ok 2 2 2 20));exact rfl;exact rfl;exact rfl;refine dM ?_)
  rw [codes_ok.2.2,← eK]
  try simp only [setRow,C.frz.all,C.frz,SV.frz,tFrz,List.map_cons,List.map_nil,scC,List.set_cons_zero,List.set_cons_succ,Nat.zero_add,List.getElem?_cons_zero,List.getElem?_cons_succ,List.take_succ_cons,List.take_zero,List.drop_zero]
  repeat' first|(apply p3;(first|exact pu1|exact a_ne rfl rfl);exact rfl)|refine cdn ?_|refine g_reg (id := 12) ?_|(apply py3;exact rfl;exact rfl;(first|exact pu1|exact a_ne rfl rfl|exact puN|exact puC);exact rfl;exact rfl)|(apply cy4 0;exact rfl;exact rfl;exact callK1 (θ := []) (hD := (b10Sum_ok K k16 kb));exact rfl;exact rfl;exact rfl;exact rfl;refine dM ?_)|((first|refine o_gs rfl rfl (fun hc => ?_) (fun hc => ?_)|refine g_cond rfl (fun hc => ?_) (fun hc => ?_)) <;> (try simp only [dcB] at hc) <;> (try first|contradiction|(exfalso;omega)))
  first | refine g_conv (t_leS 12 (.one (shW A)) (by (repeat (first | exact SVLe.refl | refine SVLe.one ?_ | refine SVLe.agg ?_ | exact CsLe.nil | refine CsLe.cons ?_ ?_ | exact CLe.refl | exact CLe.sh rfl | exact CLe.nil (by decide))); first | done | fail)) ?_ | refine o_conv (t_leS 12 (.one (shW A)) (by (repeat (first | exact SVLe.refl | refine SVLe.one ?_ | refine SVLe.agg ?_ | exact CsLe.nil | refine CsLe.cons ?_ ?_ | exact CLe.refl | exact CLe.sh rfl | exact CLe.nil (by decide))); first | done | fail)) ?_
  first | refine g_conv (t_leS 14 (.one (shW U)) (by (repeat (first | exact SVLe.refl | refine SVLe.one ?_ | refine SVLe.agg ?_ | exact CsLe.nil | refine CsLe.cons ?_ ?_ | exact CLe.refl | exact CLe.sh rfl | exact CLe.nil (by decide))); first | done | fail)) ?_ | refine o_conv (t_leS 14 (.one (shW U)) (by (repeat (first | exact SVLe.refl | refine SVLe.one ?_ | refine SVLe.agg ?_ | exact CsLe.nil | refine CsLe.cons ?_ ?_ | exact CLe.refl | exact CLe.sh rfl | exact CLe.nil (by decide))); first | done | fail)) ?_
  have jo : [] :: U.flatMap (fun u => nbL 2 2 20 2 u) = A := by rw [eA,eU]; exact join_ok
  have uo := units_ok
  have le := lens_ok
  rw [← eU] at uo le
  repeat' first|(apply p3;exact a_litF (dst := some 111) eI [] rfl rfl rfl rfl rfl rfl rfl rfl nowR;exact rfl)|(apply n3;(exact a_litE eW [_] rfl rfl rfl rfl rfl rfl rfl rfl);exact rfl;refine dA ?_)|(apply p3;(exact pu1);exact rfl)|refine cd ?_
  refine g_loop_id ?_
  refine loopK [4,5,12,14] [3] (fun y : Int × List (List Int) => 0 ≤ y.1 ∧ y.1 ≤ U.length ∧ y.2 = [] :: (U.take y.1.toNat).flatMap (fun u => nbL 2 2 20 2 u)) (fun y => [(19,.one (int y.1)),(18,.one (.gv 3))]) (fun y => [(3,.row 1 (rows eW y.2))]) (fun y => (U.length - y.1).toNat) ((0 : Int),([[]] : List (List Int))) [0,1,2,3] (hI := ?_) (hr := ?_)
  · exact ⟨by simp,by simp,by simp⟩
  · rintro ⟨i,J⟩ ⟨h0,h3,h4⟩
    dsimp only [List.cons_append,List.nil_append] at *
    skip
    repeat' first|(apply p3;(first|exact pu1|exact puN|exact puC);exact rfl)|refine cdn ?_|refine g_reg (id := 16) ?_|refine g_reg (id := 22) ?_|((refine g_cond rfl (fun hc => ?_) (fun hc => ?_)) <;> (try simp only [dcB] at hc) <;> (try first|contradiction|(exfalso;omega)))
    · have hi : i.toNat < U.length := by omega
      have hu := List.all_eq_true.1 le _ (List.getElem_mem hi)
      have huo := List.all_eq_true.1 uo _ (List.getElem_mem hi)
      simp only [Bool.and_eq_true,decide_eq_true_eq] at hu huo
      have hul : ((U[i.toNat]'hi).length : Int) ≤ 1048576 := by omega
      have hJ : J.length ≤ A.length := by
        have e : A = ([] :: (U.take i.toNat).flatMap (fun u => nbL 2 2 20 2 u)) ++ (U.drop i.toNat).flatMap (fun u => nbL 2 2 20 2 u) := by rw [List.cons_append,← List.flatMap_append,List.take_append_drop,jo]
        rw [← h4] at e
        rw [e,List.length_append]
        omega
      have hbl := hu.2
      repeat' first|(apply p3;(first|exact pu1|exact puI);exact rfl)|refine cdn ?_|refine g_reg (id := 18) ?_|(apply c4 1;exact callK1 (θ := []) (hD := (iNodesBelow_ok 2 2 20 2 (U[i.toNat]'hi) hul));exact rfl;exact rfl;exact rfl;refine dM ?_)
      rw [huo]
      refine g_turn (t_freezeD (i := 4) rfl (shut_eO _)) ?_
      first | refine g_conv (t_leS 20 (.one (shW (nbL 2 2 20 2 (U[i.toNat]'hi)))) (by (repeat (first | exact SVLe.refl | refine SVLe.one ?_ | refine SVLe.agg ?_ | exact CsLe.nil | refine CsLe.cons ?_ ?_ | exact CLe.refl | exact CLe.sh rfl | exact CLe.nil (by decide))); first | done | fail)) ?_ | refine o_conv (t_leS 20 (.one (shW (nbL 2 2 20 2 (U[i.toNat]'hi)))) (by (repeat (first | exact SVLe.refl | refine SVLe.one ?_ | refine SVLe.agg ?_ | exact CsLe.nil | refine CsLe.cons ?_ ?_ | exact CLe.refl | exact CLe.sh rfl | exact CLe.nil (by decide))); first | done | fail)) ?_
      repeat' first|(apply p3;(first|exact pu1|exact a_ne rfl rfl|exact a_add rfl rfl (by omega) (by omega));exact rfl)|refine cd ?_|(apply s3;exact a_appE (fP rfl) rfl rfl rfl rfl nowR (by omega) (by decide) (by decide) (by exact rfl);exact rfl;exact rfl)
      refine q_again (i + 1,J ++ nbL 2 2 20 2 (U[i.toNat]'hi)) [0,1,2,5] (by exact stk) ?_ ?_
      · refine ⟨by dsimp only; omega,by dsimp only; omega,?_⟩
        dsimp only
        rw [h4,show (i + 1).toNat = i.toNat + 1 by omega,List.take_succ_eq_append_getElem hi,List.flatMap_append,List.flatMap_singleton]
        rfl
      · dsimp only; omega
    · have hJA : J = A := by rw [h4,List.take_of_length_le (by omega),jo]
      subst hJA
      have hr1 : (J.length : Int) ≤ 16777216 := by omega
      have hr2 : ∀ x ∈ J,(x.length : Int) ≤ 16777216 := fun x hx => by
        have h5 := rows_len100
        rw [← eA] at h5
        have := List.all_eq_true.1 h5 x hx
        simp only [decide_eq_true_eq] at this
        omega
      repeat' first|(apply p3;(exact pu1);exact rfl)|refine cdn ?_|(apply c4 0;exact callK1 (θ := []) (hD := (b10Rows_ok J hr1 hr2));exact rfl;exact rfl;exact rfl;refine dM ?_)
      repeat' first|(apply p3;(exact pu1);exact rfl)|refine cdn ?_|refine g_reg (id := 24) ?_|refine g_reg (id := 25) ?_|(apply c4 0;exact callF (hD := (iNextNode_ok 2 2 20 p hp1));exact rfl;exact rfl;exact rfl;refine dM ?_)|(apply c4 1;exact callK1 (θ := []) (hD := (iNodesFrom_ok 2 2 20 2 p hp1));exact rfl;exact rfl;exact rfl;refine dM ?_)
      simp only [T.nc,T.nl,T.fc,T.fl]
      try simp only [setRow,C.frz.all,C.frz,SV.frz,tFrz,List.map_cons,List.map_nil,scC,List.set_cons_zero,List.set_cons_succ,Nat.zero_add,List.getElem?_cons_zero,List.getElem?_cons_succ,List.take_succ_cons,List.take_zero,List.drop_zero]
      refine g_turn (t_freezeD (i := 4) rfl (shut_eO _)) ?_
      have kn : ¬ eqI (n.getD []) (n.getD []) = false := by simp [eqI]
      have hnb : ((n.getD []).length : Int) ≤ 16777216 := by have := T.nb; omega
      rcases T.e with ⟨q1,q2⟩ | ⟨q1,q2⟩
      · rw [q1,q2]
        first | refine g_conv (t_leS 24 (.one (shW [p])) (by (repeat (first | exact SVLe.refl | refine SVLe.one ?_ | refine SVLe.agg ?_ | exact CsLe.nil | refine CsLe.cons ?_ ?_ | exact CLe.refl | exact CLe.sh rfl | exact CLe.nil (by decide))); first | done | fail)) ?_ | refine o_conv (t_leS 24 (.one (shW [p])) (by (repeat (first | exact SVLe.refl | refine SVLe.one ?_ | refine SVLe.agg ?_ | exact CsLe.nil | refine CsLe.cons ?_ ?_ | exact CLe.refl | exact CLe.sh rfl | exact CLe.nil (by decide))); first | done | fail)) ?_
        repeat' first|(apply p3;(first|exact pu1|exact puN|exact puC|exact a_ne rfl rfl);exact rfl)|refine cd ?_|(apply py3;exact rfl;exact rfl;(first|exact pu1|exact puN|exact puC|exact puI);exact rfl;exact rfl)|(apply cy4 0;exact rfl;exact rfl;exact callK1 (θ := []) (hD := (b10Nums_ok p p hp2 hp2));exact rfl;exact rfl;exact rfl;exact rfl;refine dM ?_)|((refine g_cond rfl (fun hc => ?_) (fun hc => ?_)) <;> (try simp only [dcB] at hc) <;> (try first|contradiction|(exfalso;omega)))
        repeat refine cr ?_
        refine ends_id ?_
        refine endK [] (h2 := ?_) (h3 := ?_) (nd := ?_)
        all_goals (repeat' first|exact ce0|refine ce ?_|refine ce2 ?_ ?_|exact SVLe.refl|refine ceb ?_)
        all_goals first | exact (show nodupB _ = true from rfl) | exact Or.inr rfl | (rfl)
      · rw [q1,q2]
        first | refine g_conv (t_leS 24 (.one (shW [p,n.getD []])) (by (repeat (first | exact SVLe.refl | refine SVLe.one ?_ | refine SVLe.agg ?_ | exact CsLe.nil | refine CsLe.cons ?_ ?_ | exact CLe.refl | exact CLe.sh rfl | exact CLe.nil (by decide))); first | done | fail)) ?_ | refine o_conv (t_leS 24 (.one (shW [p,n.getD []])) (by (repeat (first | exact SVLe.refl | refine SVLe.one ?_ | refine SVLe.agg ?_ | exact CsLe.nil | refine CsLe.cons ?_ ?_ | exact CLe.refl | exact CLe.sh rfl | exact CLe.nil (by decide))); first | done | fail)) ?_
        repeat' first|(apply p3;(first|exact pu1|exact puC|exact a_ne rfl rfl);exact rfl)|refine cdn ?_|refine g_reg (id := 26) ?_|refine g_reg (id := 28) ?_|(apply py3;exact rfl;exact rfl;(first|exact pu1|exact puN|exact puC|exact puI);exact rfl;exact rfl)|(apply cy4 0;exact rfl;exact rfl;exact callK1 (θ := []) (hD := (b10Nums_ok p p hp2 hp2));exact rfl;exact rfl;exact rfl;exact rfl;refine dM ?_)|((refine g_cond rfl (fun hc => ?_) (fun hc => ?_)) <;> (try simp only [dcB] at hc) <;> (try first|contradiction|(exfalso;omega)))
        repeat' first|(apply p3;(first|exact pu1|exact puC);exact rfl)|refine cd ?_|(apply py3;exact rfl;exact rfl;(first|exact pu1|exact puN|exact puC|exact puI);exact rfl;exact rfl)|(apply cy4 0;exact rfl;exact rfl;exact callK1 (θ := []) (hD := (b10Nums_ok (n.getD []) (n.getD []) hnb hnb));exact rfl;exact rfl;exact rfl;exact rfl;refine dM ?_)
        have ez : eqI (n.getD []) (n.getD []) = true := by simp [eqI]
        rw [ez]
        repeat refine cr ?_
        refine ends_id ?_
        refine endK [] (h2 := ?_) (h3 := ?_) (nd := ?_)
        all_goals (repeat' first|exact ce0|refine ce ?_|refine ce2 ?_ ?_|exact SVLe.refl|refine ceb ?_)
        all_goals first | exact (show nodupB _ = true from rfl) | exact Or.inr rfl | (rfl)
theorem lawTreeB (l l2 : List Int) (h : l.length ≤ maxLen ∧ ∀ x ∈ l,0 ≤ x ∧ x < 256) (h2 : l2.length ≤ maxLen ∧ ∀ x ∈ l2,0 ≤ x ∧ x < 256) : Does Tryz.prog 3 [.one (shY l),.one (shY l2)] [] (.one (boo true)) [] :=
  lawTree l l2 (by have := h.1; unfold maxLen at this; omega) (by have := h2.1; unfold maxLen at this; omega) fun x hx => by have := h.2 x hx; omega
set_option maxRecDepth 100000 in
set_option maxRecDepth 100000 in
theorem liftedFnTree (os : Os) (started : os.Started) (H : Type) (enc : TypeId × Value → H) : ReturnsInHanded {} Tryz.checked os 3 .any (fun w args => (Rows.fnTreeSpec.pre enc Tryz.prog Tryz.f3 [] false w args ∧ laidMetH Tryz.prog Rows.fnTreeRow.laid w) ∧ sizedMet enc Tryz.prog Tryz.f3 (OpenSpec.ofChange Rows.fnTreeSpec) false w args) (Rows.fnTreeSpec.post enc Tryz.prog Tryz.f3 false true false false) := by
  refine returnsInHanded_of_change_and (C := Tryz.checked) (X := fun w _ => laidMetH Tryz.prog Rows.fnTreeRow.laid w) (fun _ _ _ hh h => h.of_heap hh) own started (by kernel_rfl) Tryz.func3 (ChangeSpec.witness_shaped (enc := enc) (C := Tryz.checked) (os := os) (X := fun w _ => laidMetH Tryz.prog Rows.fnTreeRow.laid w) false (World.laidAll Tryz.prog os Rows.fnTreeRow.laid) #[.slice none 0 0,.slice none 0 0] 12 rfl (World.shaped_of_ZipB (by kernel_rfl) (by kernel_rfl)) (by kernel_rfl) (by kernel_rfl) (by kernel_rfl) (door_met7 os _)) ?_
  intro W base args ds gs before hval0 hW hcnd _ hL _
  have hval : ∀ (j : Nat) t v,Tryz.f3.params[j]? = some t → args[j]? = some v → Value.okWide Tryz.prog W .any base t v := hval0
  have hW' := hW
  obtain ⟨p,q,hA0,hV,rfl,hfz,hnd⟩ := hW
  have hA : DataW.TrodAll enc Tryz.prog W 0 (fun _ => true) true Tryz.f3.params.toList args.toList ds p := hA0
  rw [Tryz.params3] at hA hval
  obtain ⟨v0,vs0,d0,ds0,p0,r0,hargs,rfl,rfl,h0,s0⟩ := trodAll_cons hA
  obtain ⟨v1,vs1,d1,ds1,p1,r1,rfl,rfl,rfl,h1,s1⟩ := trodAll_cons s0
  obtain ⟨rfl,rfl,rfl⟩ := trodAll_nil s1
  obtain rfl : args = #[v0,v1] := by cases args; simp_all
  obtain ⟨rfl,rfl⟩ := trodVars_none hV
  have k0 := h0
  have k1 := h1
  have lt0 : ∀ x ∈ p0,x.block < W.heap.size := by obtain ⟨m,hm⟩ := k0; exact DataW.trod_lt m _ _ _ hm
  have lt1 : ∀ x ∈ p1,x.block < W.heap.size := by obtain ⟨m,hm⟩ := k1; exact DataW.trod_lt m _ _ _ hm
  obtain ⟨_,_,_,rfl⟩ := okWide_slice Tryz.underlying22 (hval 0 22 v0 rfl rfl)
  obtain ⟨a0,e0,q0⟩ := arg_one (ρ := fun _ => none) rfl h0 opens_Y
  obtain ⟨_,_,_,rfl⟩ := okWide_slice Tryz.underlying22 (hval 1 22 v1 rfl rfl)
  obtain ⟨a1,e1,q1⟩ := arg_one (ρ := fun _ => none) rfl h1 opens_Y
  clear hA0 hval0
  refine (does_calls (lawTreeB a0 a1 q0 q1) (tabs_met7 hL) ⟨_,_,rfl,e0,⟨_,_,rfl,e1,rfl⟩⟩).mono fun e W' ⟨he,bel⟩ => ?_
  subst he
  exact ⟨_,rfl,_,_,_,[],_,[],hW',trodAll_mk1 (shut_bool Tryz.underlying4 _),(trodAll_cons_mk (Below.trod laidOut (by kernel_rfl) (of_decide_eq_true (by kernel_rfl)) k0 bel lt0) (trodAll_cons_mk (Below.trod laidOut (by kernel_rfl) (of_decide_eq_true (by kernel_rfl)) k1 bel lt1) trodAll_mk0)),rfl,bel.frame _,fun h => by cases h⟩
theorem fact0FnTree : (Rows.fnTreeRow.inPlace == Tryz.pinned.checked.prog.inPlace 3) = true := by kernel_rfl
theorem fact1FnTree : (Rows.fnTreeRow.unfollowed == Tryz.pinned.checked.prog.unfollowed 3) = true := by kernel_rfl
theorem fact2FnTree : (Rows.fnTreeRow.recurses == Tryz.pinned.checked.prog.recurses 3) = true := by kernel_rfl
theorem fact3FnTree : (Rows.fnTreeRow.named == Tryz.pinned.checked.prog.varsNamed 3) = true := by kernel_rfl
theorem closedFnTree : joinedFacts Tryz.pinned.checked.prog 3 Tryz.f3 Rows.fnTreeSpec Rows.fnTreeRow = true := by
  unfold joinedFacts
  rw [fact0FnTree,fact1FnTree,fact2FnTree,fact3FnTree]
  kernel_rfl
theorem provedFnTree : Rows.FnTreeSaid :=
  OpenClaim.holds_of_wide 3 Tryz.f3 rfl rfl rfl rfl rfl rfl rfl ⟨rfl,rfl,rfl,rfl,rfl⟩ rfl rfl rfl rfl rfl (by kernel_rfl) Tryz.func3 closedFnTree
    (of_decide_eq_true (by kernel_rfl)) (by unfold Func.isWrapper; first | (rw [if_pos (by decide +kernel)]; kernel_rfl) | (rw [if_neg (by decide +kernel)]; exact ⟨rfl,rfl⟩))
    (fun os started H enc _ => liftedFnTree os started H enc)
theorem card1FnTree : Rows.fnTreeRow.wfByText (OpenSpec.ofChange Rows.fnTreeSpec) = true := by kernel_rfl
theorem card2FnTree : Tryz.pinned.checked.prog.mainIs = some (Rows.fnTreeCard.stood.harness.1,Rows.fnTreeCard.stood.harness.2.toList) := by kernel_rfl
theorem card3FnTree : true = Tryz.pinned.checked.prog.looks [] := by kernel_rfl
theorem card4FnTree : false = Rows.fnTreeRow.goesBy Tryz.pinned.checked.prog := by kernel_rfl
theorem card5FnTree : Tryz.prog.funcNamed "loop.example/g01079/laws.FnTree" = some 3 := by kernel_rfl
theorem card6FnTree : ([22,22].all fun u => !Tryz.prog.wantsStandIn u) = true := by kernel_rfl
theorem provedCardFnTree : Rows.FnTreeCardSaid :=
  Claim7.holds_tied_plain_at .later [] [.data,.data,.data,.data,.sentinel,.sentinel,.pinned] true Rows.fnTreeCard.stood.harness true provedFnTree (fun _ h => by cases h) card1FnTree (fun _ h => by cases h) fnTree_row_tie rfl ⟨rfl,rfl⟩ card2FnTree rfl
    (fun f fn hf hfn => by
      obtain rfl : f = 3 := Option.some.inj (card5FnTree.symm.trans hf) |>.symm
      obtain rfl : fn = Tryz.f3 := (Option.some.inj (Tryz.func3.symm.trans hfn)).symm
      exact ⟨card3FnTree,fun j t ht => by
        rw [Tryz.params3] at ht
        have hm : t ∈ [22,22] := by simpa using Array.mem_of_getElem? ht
        exact (show Tryz.prog.wantsStandIn t = false by simpa using List.all_eq_true.1 card6FnTree t hm)⟩)
    card4FnTree
end Go.Proofs.YtighjcjmacajoaaGreatDoor
