/- For every tag system, every word and every number of steps: the program's TurnTexts hands back what the reference hands back, with the same code, leaves its arguments alone, and its slice is its own, twice. The tables of the library that the rows list are tied to the program's text. -/
import Derived.Test.YtjmlbmmbionmcaaDoorQ18
import Derived.SevenTiedAt
import Derived.Test.YtjmlbmmbionmcaaDoorCards
import Derived.Test.YtjmlbmmbionmcaaDoorTie
set_option linter.unusedVariables false
set_option linter.unusedSimpArgs false
set_option maxRecDepth 100000
set_option maxHeartbeats 4000000
namespace Go.Proofs.YtjmlbmmbionmcaaDoor
open Go Foot Go.ChangeShapes Go.WideShapes Go.ChangeAt Go.RowKit Go.Deep
theorem trC_len {L : List (List Int)} {N : Nat} : ∀ (k : Nat) (l : List Bs) (i : Int) (q : List Int),(trC L N k l i q).1.length ≤ l.length + k + 1
  | 0,l,i,q => by rw [trC]; simp
  | k + 1,l,i,q => by
    rw [trC]
    cases decide (q.length = 0) with
    | true => simp
    | false =>
      cases cyO L i q with
      | true => simp
      | false =>
        simp only [cond_false]
        have := trC_len (L := L) (N := N) k (l ++ [tnX N i q]) (cyI L i) (cyQ L i q)
        rw [List.length_append,List.length_singleton] at this
        omega
theorem tnO_len (t : Tg) (q : List Int) (n : Int) : ((tnO t q n).1.length : Int) ≤ 600 := by
  unfold tnO
  cases vTag t && tgWord t.wo.length q with
  | false => simp
  | true =>
    rw [cond_true]
    by_cases h : 0 ≤ n ∧ n ≤ 599
    · rw [if_pos h]
      have := trC_len (L := (cyR t).1) (N := t.wo.length) n.toNat [] 0 (cdL t.wo.length q)
      rw [List.length_nil] at this
      cases (cyR t).2 with
      | false => simp
      | true =>
        cases fitW t.wo.length q with
        | false => simp
        | true =>
          rw [cond_true,cond_true]
          cases (trC (cyR t).1 t.wo.length n.toNat [] 0 (cdL t.wo.length q)).2 with
          | false => simp
          | true => rw [cond_true]; dsimp only; omega
    · rw [if_neg h]; simp
theorem preC35 {p : Prop} (h : p := by first | with_reducible assumption | omega | (simp only [List.length_append,List.length_cons,List.length_nil,List.length_set,List.length_replicate,List.length_take,List.length_drop,List.length_tail,List.length_dropLast,List.length_reverse] at *; omega) | exact mem_len (by assumption) (by omega) | (with_reducible refine Int.le_trans (Int.ofNat_le.2 (trimR_len _)) ?_; simp only [List.length_cons,List.length_tail]; omega) | (exact (ruAt_ok (by assumption) (by assumption) (by assumption)).2.1) | (exact (ruAt_ok (by assumption) (by assumption) (by assumption)).2.1) | (have := vMach_bd (by assumption); omega) | (simp only [mC_ch,mC_tu]; omega) | (have := vTag_bd (by assumption); omega) | (have := (‹Gd _ _›).le; omega) | (exact tgHalts_no (by assumption)) | (exact tgHead (by assumption) (by assumption) (by assumption)) | (exact Int.le_trans (tgStep_gd (by assumption) (by assumption) (by assumption) (by assumption)).le (by decide)) | (exact vTag_r (by assumption)) | (with_reducible refine Int.le_trans (Int.ofNat_le.2 (pushL_len _ _)) ?_; simp only [List.length_dropLast]; omega) | exact ls_at (by assumption) (by omega) | exact pt_gd (by assumption) | exact lv_at (by assumption) (by omega) | exact pt_gd (lv_at (by assumption) (by omega)) | exact (ask_ok (by assumption)).1 | exact (ask_ok (by assumption)).2.1 | exact (ask_ok (by assumption)).2.2.1 | exact (ask_ok (by assumption)).2.2.2 | (simp only [marks_len]; omega) | (simp only [marksR_len]; omega) | exact lns_at (by assumption) (by omega) | exact bgs_at (by assumption) (by omega) | trivial) : p := h
theorem lawTurnTexts (t : Tg) (q : List Int) (n : Int) (hq : q.length ≤ maxLen) (hh : t.ha.length ≤ maxLen) (hw : t.wo.length ≤ maxLen) (hs : ∀ x ∈ t.wo,x.length ≤ maxLen) : Does Tryd.prog 3 [.agg (tgC t),.one (shI q),.one (int n)] [] (.one (boo true)) [] := by
  have g1 : (q.length : Int) ≤ 9223372036854775807 := by unfold maxLen at hq; omega
  have g2 : (t.ha.length : Int) ≤ 9223372036854775807 := by unfold maxLen at hh; omega
  have g3 : (t.wo.length : Int) ≤ 9223372036854775807 := by unfold maxLen at hw; omega
  have g4 : ∀ x ∈ t.wo,(x.length : Int) ≤ 9223372036854775807 := fun x hx => by have := hs x hx; unfold maxLen at this; omega
  clear hq hh hw hs
  by_cases hb : (1048576 : Int) < q.length
  · refine does_of (k := 0) Tryd.func3 rfl Tryd.ntmps3 rfl rfl fun w F0 S0 ρ0 => ?_
    dsimp only [argT,argH]
    repeat' first|(apply n3;exact a_new (gb := .bx _) rfl;exact rfl;refine dA ?_)|(apply p3;(first|exact pu1|exact puL|exact puN|exact a_len_str rfl (fT rfl)|exact puC|exact a_ne rfl rfl|exact a_neS rfl rfl rfl);exact rfl)|refine cd ?_|(apply w3;exact a_st_bx rfl rfl rfl rfl (fN rfl rfl) (Nat.le_of_ble_eq_true rfl) rfl;exact rfl;refine dS ?_)|(apply c4 0;exact callK1 (θ := []) (hD := (szTag_ok _ _ preC35 preC35 preC35 preC35 preC35));exact rfl;exact rfl;exact rfl;refine dM ?_)|(apply c4 2;exact callK1 (θ := []) (hD := (toTagN_ok _ preC35 preC35 preC35));exact rfl;exact rfl;exact rfl;refine dM ?_)|(apply c4 1;exact callK1 (θ := []) (hD := (toInt64S_ok _ preC35));exact rfl;exact rfl;exact rfl;refine dM ?_)|(apply c4 1;exact callK1 (θ := []) (hD := (sTurnTexts_ok _ _ _ preC35 preC35 preC35 preC35));exact rfl;exact rfl;exact rfl;refine dM ?_)|(apply c4 1;exact callK1 (θ := []) (hD := (iTurnTexts_ok _ _ _ preC35 preC35 preC35 preC35));exact rfl;exact rfl;exact rfl;refine dM ?_)|(apply c4 0;exact callK1 (θ := []) (hD := (eqStringS_ok _ _ preC35 preC35));exact rfl;exact rfl;exact rfl;refine dM ?_)|(apply c4 0;exact callK1 (θ := []) (hD := (eqInt64S_ok _ _ preC35 preC35));exact rfl;exact rfl;exact rfl;refine dM ?_)|(apply c4 0;exact callK1 (θ := [_,_]) (hD := (markTagN_ok _ _ preC35 preC35 preC35 preC35 preC35));exact rfl;exact rfl;exact rfl;refine dM ?_)|(apply c4 0;exact callK1 (θ := [_]) (hD := (markInt64S_ok _ _ preC35 preC35 preC35));exact rfl;exact rfl;exact rfl;refine dM ?_)|(apply c4 0;exact callK1 (θ := [_]) (hD := (markStringS_ok _ _ preC35 preC35 preC35));exact rfl;exact rfl;exact rfl;refine dM ?_)|(apply c4 0;exact callK1 (θ := []) (hD := (heldStringS_ok _ _ preC35 preC35 preC35));exact rfl;exact rfl;exact rfl;refine dM ?_)|refine o_no rfl rfl rfl rfl ?_|refine o_noN rfl rfl rfl ?_|(apply py3;exact rfl;exact rfl;(first|exact pu1|exact puL|exact puN|exact a_len_str rfl (fT rfl)|exact puC|exact a_ne rfl rfl|exact a_neS rfl rfl rfl);exact rfl;exact rfl)|(apply ny3;exact rfl;exact rfl;exact a_new (gb := .bx _) rfl;exact rfl;exact rfl)|(apply cy4 0;exact rfl;exact rfl;exact callK1 (θ := []) (hD := (szTag_ok _ _ preC35 preC35 preC35 preC35 preC35));exact rfl;exact rfl;exact rfl;exact rfl;refine dM ?_)|(apply cy4 2;exact rfl;exact rfl;exact callK1 (θ := []) (hD := (toTagN_ok _ preC35 preC35 preC35));exact rfl;exact rfl;exact rfl;exact rfl;refine dM ?_)|(apply cy4 1;exact rfl;exact rfl;exact callK1 (θ := []) (hD := (toInt64S_ok _ preC35));exact rfl;exact rfl;exact rfl;exact rfl;refine dM ?_)|(apply cy4 1;exact rfl;exact rfl;exact callK1 (θ := []) (hD := (sTurnTexts_ok _ _ _ preC35 preC35 preC35 preC35));exact rfl;exact rfl;exact rfl;exact rfl;refine dM ?_)|(apply cy4 1;exact rfl;exact rfl;exact callK1 (θ := []) (hD := (iTurnTexts_ok _ _ _ preC35 preC35 preC35 preC35));exact rfl;exact rfl;exact rfl;exact rfl;refine dM ?_)|(apply cy4 0;exact rfl;exact rfl;exact callK1 (θ := []) (hD := (eqStringS_ok _ _ preC35 preC35));exact rfl;exact rfl;exact rfl;exact rfl;refine dM ?_)|(apply cy4 0;exact rfl;exact rfl;exact callK1 (θ := []) (hD := (eqInt64S_ok _ _ preC35 preC35));exact rfl;exact rfl;exact rfl;exact rfl;refine dM ?_)|(apply cy4 0;exact rfl;exact rfl;exact callK1 (θ := [_,_]) (hD := (markTagN_ok _ _ preC35 preC35 preC35 preC35 preC35));exact rfl;exact rfl;exact rfl;exact rfl;refine dM ?_)|(apply cy4 0;exact rfl;exact rfl;exact callK1 (θ := [_]) (hD := (markInt64S_ok _ _ preC35 preC35 preC35));exact rfl;exact rfl;exact rfl;exact rfl;refine dM ?_)|(apply cy4 0;exact rfl;exact rfl;exact callK1 (θ := [_]) (hD := (markStringS_ok _ _ preC35 preC35 preC35));exact rfl;exact rfl;exact rfl;exact rfl;refine dM ?_)|(apply cy4 0;exact rfl;exact rfl;exact callK1 (θ := []) (hD := (heldStringS_ok _ _ preC35 preC35 preC35));exact rfl;exact rfl;exact rfl;exact rfl;refine dM ?_)|(apply g_drN (id := 13) okM [[],[],[1],[0,1,2],[0,1,2,3]] [([],[]),([],[]),([0,1],[]),([],[]),([],[])] 2;(focus (refine dp 0 0 [57,58] [(true,0),(true,1)] puL ?_;refine dp 1 0 [56] [] puL ?_;refine duN 2 1 [56] [] (callD1 (n := _) 0 (θ := []) (hD := (toTagN_ok _ preC35 preC35 preC35))) (by exact rfl) (by exact rfl) ?_;refine dp 3 7 [] [] (callD1 (n := _) 2 (θ := []) (hD := (eqTag_ok _ _ preC35 preC35 preC35 preC35 preC35 preC35))) ?_;refine dp 4 15 [] [] (a_pure (sv := .one _) rfl) ?_;(refine d_nil ?_;refine dN ?_)));any_goals kernel_rfl)|((first|refine o_gs rfl rfl (fun hc => ?_) (fun hc => ?_)|refine g_cond rfl (fun hc => ?_) (fun hc => ?_)) <;> (try simp only [dcB] at hc) <;> (try first|contradiction|(exfalso;omega)))
    repeat refine cr ?_
    refine ends_id ?_
    refine endK [] (h2 := ?_) (h3 := ?_) (nd := ?_)
    all_goals (repeat' first|exact ce0|refine ce ?_|refine ce2 ?_ ?_|exact SVLe.refl|refine ceb ?_)
    all_goals first | exact (show nodupB _ = true from rfl) | exact Or.inr rfl | (rfl)
  by_cases ha : szG t 1048576 < 0
  · refine does_of (k := 0) Tryd.func3 rfl Tryd.ntmps3 rfl rfl fun w F0 S0 ρ0 => ?_
    dsimp only [argT,argH]
    repeat' first|(apply n3;exact a_new (gb := .bx _) rfl;exact rfl;refine dA ?_)|(apply p3;(first|exact pu1|exact puL|exact puN|exact a_len_str rfl (fT rfl)|exact puC|exact a_ne rfl rfl|exact a_neS rfl rfl rfl);exact rfl)|refine cd ?_|(apply w3;exact a_st_bx rfl rfl rfl rfl (fN rfl rfl) (Nat.le_of_ble_eq_true rfl) rfl;exact rfl;refine dS ?_)|(apply c4 0;exact callK1 (θ := []) (hD := (szTag_ok _ _ preC35 preC35 preC35 preC35 preC35));exact rfl;exact rfl;exact rfl;refine dM ?_)|(apply c4 2;exact callK1 (θ := []) (hD := (toTagN_ok _ preC35 preC35 preC35));exact rfl;exact rfl;exact rfl;refine dM ?_)|(apply c4 1;exact callK1 (θ := []) (hD := (toInt64S_ok _ preC35));exact rfl;exact rfl;exact rfl;refine dM ?_)|(apply c4 1;exact callK1 (θ := []) (hD := (sTurnTexts_ok _ _ _ preC35 preC35 preC35 preC35));exact rfl;exact rfl;exact rfl;refine dM ?_)|(apply c4 1;exact callK1 (θ := []) (hD := (iTurnTexts_ok _ _ _ preC35 preC35 preC35 preC35));exact rfl;exact rfl;exact rfl;refine dM ?_)|(apply c4 0;exact callK1 (θ := []) (hD := (eqStringS_ok _ _ preC35 preC35));exact rfl;exact rfl;exact rfl;refine dM ?_)|(apply c4 0;exact callK1 (θ := []) (hD := (eqInt64S_ok _ _ preC35 preC35));exact rfl;exact rfl;exact rfl;refine dM ?_)|(apply c4 0;exact callK1 (θ := [_,_]) (hD := (markTagN_ok _ _ preC35 preC35 preC35 preC35 preC35));exact rfl;exact rfl;exact rfl;refine dM ?_)|(apply c4 0;exact callK1 (θ := [_]) (hD := (markInt64S_ok _ _ preC35 preC35 preC35));exact rfl;exact rfl;exact rfl;refine dM ?_)|(apply c4 0;exact callK1 (θ := [_]) (hD := (markStringS_ok _ _ preC35 preC35 preC35));exact rfl;exact rfl;exact rfl;refine dM ?_)|(apply c4 0;exact callK1 (θ := []) (hD := (heldStringS_ok _ _ preC35 preC35 preC35));exact rfl;exact rfl;exact rfl;refine dM ?_)|refine o_no rfl rfl rfl rfl ?_|refine o_noN rfl rfl rfl ?_|(apply py3;exact rfl;exact rfl;(first|exact pu1|exact puL|exact puN|exact a_len_str rfl (fT rfl)|exact puC|exact a_ne rfl rfl|exact a_neS rfl rfl rfl);exact rfl;exact rfl)|(apply ny3;exact rfl;exact rfl;exact a_new (gb := .bx _) rfl;exact rfl;exact rfl)|(apply cy4 0;exact rfl;exact rfl;exact callK1 (θ := []) (hD := (szTag_ok _ _ preC35 preC35 preC35 preC35 preC35));exact rfl;exact rfl;exact rfl;exact rfl;refine dM ?_)|(apply cy4 2;exact rfl;exact rfl;exact callK1 (θ := []) (hD := (toTagN_ok _ preC35 preC35 preC35));exact rfl;exact rfl;exact rfl;exact rfl;refine dM ?_)|(apply cy4 1;exact rfl;exact rfl;exact callK1 (θ := []) (hD := (toInt64S_ok _ preC35));exact rfl;exact rfl;exact rfl;exact rfl;refine dM ?_)|(apply cy4 1;exact rfl;exact rfl;exact callK1 (θ := []) (hD := (sTurnTexts_ok _ _ _ preC35 preC35 preC35 preC35));exact rfl;exact rfl;exact rfl;exact rfl;refine dM ?_)|(apply cy4 1;exact rfl;exact rfl;exact callK1 (θ := []) (hD := (iTurnTexts_ok _ _ _ preC35 preC35 preC35 preC35));exact rfl;exact rfl;exact rfl;exact rfl;refine dM ?_)|(apply cy4 0;exact rfl;exact rfl;exact callK1 (θ := []) (hD := (eqStringS_ok _ _ preC35 preC35));exact rfl;exact rfl;exact rfl;exact rfl;refine dM ?_)|(apply cy4 0;exact rfl;exact rfl;exact callK1 (θ := []) (hD := (eqInt64S_ok _ _ preC35 preC35));exact rfl;exact rfl;exact rfl;exact rfl;refine dM ?_)|(apply cy4 0;exact rfl;exact rfl;exact callK1 (θ := [_,_]) (hD := (markTagN_ok _ _ preC35 preC35 preC35 preC35 preC35));exact rfl;exact rfl;exact rfl;exact rfl;refine dM ?_)|(apply cy4 0;exact rfl;exact rfl;exact callK1 (θ := [_]) (hD := (markInt64S_ok _ _ preC35 preC35 preC35));exact rfl;exact rfl;exact rfl;exact rfl;refine dM ?_)|(apply cy4 0;exact rfl;exact rfl;exact callK1 (θ := [_]) (hD := (markStringS_ok _ _ preC35 preC35 preC35));exact rfl;exact rfl;exact rfl;exact rfl;refine dM ?_)|(apply cy4 0;exact rfl;exact rfl;exact callK1 (θ := []) (hD := (heldStringS_ok _ _ preC35 preC35 preC35));exact rfl;exact rfl;exact rfl;exact rfl;refine dM ?_)|(apply g_drN (id := 13) okM [[],[],[1],[0,1,2],[0,1,2,3]] [([],[]),([],[]),([0,1],[]),([],[]),([],[])] 2;(focus (refine dp 0 0 [57,58] [(true,0),(true,1)] puL ?_;refine dp 1 0 [56] [] puL ?_;refine duN 2 1 [56] [] (callD1 (n := _) 0 (θ := []) (hD := (toTagN_ok _ preC35 preC35 preC35))) (by exact rfl) (by exact rfl) ?_;refine dp 3 7 [] [] (callD1 (n := _) 2 (θ := []) (hD := (eqTag_ok _ _ preC35 preC35 preC35 preC35 preC35 preC35))) ?_;refine dp 4 15 [] [] (a_pure (sv := .one _) rfl) ?_;(refine d_nil ?_;refine dN ?_)));any_goals kernel_rfl)|((first|refine o_gs rfl rfl (fun hc => ?_) (fun hc => ?_)|refine g_cond rfl (fun hc => ?_) (fun hc => ?_)) <;> (try simp only [dcB] at hc) <;> (try first|contradiction|(exfalso;omega)))
    repeat refine cr ?_
    refine ends_id ?_
    refine endK [] (h2 := ?_) (h3 := ?_) (nd := ?_)
    all_goals (repeat' first|exact ce0|refine ce ?_|refine ce2 ?_ ?_|exact SVLe.refl|refine ceb ?_)
    all_goals first | exact (show nodupB _ = true from rfl) | exact Or.inr rfl | (rfl)
  obtain ⟨k1,k2,k3⟩ := szG_ge (by omega) (by omega) ha
  have km : ¬ eqG t t = false := by simp [eqG]
  have kq : ¬ eqI q q = false := by simp [eqI]
  have ks : ¬ eqSs (tnO t q n).1 (tnO t q n).1 = false := by simp [eqSs]
  have kl := tnO_len t q n
  have kt := totW_bdd k2 k3
  clear g1 g2 g3
  refine does_of (k := 0) Tryd.func3 rfl Tryd.ntmps3 rfl rfl fun w F0 S0 ρ0 => ?_
  dsimp only [argT,argH]
  repeat' first|(apply n3;exact a_new (gb := .bx _) rfl;exact rfl;refine dA ?_)|(apply p3;(first|exact pu1|exact puL|exact puN|exact a_len_str rfl (fT rfl)|exact puC|exact a_ne rfl rfl|exact a_neS rfl rfl rfl);exact rfl)|refine cd ?_|(apply w3;exact a_st_bx rfl rfl rfl rfl (fN rfl rfl) (Nat.le_of_ble_eq_true rfl) rfl;exact rfl;refine dS ?_)|(apply c4 0;exact callK1 (θ := []) (hD := (szTag_ok _ _ preC35 preC35 preC35 preC35 preC35));exact rfl;exact rfl;exact rfl;refine dM ?_)|(apply c4 2;exact callK1 (θ := []) (hD := (toTagN_ok _ preC35 preC35 preC35));exact rfl;exact rfl;exact rfl;refine dM ?_)|(apply c4 1;exact callK1 (θ := []) (hD := (toInt64S_ok _ preC35));exact rfl;exact rfl;exact rfl;refine dM ?_)|(apply c4 1;exact callK1 (θ := []) (hD := (sTurnTexts_ok _ _ _ preC35 preC35 preC35 preC35));exact rfl;exact rfl;exact rfl;refine dM ?_)|(apply c4 1;exact callK1 (θ := []) (hD := (iTurnTexts_ok _ _ _ preC35 preC35 preC35 preC35));exact rfl;exact rfl;exact rfl;refine dM ?_)|(apply c4 0;exact callK1 (θ := []) (hD := (eqStringS_ok _ _ preC35 preC35));exact rfl;exact rfl;exact rfl;refine dM ?_)|(apply c4 0;exact callK1 (θ := []) (hD := (eqInt64S_ok _ _ preC35 preC35));exact rfl;exact rfl;exact rfl;refine dM ?_)|(apply c4 0;exact callK1 (θ := [_,_]) (hD := (markTagN_ok _ _ preC35 preC35 preC35 preC35 preC35));exact rfl;exact rfl;exact rfl;refine dM ?_)|(apply c4 0;exact callK1 (θ := [_]) (hD := (markInt64S_ok _ _ preC35 preC35 preC35));exact rfl;exact rfl;exact rfl;refine dM ?_)|(apply c4 0;exact callK1 (θ := [_]) (hD := (markStringS_ok _ _ preC35 preC35 preC35));exact rfl;exact rfl;exact rfl;refine dM ?_)|(apply c4 0;exact callK1 (θ := []) (hD := (heldStringS_ok (tnO t q n).1.length 1 (by omega) (by omega) (by omega)));exact rfl;exact rfl;exact rfl;refine dM ?_)|(apply c4 0;exact callK1 (θ := []) (hD := (heldStringS_ok (tnO t q n).1.length 1 (by omega) (by omega) (by omega)));exact rfl;exact rfl;exact rfl;refine dM ?_)|refine o_no rfl rfl rfl rfl ?_|refine o_noN rfl rfl rfl ?_|(apply py3;exact rfl;exact rfl;(first|exact pu1|exact puL|exact puN|exact a_len_str rfl (fT rfl)|exact puC|exact a_ne rfl rfl|exact a_neS rfl rfl rfl);exact rfl;exact rfl)|(apply ny3;exact rfl;exact rfl;exact a_new (gb := .bx _) rfl;exact rfl;exact rfl)|(apply cy4 0;exact rfl;exact rfl;exact callK1 (θ := []) (hD := (szTag_ok _ _ preC35 preC35 preC35 preC35 preC35));exact rfl;exact rfl;exact rfl;exact rfl;refine dM ?_)|(apply cy4 2;exact rfl;exact rfl;exact callK1 (θ := []) (hD := (toTagN_ok _ preC35 preC35 preC35));exact rfl;exact rfl;exact rfl;exact rfl;refine dM ?_)|(apply cy4 1;exact rfl;exact rfl;exact callK1 (θ := []) (hD := (toInt64S_ok _ preC35));exact rfl;exact rfl;exact rfl;exact rfl;refine dM ?_)|(apply cy4 1;exact rfl;exact rfl;exact callK1 (θ := []) (hD := (sTurnTexts_ok _ _ _ preC35 preC35 preC35 preC35));exact rfl;exact rfl;exact rfl;exact rfl;refine dM ?_)|(apply cy4 1;exact rfl;exact rfl;exact callK1 (θ := []) (hD := (iTurnTexts_ok _ _ _ preC35 preC35 preC35 preC35));exact rfl;exact rfl;exact rfl;exact rfl;refine dM ?_)|(apply cy4 0;exact rfl;exact rfl;exact callK1 (θ := []) (hD := (eqStringS_ok _ _ preC35 preC35));exact rfl;exact rfl;exact rfl;exact rfl;refine dM ?_)|(apply cy4 0;exact rfl;exact rfl;exact callK1 (θ := []) (hD := (eqInt64S_ok _ _ preC35 preC35));exact rfl;exact rfl;exact rfl;exact rfl;refine dM ?_)|(apply cy4 0;exact rfl;exact rfl;exact callK1 (θ := [_,_]) (hD := (markTagN_ok _ _ preC35 preC35 preC35 preC35 preC35));exact rfl;exact rfl;exact rfl;exact rfl;refine dM ?_)|(apply cy4 0;exact rfl;exact rfl;exact callK1 (θ := [_]) (hD := (markInt64S_ok _ _ preC35 preC35 preC35));exact rfl;exact rfl;exact rfl;exact rfl;refine dM ?_)|(apply cy4 0;exact rfl;exact rfl;exact callK1 (θ := [_]) (hD := (markStringS_ok _ _ preC35 preC35 preC35));exact rfl;exact rfl;exact rfl;exact rfl;refine dM ?_)|(apply cy4 0;exact rfl;exact rfl;exact callK1 (θ := []) (hD := (heldStringS_ok (tnO t q n).1.length 1 (by omega) (by omega) (by omega)));exact rfl;exact rfl;exact rfl;exact rfl;refine dM ?_)|(apply cy4 0;exact rfl;exact rfl;exact callK1 (θ := []) (hD := (heldStringS_ok (tnO t q n).1.length 1 (by omega) (by omega) (by omega)));exact rfl;exact rfl;exact rfl;exact rfl;refine dM ?_)|(apply g_drN (id := 13) okM [[],[],[1],[0,1,2],[0,1,2,3]] [([],[]),([],[]),([0,1],[]),([],[]),([],[])] 2;(focus (refine dp 0 0 [57,58] [(true,0),(true,1)] puL ?_;refine dp 1 0 [56] [] puL ?_;refine duN 2 1 [56] [] (callD1 (n := _) 0 (θ := []) (hD := (toTagN_ok _ preC35 preC35 preC35))) (by exact rfl) (by exact rfl) ?_;refine dp 3 7 [] [] (callD1 (n := _) 2 (θ := []) (hD := (eqTag_ok _ _ preC35 preC35 preC35 preC35 preC35 preC35))) ?_;refine dp 4 15 [] [] (a_pure (sv := .one _) rfl) ?_;(refine d_nil ?_;refine dN ?_)));any_goals kernel_rfl)|((first|refine o_gs rfl rfl (fun hc => ?_) (fun hc => ?_)|refine g_cond rfl (fun hc => ?_) (fun hc => ?_)) <;> (try simp only [dcB] at hc) <;> (try first|contradiction|(exfalso;omega)))
  repeat refine cr ?_
  refine ends_id ?_
  refine endK [] (h2 := ?_) (h3 := ?_) (nd := ?_)
  all_goals (repeat' first|exact ce0|refine ce ?_|refine ce2 ?_ ?_|exact SVLe.refl|refine ceb ?_)
  all_goals first | exact (show nodupB _ = true from rfl) | exact Or.inr rfl | (rfl)
set_option maxRecDepth 100000 in
set_option maxRecDepth 100000 in
theorem liftedFnExactTurnTexts (os : Os) (started : os.Started) (H : Type) (enc : TypeId × Value → H) : ReturnsInHanded {} Tryd.checked os 3 .any (fun w args => (Rows.fnExactTurnTextsSpec.pre enc Tryd.prog Tryd.f3 [] false w args ∧ laidMetH Tryd.prog Rows.fnExactTurnTextsRow.laid w) ∧ sizedMet enc Tryd.prog Tryd.f3 (OpenSpec.ofChange Rows.fnExactTurnTextsSpec) false w args) (Rows.fnExactTurnTextsSpec.post enc Tryd.prog Tryd.f3 false true false false) := by
  refine returnsInHanded_of_change_and (C := Tryd.checked) (X := fun w _ => laidMetH Tryd.prog Rows.fnExactTurnTextsRow.laid w) (fun _ _ _ hh h => h.of_heap hh) own started (by kernel_rfl) Tryd.func3 (ChangeSpec.witness_shaped (enc := enc) (C := Tryd.checked) (os := os) (X := fun w _ => laidMetH Tryd.prog Rows.fnExactTurnTextsRow.laid w) false (World.laidAll Tryd.prog os Rows.fnExactTurnTextsRow.laid) #[.agg #[.int .i64 0,.slice none 0 0,.slice none 0 0],.slice none 0 0,.int .i64 0] 12 rfl (World.shaped_of_ZipB (by kernel_rfl) (by kernel_rfl)) (by kernel_rfl) (by kernel_rfl) (by kernel_rfl) (door_met os _)) ?_
  intro W base args ds gs before hval0 hW hcnd _ hL _
  have hval : ∀ (j : Nat) t v,Tryd.f3.params[j]? = some t → args[j]? = some v → Value.okWide Tryd.prog W .any base t v := hval0
  have hW' := hW
  obtain ⟨p,q,hA0,hV,rfl,hfz,hnd⟩ := hW
  have hA : DataW.TrodAll enc Tryd.prog W 0 (fun _ => true) true Tryd.f3.params.toList args.toList ds p := hA0
  rw [Tryd.params3] at hA hval
  obtain ⟨v0,vs0,d0,ds0,p0,r0,hargs,rfl,rfl,h0,s0⟩ := trodAll_cons hA
  obtain ⟨v1,vs1,d1,ds1,p1,r1,rfl,rfl,rfl,h1,s1⟩ := trodAll_cons s0
  obtain ⟨v2,vs2,d2,ds2,p2,r2,rfl,rfl,rfl,h2,s2⟩ := trodAll_cons s1
  obtain ⟨rfl,rfl,rfl⟩ := trodAll_nil s2
  obtain rfl : args = #[v0,v1,v2] := by cases args; simp_all
  obtain ⟨rfl,rfl⟩ := trodVars_none hV
  have k0 := h0
  have k1 := h1
  have k2 := h2
  have lt0 : ∀ x ∈ p0,x.block < W.heap.size := by obtain ⟨m,hm⟩ := k0; exact DataW.trod_lt m _ _ _ hm
  have lt1 : ∀ x ∈ p1,x.block < W.heap.size := by obtain ⟨m,hm⟩ := k1; exact DataW.trod_lt m _ _ _ hm
  have lt2 : ∀ x ∈ p2,x.block < W.heap.size := by obtain ⟨m,hm⟩ := k2; exact DataW.trod_lt m _ _ _ hm
  obtain ⟨a0,e0,q0⟩ := arg_agg (ρ := fun _ => none) Tryd.underlying25 (hval 0 25 v0 rfl rfl) h0 opens_tag
  obtain ⟨_,_,_,rfl⟩ := okWide_slice Tryd.underlying23 (hval 1 23 v1 rfl rfl)
  obtain ⟨a1,e1,q1⟩ := arg_one (ρ := fun _ => none) rfl h1 opens_I
  obtain ⟨_,rfl⟩ := okWide_int Tryd.underlying2 (hval 2 2 v2 rfl rfl)
  obtain ⟨a2,e2,q2⟩ := arg_one (ρ := fun _ => none) rfl h2 opens_i
  clear hA0 hval0
  refine (does_calls (lawTurnTexts a0 a1 a2 q1.1 q0.2.2.1 q0.2.1.1 (fun x hx => (q0.2.1.2 x hx).1)) (tabs_met hL) ⟨_,_,rfl,e0,⟨_,_,rfl,e1,⟨_,_,rfl,e2,rfl⟩⟩⟩).mono fun e W' ⟨he,bel⟩ => ?_
  subst he
  exact ⟨_,rfl,_,_,_,[],_,[],hW',trodAll_mk1 (shut_bool Tryd.underlying4 _),(trodAll_cons_mk (Below.trod laidOut (by kernel_rfl) (of_decide_eq_true (by kernel_rfl)) k0 bel lt0) (trodAll_cons_mk (Below.trod laidOut (by kernel_rfl) (of_decide_eq_true (by kernel_rfl)) k1 bel lt1) (trodAll_cons_mk (Below.trod laidOut (by kernel_rfl) (of_decide_eq_true (by kernel_rfl)) k2 bel lt2) trodAll_mk0))),rfl,bel.frame _,fun h => by cases h⟩
theorem fact0FnExactTurnTexts : (Rows.fnExactTurnTextsRow.inPlace == Tryd.pinned.checked.prog.inPlace 3) = true := by kernel_rfl
theorem fact1FnExactTurnTexts : (Rows.fnExactTurnTextsRow.unfollowed == Tryd.pinned.checked.prog.unfollowed 3) = true := by kernel_rfl
theorem fact2FnExactTurnTexts : (Rows.fnExactTurnTextsRow.recurses == Tryd.pinned.checked.prog.recurses 3) = true := by kernel_rfl
theorem fact3FnExactTurnTexts : (Rows.fnExactTurnTextsRow.named == Tryd.pinned.checked.prog.varsNamed 3) = true := by kernel_rfl
theorem closedFnExactTurnTexts : joinedFacts Tryd.pinned.checked.prog 3 Tryd.f3 Rows.fnExactTurnTextsSpec Rows.fnExactTurnTextsRow = true := by
  unfold joinedFacts
  rw [fact0FnExactTurnTexts,fact1FnExactTurnTexts,fact2FnExactTurnTexts,fact3FnExactTurnTexts]
  kernel_rfl
theorem provedFnExactTurnTexts : Rows.FnExactTurnTextsSaid :=
  OpenClaim.holds_of_wide 3 Tryd.f3 rfl rfl rfl rfl rfl rfl rfl ⟨rfl,rfl,rfl,rfl,rfl⟩ rfl rfl rfl rfl rfl (by kernel_rfl) Tryd.func3 closedFnExactTurnTexts
    (of_decide_eq_true (by kernel_rfl)) (by unfold Func.isWrapper; first | (rw [if_pos (by decide +kernel)]; kernel_rfl) | (rw [if_neg (by decide +kernel)]; exact ⟨rfl,rfl⟩))
    (fun os started H enc _ => liftedFnExactTurnTexts os started H enc)
theorem card1FnExactTurnTexts : Rows.fnExactTurnTextsRow.wfByText (OpenSpec.ofChange Rows.fnExactTurnTextsSpec) = true := by kernel_rfl
theorem card2FnExactTurnTexts : Tryd.pinned.checked.prog.mainIs = some (Rows.fnExactTurnTextsCard.stood.harness.1,Rows.fnExactTurnTextsCard.stood.harness.2.toList) := by kernel_rfl
theorem card3FnExactTurnTexts : false = Tryd.pinned.checked.prog.looks [] := by kernel_rfl
theorem card4FnExactTurnTexts : false = Rows.fnExactTurnTextsRow.goesBy Tryd.pinned.checked.prog := by kernel_rfl
theorem card5FnExactTurnTexts : Tryd.prog.funcNamed "loop.example/g01079/laws.FnExactTurnTexts" = some 3 := by kernel_rfl
theorem card6FnExactTurnTexts : ([25,23,2].all fun u => !Tryd.prog.wantsStandIn u) = true := by kernel_rfl
theorem provedCardFnExactTurnTexts : Rows.FnExactTurnTextsCardSaid :=
  Claim7.holds_tied_plain_at .later [] [.data,.data,.data] true Rows.fnExactTurnTextsCard.stood.harness false provedFnExactTurnTexts (fun _ h => by cases h) card1FnExactTurnTexts (fun _ h => by cases h) fnExactTurnTexts_row_tie rfl ⟨rfl,rfl⟩ card2FnExactTurnTexts rfl
    (fun f fn hf hfn => by
      obtain rfl : f = 3 := Option.some.inj (card5FnExactTurnTexts.symm.trans hf) |>.symm
      obtain rfl : fn = Tryd.f3 := (Option.some.inj (Tryd.func3.symm.trans hfn)).symm
      exact ⟨card3FnExactTurnTexts,fun j t ht => by
        rw [Tryd.params3] at ht
        have hm : t ∈ [25,23,2] := by simpa using Array.mem_of_getElem? ht
        exact (show Tryd.prog.wantsStandIn t = false by simpa using List.all_eq_true.1 card6FnExactTurnTexts t hm)⟩)
    card4FnExactTurnTexts
end Go.Proofs.YtjmlbmmbionmcaaDoor
