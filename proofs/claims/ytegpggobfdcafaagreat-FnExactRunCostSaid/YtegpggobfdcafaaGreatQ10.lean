/- Parts of the proof (10 of 14). -/
import Derived.Test.YtegpggobfdcafaaGreatChecked
import Derived.Test.YtegpggobfdcafaaGreatQ9
section
set_option linter.unusedVariables false
set_option linter.unusedSimpArgs false
set_option maxRecDepth 100000
set_option maxHeartbeats 4000000
namespace Go.Proofs.YtegpggobfdcafaaGreat
open Go Foot
abbrev shI (l : List Int) : C := .d (.sl false 1 (rows eI l))
abbrev roI (l : List Int) : GB := .row 1 (rows eI l)
abbrev inB (x lo hi : Int) : Bool := decide (lo ≤ x ∧ x ≤ hi)
theorem l00In_ok (x lo hi : Int) : Does Tryz.prog 115 [.one (int x),.one (int lo),.one (int hi)] [] (.one (boo (inB x lo hi))) [] := by
  refine does_of (k := 0) Tryz.func115 rfl Tryz.ntmps115 rfl rfl fun w F0 S0 ρ0 => ?_
  dsimp only [argT,argH]
  repeat' first|(apply p3;(first|exact pu1|exact puC);exact rfl)|refine cd ?_|refine o_no rfl rfl rfl rfl ?_|(apply py3;exact rfl;exact rfl;(first|exact pu1|exact puC);exact rfl;exact rfl)|((refine o_gs rfl rfl (fun hc => ?_) (fun hc => ?_)) <;> (try simp only [dcB] at hc) <;> (try first|contradiction|(exfalso;omega)))|fail
  all_goals
    repeat refine cr ?_
    refine ends_id ?_
    refine endK [] (h2 := ?_) (h3 := ?_) (nd := ?_)
    all_goals (repeat' first|exact ce0|refine ce ?_|refine ce2 ?_ ?_|exact SVLe.refl|refine ceb ?_)
    all_goals first | exact (show nodupB _ = true from rfl) | exact Or.inr rfl | ((first | (symm; simp; omega) | simp [*]))
theorem within_ok (x lo hi : Int) : Does Tryz.prog 105 [.one (int x),.one (int lo),.one (int hi)] [] (.one (boo (inB x lo hi))) [] := by
  refine does_of (k := 0) Tryz.func105 rfl Tryz.ntmps105 rfl rfl fun w F0 S0 ρ0 => ?_
  dsimp only [argT,argH]
  repeat' first|(apply p3;(first|exact pu1|exact puC);exact rfl)|refine cd ?_|refine o_no rfl rfl rfl rfl ?_|(apply py3;exact rfl;exact rfl;(first|exact pu1|exact puC);exact rfl;exact rfl)|((refine o_gs rfl rfl (fun hc => ?_) (fun hc => ?_)) <;> (try simp only [dcB] at hc) <;> (try first|contradiction|(exfalso;omega)))|fail
  all_goals
    repeat refine cr ?_
    refine ends_id ?_
    refine endK [] (h2 := ?_) (h3 := ?_) (nd := ?_)
    all_goals (repeat' first|exact ce0|refine ce ?_|refine ce2 ?_ ?_|exact SVLe.refl|refine ceb ?_)
    all_goals first | exact (show nodupB _ = true from rfl) | exact Or.inr rfl | ((first | (symm; simp; omega) | simp [*]))
@[irreducible] def szL (n : Nat) (left : Int) : Int := if left - n < 0 then -1 else left - n
theorem szL_le {n : Nat} {l : Int} (h : l ≤ 1048576) : szL n l ≤ 1048576 := by unfold szL; split <;> omega
theorem szL_neg {n : Nat} {l : Int} (h : szL n l < 0) : szL n l = -1 := by unfold szL at *; split at h <;> simp_all
theorem szInt64S_ok (xs : List Int) (left : Int) (h1 : left ≤ 1048576) (h2 : 0 ≤ left) (hx : (xs.length : Int) ≤ 9223372036854775807) : Does Tryz.prog 31 [.one (shI xs),.one (int left)] [] (.one (int (szL xs.length left))) [] := by
  refine does_of (k := 0) Tryz.func31 rfl Tryz.ntmps31 rfl rfl fun w F0 S0 ρ0 => ?_
  dsimp only [argT,argH]
  repeat' first|(apply p3;(first|exact pu1|exact puN|exact a_sub rfl rfl (by omega) (by omega)|exact puC);exact rfl)|refine cd ?_|((refine g_cond rfl (fun hc => ?_) (fun hc => ?_)) <;> (try simp only [dcB] at hc) <;> (try first|contradiction|(exfalso;omega)))|fail
  all_goals
    repeat refine cr ?_
    refine ends_id ?_
    refine endK [] (h2 := ?_) (h3 := ?_) (nd := ?_)
    all_goals (repeat' first|exact ce0|refine ce ?_|refine ce2 ?_ ?_|exact SVLe.refl|refine ceb ?_)
    all_goals first | exact (show nodupB _ = true from rfl) | exact Or.inr rfl | ((unfold szL; simp [*]))
theorem toInt64S_ok (xs : List Int) (hx : (xs.length : Int) ≤ 1048576) : Does Tryz.prog 40 [.one (shI xs)] [] (.one (.gv 0)) [roI xs] := by
  refine does_of (k := 0) Tryz.func40 rfl Tryz.ntmps40 rfl rfl fun w F0 S0 ρ0 => ?_
  dsimp only [argT,argH]
  repeat' first|(apply n3;exact a_make (fE rfl) (fZ rfl) (fP rfl) (by decide) rfl rfl (by omega) rfl (by omega) (by omega) (rows_rep eI 0 _);exact rfl;refine dA ?_)|(apply p3;(first|exact pu1|exact puN);exact rfl)|refine cd ?_|fail
  refine g_loop_id ?_
  refine loopK [0,2,3] [0] (fun x : Int × List Int => 0 ≤ x.1 ∧ x.1 ≤ xs.length ∧ x.2.length = xs.length ∧ ∀ k (h : k < xs.length),k < x.1 → x.2[k]? = some xs[k]) (fun x => [(4,.one (int x.1))]) (fun x => [(0,roI x.2)]) (fun x => (xs.length - x.1).toNat) ((0 : Int),List.replicate xs.length (0 : Int)) [0] (hI := ?_) (hr := ?_)
  · exact ⟨by simp,by simp,by simp,by intro k h h'; simp at h'; omega⟩
  · rintro ⟨i,l⟩ ⟨h0,h1,h2,h3⟩
    dsimp only [List.cons_append,List.nil_append] at *
    skip
    repeat' first|(apply p3;(first|exact pu1|exact puN|exact puC|exact a_add rfl rfl (by omega) (by omega)|exact puI);exact rfl)|refine cd ?_|(apply w3;(exact a_st_rowI rfl rfl rfl rfl (fN rfl rfl) bnd);exact rfl;refine dS ?_)|((refine g_cond rfl (fun hc => ?_) (fun hc => ?_)) <;> (try simp only [dcB] at hc) <;> (try first|contradiction|(exfalso;omega)))|fail
    · refine q_again (i + 1,l.set i.toNat (xs[i.toNat]'(by omega))) [0] (by exact stk) ?_ ?_
      · refine ⟨by dsimp only; omega,by dsimp only; omega,by simp [h2],fun k h h' => ?_⟩
        dsimp only at h' ⊢
        rw [List.getElem?_set]
        split
        · rename_i e
          subst e
          rw [if_pos (by omega)]
        · exact h3 k h (by omega)
      · dsimp only; omega
    · have hl : l = xs := by
        apply List.ext_getElem?
        intro k
        by_cases hk : k < xs.length
        · rw [h3 k hk (by omega),List.getElem?_eq_getElem hk]
        · rw [List.getElem?_eq_none (by omega),List.getElem?_eq_none (by omega)]
      subst hl
      repeat refine cr ?_
      refine ends_id ?_
      refine endK [?_] (h2 := ?_) (h3 := ?_) (nd := ?_)
      rotate_left 1
      all_goals (repeat' first|exact ce0|refine ce ?_|refine ce2 ?_ ?_|exact SVLe.refl|refine ceb ?_)
      all_goals first | exact (show nodupB _ = true from rfl) | exact Or.inr rfl | (rfl)
@[irreducible] def eqI (a b : List Int) : Bool := decide (a = b)
theorem take_next {α : Type} {xs ys : List α} {i : Int} (h0 : 0 ≤ i) (hx : i.toNat < xs.length) (hy : i.toNat < ys.length) (h : xs.take i.toNat = ys.take i.toNat) (he : xs[i.toNat] = ys[i.toNat]) : xs.take (i + 1).toNat = ys.take (i + 1).toNat := by
  rw [show (i + 1).toNat = i.toNat + 1 by omega,List.take_succ_eq_append_getElem hx,List.take_succ_eq_append_getElem hy,h,he]
theorem take_end {α : Type} {xs ys : List α} {i : Int} (hx : ¬ i < xs.length) (hl : xs.length = ys.length) (h : xs.take i.toNat = ys.take i.toNat) : xs = ys := by
  rw [List.take_of_length_le (by omega),List.take_of_length_le (by omega)] at h
  exact h
theorem eqInt64S_ok (xs ys : List Int) (hx : (xs.length : Int) ≤ 1048576) (hy : (ys.length : Int) ≤ 1048576) : Does Tryz.prog 45 [.one (shI xs),.one (shI ys)] [] (.one (boo (eqI xs ys))) [] := by
  refine does_of (k := 0) Tryz.func45 rfl Tryz.ntmps45 rfl rfl fun w F0 S0 ρ0 => ?_
  dsimp only [argT,argH]
  repeat' first|(apply p3;(first|exact pu1|exact puN|exact a_ne rfl rfl);exact rfl)|refine cd ?_|((refine g_cond rfl (fun hc => ?_) (fun hc => ?_)) <;> (try simp only [dcB] at hc) <;> (try first|contradiction|(exfalso;omega)))|fail
  · repeat refine cr ?_
    refine ends_id ?_
    refine endK [] (h2 := ?_) (h3 := ?_) (nd := ?_)
    all_goals (repeat' first|exact ce0|refine ce ?_|refine ce2 ?_ ?_|exact SVLe.refl|refine ceb ?_)
    all_goals first | exact (show nodupB _ = true from rfl) | exact Or.inr rfl | ((symm; unfold eqI; rw [decide_eq_false_iff_not]; rintro rfl; omega))
  refine g_loop_id ?_
  refine loopK [0,1,4] [] (fun i : Int => 0 ≤ i ∧ i ≤ xs.length ∧ xs.take i.toNat = ys.take i.toNat) (fun i => [(5,.one (int i))]) (fun _ => []) (fun i => (xs.length - i).toNat) (0 : Int) [] (hI := ?_) (hr := ?_)
  · exact ⟨by simp,by simp,by simp⟩
  · rintro i ⟨h0,h1,h2⟩
    dsimp only [List.cons_append,List.nil_append] at *
    skip
    repeat' first|(apply p3;(first|exact pu1|exact puN|exact puC|exact a_add rfl rfl (by omega) (by omega));exact rfl)|refine cd ?_|(apply g_drN (id := 6) okM [[],[],[0,1],[0,1,2],[],[],[4,5],[4,5,6],[0,1,2,3,4,5,6,7]] [([],[]),([],[]),([],[]),([],[]),([],[]),([],[]),([],[]),([],[]),([],[])] 0;(focus (refine dp 0 0 [18,21,22,23,24] [] pu1 ?_;refine dp 1 0 [17,21,22,23,24] [] pu1 ?_;refine dp 2 3 [21,22,23,24] [] puI ?_;refine dp 3 7 [21,22,23,24] [] puL ?_;refine dp 4 0 [17,18,19,20,22] [] pu1 ?_;refine dp 5 0 [17,18,19,20,21] [] pu1 ?_;refine dp 6 3 [17,18,19,20] [] puI ?_;refine dp 7 7 [17,18,19,20] [] puL ?_;refine dp 8 255 [] [] (by exact a_ne rfl rfl) ?_;(refine d_nil ?_;refine dN ?_)));any_goals kernel_rfl)|((refine g_cond rfl (fun hc => ?_) (fun hc => ?_)) <;> (try simp only [dcB] at hc) <;> (try first|contradiction|(exfalso;omega)))|fail
    · repeat refine cr ?_
      refine ends_id ?_
      refine endK [] (h2 := ?_) (h3 := ?_) (nd := ?_)
      all_goals (repeat' first|exact ce0|refine ce ?_|refine ce2 ?_ ?_|exact SVLe.refl|refine ceb ?_)
      all_goals first | exact (show nodupB _ = true from rfl) | exact Or.inr rfl | ((symm; unfold eqI; rw [decide_eq_false_iff_not]; rintro rfl; simp_all))
    · refine q_again (i + 1) [] (by exact stk) ?_ ?_
      · exact ⟨by omega,by omega,take_next h0 (by omega) (by omega) h2 (by simp_all)⟩
      · omega
    · have hl := take_end (by omega) (by omega) h2
      repeat refine cr ?_
      refine ends_id ?_
      refine endK [] (h2 := ?_) (h3 := ?_) (nd := ?_)
      all_goals (repeat' first|exact ce0|refine ce ?_|refine ce2 ?_ ?_|exact SVLe.refl|refine ceb ?_)
      all_goals first | exact (show nodupB _ = true from rfl) | exact Or.inr rfl | ((symm; unfold eqI; rw [decide_eq_true_eq]; exact hl))
end Go.Proofs.YtegpggobfdcafaaGreat
end
section
set_option linter.unusedVariables false
set_option linter.unusedSimpArgs false
set_option maxRecDepth 100000
set_option maxHeartbeats 4000000
namespace Go.Proofs.YtegpggobfdcafaaGreat
open Go Foot
structure Rule' where
  w : Int
  m : Int
  n : Int
  deriving DecidableEq
abbrev eR : Enc Rule' := ⟨3,fun r => [.sc (.int .i64 r.w),.sc (.int .i64 r.m),.sc (.int .i64 r.n)],fun _ => rfl,by decide⟩
abbrev shR (l : List Rule') : C := .d (.sl false 3 (rows eR l))
abbrev ruC (r : Rule') : List C := [int r.w,int r.m,int r.n]
structure Mach where
  sy : Int
  st : Int
  ru : List Rule'
abbrev maC (m : Mach) : List C := [int m.sy,int m.st,shR m.ru]
structure Conf where
  st : Int
  le : List Int
  ri : List Int
abbrev coC (c : Conf) : List C := [int c.st,shI c.le,shI c.ri]
theorem preA2 {p : Prop} (h : p := by first | with_reducible assumption | omega | (simp only [List.length_append,List.length_cons,List.length_nil,List.length_set,List.length_replicate,List.length_take,List.length_drop,List.length_tail,List.length_dropLast,List.length_reverse] at *; omega) | trivial) : p := h
theorem szRuleS_ok (xs : List Rule') (left : Int) (h1 : left ≤ 1048576) (h2 : 0 ≤ left) (hx : (xs.length : Int) ≤ 9223372036854775807) : Does Tryz.prog 30 [.one (shR xs),.one (int left)] [] (.one (int (szL xs.length left))) [] := by
  refine does_of (k := 0) Tryz.func30 rfl Tryz.ntmps30 rfl rfl fun w F0 S0 ρ0 => ?_
  dsimp only [argT,argH]
  repeat' first|(apply p3;(first|exact pu1|exact puN|exact a_sub rfl rfl (by omega) (by omega)|exact puC);exact rfl)|refine cd ?_|((refine g_cond rfl (fun hc => ?_) (fun hc => ?_)) <;> (try simp only [dcB] at hc) <;> (try first|contradiction|(exfalso;omega)))|fail
  all_goals
    repeat refine cr ?_
    refine ends_id ?_
    refine endK [] (h2 := ?_) (h3 := ?_) (nd := ?_)
    all_goals (repeat' first|exact ce0|refine ce ?_|refine ce2 ?_ ?_|exact SVLe.refl|refine ceb ?_)
    all_goals first | exact (show nodupB _ = true from rfl) | exact Or.inr rfl | ((unfold szL; simp [*]))
theorem szMachine_ok (m : Mach) (left : Int) (h1 : left ≤ 1048576) (h2 : 0 ≤ left) (hx : (m.ru.length : Int) ≤ 9223372036854775807) : Does Tryz.prog 7 [.agg (maC m),.one (int left)] [] (.one (int (szL m.ru.length left))) [] := by
  refine does_of (k := 0) Tryz.func7 rfl Tryz.ntmps7 rfl rfl fun w F0 S0 ρ0 => ?_
  dsimp only [argT,argH]
  repeat' first|(apply n3;exact a_new (gb := .bx _) rfl;exact rfl;refine dA ?_)|(apply p3;(first|exact pu1|exact puC);exact rfl)|refine cd ?_|(apply c4 0;exact callK1 (θ := []) (hD := (szRuleS_ok _ _ preA2 preA2 preA2));exact rfl;exact rfl;exact rfl;refine dM ?_)|((refine g_cond rfl (fun hc => ?_) (fun hc => ?_)) <;> (try simp only [dcB] at hc) <;> (try first|contradiction|(exfalso;omega)))|fail
  · repeat refine cr ?_
    refine ends_id ?_
    refine endK [] (h2 := ?_) (h3 := ?_) (nd := ?_)
    all_goals (repeat' first|exact ce0|refine ce ?_|refine ce2 ?_ ?_|exact SVLe.refl|refine ceb ?_)
    all_goals first | exact (show nodupB _ = true from rfl) | exact Or.inr rfl | (((unfold szL at *; split at hc <;> simp_all <;> omega)))
  · repeat refine cr ?_
    refine ends_id ?_
    refine endK [] (h2 := ?_) (h3 := ?_) (nd := ?_)
    all_goals (repeat' first|exact ce0|refine ce ?_|refine ce2 ?_ ?_|exact SVLe.refl|refine ceb ?_)
    all_goals first | exact (show nodupB _ = true from rfl) | exact Or.inr rfl | (rfl)
theorem toRule_ok (r : Rule') : Does Tryz.prog 94 [.agg (ruC r)] [] (.agg (ruC r)) [] := by
  refine does_of (k := 0) Tryz.func94 rfl Tryz.ntmps94 rfl rfl fun w F0 S0 ρ0 => ?_
  dsimp only [argT,argH]
  repeat' first|(apply n3;exact a_new (gb := .bx _) rfl;exact rfl;refine dA ?_)|(apply p3;exact puL;exact rfl)|refine cd ?_|(apply w3;(exact a_st_bx rfl rfl rfl rfl (fN rfl rfl) (Nat.le_of_ble_eq_true rfl) rfl);exact rfl;refine dS ?_)|fail
  repeat refine cr ?_
  refine ends_id ?_
  refine endK [] (h2 := ?_) (h3 := ?_) (nd := ?_)
  all_goals (repeat' first|exact ce0|refine ce ?_|refine ce2 ?_ ?_|exact SVLe.refl|refine ceb ?_)
  all_goals first | exact (show nodupB _ = true from rfl) | exact Or.inr rfl | (rfl)
theorem toRuleS_ok (xs : List Rule') (hx : (xs.length : Int) ≤ 1048576) : Does Tryz.prog 39 [.one (shR xs)] [] (.one (.gv 0)) [.row 3 (rows eR xs)] := by
  refine does_of (k := 0) Tryz.func39 rfl Tryz.ntmps39 rfl rfl fun w F0 S0 ρ0 => ?_
  dsimp only [argT,argH]
  repeat' first|(apply n3;exact a_make (fE rfl) (fZ rfl) (fP rfl) (by decide) rfl rfl (by omega) rfl (by omega) (by omega) (rows_rep eR ⟨0,0,0⟩ _);exact rfl;refine dA ?_)|(apply p3;(first|exact pu1|exact puN);exact rfl)|refine cd ?_|fail
  refine g_loop_id ?_
  refine loopK [0,2,3] [0] (fun x : Int × List Rule' => 0 ≤ x.1 ∧ x.1 ≤ xs.length ∧ x.2.length = xs.length ∧ ∀ k (h : k < xs.length),k < x.1 → x.2[k]? = some xs[k]) (fun x => [(4,.one (int x.1))]) (fun x => [(0,.row 3 (rows eR x.2))]) (fun x => (xs.length - x.1).toNat) ((0 : Int),List.replicate xs.length (⟨0,0,0⟩ : Rule')) [0] (hI := ?_) (hr := ?_)
  · exact ⟨by simp,by simp,by simp,by intro k h h'; simp at h'; omega⟩
  · rintro ⟨i,l⟩ ⟨h0,h1,h2,h3⟩
    dsimp only [List.cons_append,List.nil_append] at *
    skip
    repeat' first|(apply p3;(first|exact pu1|exact puN|exact puC|exact a_add rfl rfl (by omega) (by omega)|exact puI);exact rfl)|refine cd ?_|(apply w3;(exact a_stE (E := eR) ⟨_,_,_⟩ rfl rfl rfl rfl (fN rfl rfl) bnd (by exact rfl));exact rfl;refine dS ?_)|(apply c4 0;exact callK1 (θ := []) (hD := (toRule_ok _));exact rfl;exact rfl;exact rfl;refine dM ?_)|((refine g_cond rfl (fun hc => ?_) (fun hc => ?_)) <;> (try simp only [dcB] at hc) <;> (try first|contradiction|(exfalso;omega)))|fail
    · refine q_again (i + 1,_) [0] (by exact stk) ?_ ?_
      · refine ⟨by dsimp only; omega,by dsimp only; omega,by simp [h2],fun k h h' => ?_⟩
        dsimp only at h' ⊢
        rw [List.getElem?_set]
        split
        · rename_i e
          subst e
          rw [if_pos (by omega)]
          rfl
        · exact h3 k h (by omega)
      · dsimp only; omega
    · have hl : l = xs := by
        apply List.ext_getElem?
        intro k
        by_cases hk : k < xs.length
        · rw [h3 k hk (by omega),List.getElem?_eq_getElem hk]
        · rw [List.getElem?_eq_none (by omega),List.getElem?_eq_none (by omega)]
      subst hl
      repeat refine cr ?_
      refine ends_id ?_
      refine endK [?_] (h2 := ?_) (h3 := ?_) (nd := ?_)
      rotate_left 1
      all_goals (repeat' first|exact ce0|refine ce ?_|refine ce2 ?_ ?_|(refine Or.inr (bx_eq rfl rfl ?_);(try dsimp only [C.ren,C.ren.all]);(try exact rfl))|exact SVLe.refl|refine ceb ?_)
      all_goals first | exact (show nodupB _ = true from rfl) | exact Or.inr rfl | (rfl)
abbrev maO (m : Mach) (g : Nat) : List C := [int m.sy,int m.st,.gv g]
theorem toMachine_ok (m : Mach) (hx : (m.ru.length : Int) ≤ 1048576) : Does Tryz.prog 10 [.agg (maC m)] [] (.agg (maO m 0)) [.row 3 (rows eR m.ru)] := by
  refine does_of (k := 0) Tryz.func10 rfl Tryz.ntmps10 rfl rfl fun w F0 S0 ρ0 => ?_
  dsimp only [argT,argH]
  repeat' first|(apply n3;exact a_new (gb := .bx _) rfl;exact rfl;refine dA ?_)|(apply p3;exact puL;exact rfl)|refine cd ?_|(apply w3;(exact a_st_bx rfl rfl rfl rfl (fN rfl rfl) (Nat.le_of_ble_eq_true rfl) rfl);exact rfl;refine dS ?_)|(apply c4 1;exact callK1 (θ := []) (hD := (toRuleS_ok _ preA2));exact rfl;exact rfl;exact rfl;refine dM ?_)|fail
  repeat refine cr ?_
  refine ends_id ?_
  refine endK [?_] (h2 := ?_) (h3 := ?_) (nd := ?_)
  rotate_left 1
  all_goals (repeat' first|exact ce0|refine ce ?_|refine ce2 ?_ ?_|(refine Or.inr (bx_eq rfl rfl ?_);(try dsimp only [C.ren,C.ren.all]);(try exact rfl))|exact SVLe.refl|refine ceb ?_)
  all_goals first | exact (show nodupB _ = true from rfl) | exact Or.inr rfl | (rfl)
abbrev coO (c : Conf) (g h : Nat) : List C := [int c.st,.gv g,.gv h]
theorem toConfig_ok (c : Conf) (h1 : (c.le.length : Int) ≤ 1048576) (h2 : (c.ri.length : Int) ≤ 1048576) : Does Tryz.prog 11 [.agg (coC c)] [] (.agg (coO c 0 1)) [.row 1 (rows eI c.le),.row 1 (rows eI c.ri)] := by
  refine does_of (k := 0) Tryz.func11 rfl Tryz.ntmps11 rfl rfl fun w F0 S0 ρ0 => ?_
  dsimp only [argT,argH]
  repeat' first|(apply n3;exact a_new (gb := .bx _) rfl;exact rfl;refine dA ?_)|(apply p3;exact puL;exact rfl)|refine cd ?_|(apply w3;(exact a_st_bx rfl rfl rfl rfl (fN rfl rfl) (Nat.le_of_ble_eq_true rfl) rfl);exact rfl;refine dS ?_)|(apply c4 1;exact callK1 (θ := []) (hD := (toInt64S_ok _ preA2));exact rfl;exact rfl;exact rfl;refine dM ?_)|fail
  repeat refine cr ?_
  refine ends_id ?_
  refine endK [?_,?_] (h2 := ?_) (h3 := ?_) (nd := ?_)
  rotate_left 2
  all_goals (repeat' first|exact ce0|refine ce ?_|refine ce2 ?_ ?_|(refine Or.inr (bx_eq rfl rfl ?_);(try dsimp only [C.ren,C.ren.all]);(try exact rfl))|exact SVLe.refl|refine ceb ?_)
  all_goals first | exact (show nodupB _ = true from rfl) | exact Or.inr rfl | (rfl)
@[irreducible] def szC (c : Conf) (left : Int) : Int := if szL c.le.length left < 0 then -1 else szL c.ri.length (szL c.le.length left)
theorem szConfig_ok (c : Conf) (left : Int) (h1 : left ≤ 1048576) (h2 : 0 ≤ left) (hx : (c.le.length : Int) ≤ 9223372036854775807) (hy : (c.ri.length : Int) ≤ 9223372036854775807) : Does Tryz.prog 8 [.agg (coC c),.one (int left)] [] (.one (int (szC c left))) [] := by
  have h3 := szL_le (n := c.le.length) h1
  refine does_of (k := 0) Tryz.func8 rfl Tryz.ntmps8 rfl rfl fun w F0 S0 ρ0 => ?_
  dsimp only [argT,argH]
  repeat' first|(apply n3;exact a_new (gb := .bx _) rfl;exact rfl;refine dA ?_)|(apply p3;(first|exact pu1|exact puC);exact rfl)|refine cd ?_|(apply c4 0;exact callK1 (θ := []) (hD := (szInt64S_ok _ _ preA2 preA2 preA2));exact rfl;exact rfl;exact rfl;refine dM ?_)|((refine g_cond rfl (fun hc => ?_) (fun hc => ?_)) <;> (try simp only [dcB] at hc) <;> (try first|contradiction|(exfalso;omega)))|fail
  · repeat refine cr ?_
    refine ends_id ?_
    refine endK [] (h2 := ?_) (h3 := ?_) (nd := ?_)
    all_goals (repeat' first|exact ce0|refine ce ?_|refine ce2 ?_ ?_|exact SVLe.refl|refine ceb ?_)
    all_goals first | exact (show nodupB _ = true from rfl) | exact Or.inr rfl | ((unfold szC; simp [*]))
  · repeat refine cr ?_
    refine ends_id ?_
    refine endK [] (h2 := ?_) (h3 := ?_) (nd := ?_)
    all_goals (repeat' first|exact ce0|refine ce ?_|refine ce2 ?_ ?_|exact SVLe.refl|refine ceb ?_)
    all_goals first | exact (show nodupB _ = true from rfl) | exact Or.inr rfl | ((rw [szC,if_neg (by assumption)]; exact (szL_neg (by assumption)).symm))
  · repeat refine cr ?_
    refine ends_id ?_
    refine endK [] (h2 := ?_) (h3 := ?_) (nd := ?_)
    all_goals (repeat' first|exact ce0|refine ce ?_|refine ce2 ?_ ?_|exact SVLe.refl|refine ceb ?_)
    all_goals first | exact (show nodupB _ = true from rfl) | exact Or.inr rfl | ((unfold szC; simp [*]))
@[irreducible] def eqR (a b : Rule') : Bool := decide (a = b)
theorem eqRule_ok (a b : Rule') : Does Tryz.prog 101 [.agg (ruC a),.agg (ruC b)] [] (.one (boo (eqR a b))) [] := by
  obtain ⟨a1,a2,a3⟩ := a
  obtain ⟨b1,b2,b3⟩ := b
  refine does_of (k := 0) Tryz.func101 rfl Tryz.ntmps101 rfl rfl fun w F0 S0 ρ0 => ?_
  dsimp only [argT,argH]
  repeat' first|(apply n3;exact a_new (gb := .bx _) rfl;exact rfl;refine dA ?_)|(apply p3;(first|exact a_ne rfl rfl|exact puL);exact rfl)|refine cd ?_|((refine g_cond rfl (fun hc => ?_) (fun hc => ?_)) <;> (try simp only [dcB] at hc) <;> (try first|contradiction|(exfalso;omega)))|fail
  all_goals
    repeat refine cr ?_
    refine ends_id ?_
    refine endK [] (h2 := ?_) (h3 := ?_) (nd := ?_)
    all_goals (repeat' first|exact ce0|refine ce ?_|refine ce2 ?_ ?_|exact SVLe.refl|refine ceb ?_)
    all_goals first | exact (show nodupB _ = true from rfl) | exact Or.inr rfl | ((unfold eqR; symm; simp [*]))
@[irreducible] def eqRs (a b : List Rule') : Bool := decide (a = b)
theorem eqRuleS_ok (xs ys : List Rule') (hx : (xs.length : Int) ≤ 1048576) (hy : (ys.length : Int) ≤ 1048576) : Does Tryz.prog 44 [.one (shR xs),.one (shR ys)] [] (.one (boo (eqRs xs ys))) [] := by
  refine does_of (k := 0) Tryz.func44 rfl Tryz.ntmps44 rfl rfl fun w F0 S0 ρ0 => ?_
  dsimp only [argT,argH]
  repeat' first|(apply p3;(first|exact pu1|exact puN|exact a_ne rfl rfl);exact rfl)|refine cd ?_|((refine g_cond rfl (fun hc => ?_) (fun hc => ?_)) <;> (try simp only [dcB] at hc) <;> (try first|contradiction|(exfalso;omega)))|fail
  · repeat refine cr ?_
    refine ends_id ?_
    refine endK [] (h2 := ?_) (h3 := ?_) (nd := ?_)
    all_goals (repeat' first|exact ce0|refine ce ?_|refine ce2 ?_ ?_|exact SVLe.refl|refine ceb ?_)
    all_goals first | exact (show nodupB _ = true from rfl) | exact Or.inr rfl | ((symm; unfold eqRs; rw [decide_eq_false_iff_not]; rintro rfl; omega))
  refine g_loop_id ?_
  refine loopK [0,1,4] [] (fun i : Int => 0 ≤ i ∧ i ≤ xs.length ∧ xs.take i.toNat = ys.take i.toNat) (fun i => [(5,.one (int i))]) (fun _ => []) (fun i => (xs.length - i).toNat) (0 : Int) [] (hI := ?_) (hr := ?_)
  · exact ⟨by simp,by simp,by simp⟩
  · rintro i ⟨h0,h1,h2⟩
    dsimp only [List.cons_append,List.nil_append] at *
    skip
    repeat' first|(apply p3;(first|exact pu1|exact puN|exact puC|exact a_add rfl rfl (by omega) (by omega));exact rfl)|refine cd ?_|(apply g_drN (id := 6) okM [[],[],[0,1],[0,1,2],[],[],[4,5],[4,5,6],[0,1,2,3,4,5,6,7],[0,1,2,3,4,5,6,7,8]] [([],[]),([],[]),([],[]),([],[]),([],[]),([],[]),([],[]),([],[]),([],[]),([],[])] 0;(focus (refine dp 0 0 [18,21,22,23,24] [] pu1 ?_;refine dp 1 0 [17,21,22,23,24] [] pu1 ?_;refine dp 2 3 [21,22,23,24] [] puI ?_;refine dp 3 7 [21,22,23,24] [] puL ?_;refine dp 4 0 [17,18,19,20,22] [] pu1 ?_;refine dp 5 0 [17,18,19,20,21] [] pu1 ?_;refine dp 6 3 [17,18,19,20] [] puI ?_;refine dp 7 7 [17,18,19,20] [] puL ?_;refine dp 8 255 [] [] (callD1 (n := _) 0 (θ := []) (hD := (eqRule_ok _ _))) ?_;refine dp 9 511 [] [] (a_pure (sv := .one _) rfl) ?_;(refine d_nil ?_;refine dN ?_)));any_goals kernel_rfl)|((refine g_cond rfl (fun hc => ?_) (fun hc => ?_)) <;> (try simp only [dcB] at hc) <;> (try first|contradiction|(exfalso;omega)))|fail
    · repeat refine cr ?_
      refine ends_id ?_
      refine endK [] (h2 := ?_) (h3 := ?_) (nd := ?_)
      all_goals (repeat' first|exact ce0|refine ce ?_|refine ce2 ?_ ?_|exact SVLe.refl|refine ceb ?_)
      all_goals first | exact (show nodupB _ = true from rfl) | exact Or.inr rfl | ((symm; unfold eqRs; rw [decide_eq_false_iff_not]; rintro rfl; unfold eqR at *; simp_all))
    · refine q_again (i + 1) [] (by exact stk) ?_ ?_
      · exact ⟨by omega,by omega,take_next h0 (by omega) (by omega) h2 (by unfold eqR at *; simp_all)⟩
      · omega
    · have hl := take_end (by omega) (by omega) h2
      repeat refine cr ?_
      refine ends_id ?_
      refine endK [] (h2 := ?_) (h3 := ?_) (nd := ?_)
      all_goals (repeat' first|exact ce0|refine ce ?_|refine ce2 ?_ ?_|exact SVLe.refl|refine ceb ?_)
      all_goals first | exact (show nodupB _ = true from rfl) | exact Or.inr rfl | ((symm; unfold eqRs; rw [decide_eq_true_eq]; exact hl))
@[irreducible] def eqM (a b : Mach) : Bool := decide (a.sy = b.sy ∧ a.st = b.st ∧ a.ru = b.ru)
theorem eqMachine_ok (a b : Mach) (ha : (a.ru.length : Int) ≤ 1048576) (hb : (b.ru.length : Int) ≤ 1048576) : Does Tryz.prog 13 [.agg (maC a),.agg (maC b)] [] (.one (boo (eqM a b))) [] := by
  refine does_of (k := 0) Tryz.func13 rfl Tryz.ntmps13 rfl rfl fun w F0 S0 ρ0 => ?_
  dsimp only [argT,argH]
  repeat' first|(apply n3;exact a_new (gb := .bx _) rfl;exact rfl;refine dA ?_)|(apply p3;(first|exact a_ne rfl rfl|exact puL);exact rfl)|refine cd ?_|(apply c4 0;exact callK1 (θ := []) (hD := (eqRuleS_ok _ _ preA2 preA2));exact rfl;exact rfl;exact rfl;refine dM ?_)|((refine g_cond rfl (fun hc => ?_) (fun hc => ?_)) <;> (try simp only [dcB] at hc) <;> (try first|contradiction|(exfalso;omega)))|fail
  all_goals
    repeat refine cr ?_
    refine ends_id ?_
    refine endK [] (h2 := ?_) (h3 := ?_) (nd := ?_)
    all_goals (repeat' first|exact ce0|refine ce ?_|refine ce2 ?_ ?_|exact SVLe.refl|refine ceb ?_)
    all_goals first | exact (show nodupB _ = true from rfl) | exact Or.inr rfl | ((symm; unfold eqM; (try unfold eqRs at *); simp_all))
@[irreducible] def eqC (a b : Conf) : Bool := decide (a.st = b.st ∧ a.le = b.le ∧ a.ri = b.ri)
theorem eqConfig_ok (a b : Conf) (h1 : (a.le.length : Int) ≤ 1048576) (h2 : (b.le.length : Int) ≤ 1048576) (h3 : (a.ri.length : Int) ≤ 1048576) (h4 : (b.ri.length : Int) ≤ 1048576) : Does Tryz.prog 14 [.agg (coC a),.agg (coC b)] [] (.one (boo (eqC a b))) [] := by
  refine does_of (k := 0) Tryz.func14 rfl Tryz.ntmps14 rfl rfl fun w F0 S0 ρ0 => ?_
  dsimp only [argT,argH]
  repeat' first|(apply n3;exact a_new (gb := .bx _) rfl;exact rfl;refine dA ?_)|(apply p3;(first|exact a_ne rfl rfl|exact puL);exact rfl)|refine cd ?_|(apply c4 0;exact callK1 (θ := []) (hD := (eqInt64S_ok _ _ preA2 preA2));exact rfl;exact rfl;exact rfl;refine dM ?_)|((refine g_cond rfl (fun hc => ?_) (fun hc => ?_)) <;> (try simp only [dcB] at hc) <;> (try first|contradiction|(exfalso;omega)))|fail
  all_goals
    repeat refine cr ?_
    refine ends_id ?_
    refine endK [] (h2 := ?_) (h3 := ?_) (nd := ?_)
    all_goals (repeat' first|exact ce0|refine ce ?_|refine ce2 ?_ ?_|exact SVLe.refl|refine ceb ?_)
    all_goals first | exact (show nodupB _ = true from rfl) | exact Or.inr rfl | ((symm; unfold eqC; (try unfold eqI at *); simp_all))
end Go.Proofs.YtegpggobfdcafaaGreat
end
section
set_option linter.unusedVariables false
set_option linter.unusedSimpArgs false
set_option maxRecDepth 100000
namespace Go.Proofs.YtegpggobfdcafaaGreat
open Go Foot
def C.frz (H : List GB) : C → C
  | .d x => .d x
  | .gv j => match H[j]? with | some (.row z xs) => .d (.sl false z xs) | _ => .d .junk
  | .gp _ _ => .d .junk
  | .gs _ _ _ _ => .d .junk
  | .ifc t ag cs => .ifc t ag (all cs)
  | .fn k cs => .fn k (all cs)
where
  all : List C → List C
  | [] => []
  | c :: cs => c.frz H :: all cs
def tFrz (H : List GB) : List (Bool × List C) → List (Bool × List C)
  | [] => []
  | (ag,cs) :: l => (ag,C.frz.all H cs) :: tFrz H l
def SV.frz (H : List GB) : SV → SV
  | .one c => .one (c.frz H)
  | .agg cs => .agg (C.frz.all H cs)
  | .tup l => .tup (tFrz H l)
  | .any => .any
def GB.rowNo : GB → Prop
  | .row _ xs => D.noOwn.all xs
  | .dead => True
  | _ => False
def rowsNo : List GB → Prop
  | [] => True
  | gb :: l => gb.rowNo ∧ rowsNo l
theorem rowsNo_get : ∀ {H : List GB} {i : Nat} {gb : GB},rowsNo H → H[i]? = some gb → gb.rowNo
  | [],i,gb,_,h => by simp at h
  | g0 :: l,0,gb,h,hi => by simp at hi; subst hi; exact h.1
  | g0 :: l,i + 1,gb,h,hi => rowsNo_get h.2 (by simpa using hi)
section
variable {w : World} {S S' : Foot} {ρ ρ' : Env} {N : Nat} {H : List GB}
structure Frz (w : World) (S S' : Foot) (ρ ρ' : Env) (N : Nat) (H : List GB) : Prop where
  le : Foot.le S S'
  row : ∀ j z xs v,H[j]? = some (.row z xs) → ρ (N + j) = some v → Rep w S' (.sl false z xs) v no
mutual
theorem RepC.frz (hF : Frz w S S' ρ ρ' N H) : ∀ {c : C} {v : Value},RepC w S ρ (c.ren (calF [] N)) v → RepC w S' ρ' (c.frz H) v
  | .d x,v,h => Rep.keep h Agree.no (Agree.refl _ _) hF.le (le_refl _)
  | .gv j,v,h => by
    have h1 : RepC w S ρ (.gv (N + j)) v := h
    unfold C.frz
    split
    · rename_i z xs e
      exact hF.row j z xs v e h1.1
    · exact h1.2
  | .gp j o,v,h => RepC.one (c := .gp (calF [] N j) o) h
  | .gs j z lo hi,v,h => RepC.one (c := .gs (calF [] N j) z lo hi) h
  | .ifc t ag cs,v,h => by
    simp only [C.ren,RepC] at h
    simp only [C.frz,RepC]
    obtain ⟨u,rfl,h⟩ := h
    refine ⟨u,rfl,?_⟩
    cases ag with
    | true => simp only [if_true] at h ⊢; obtain ⟨vs,rfl,h⟩ := h; exact ⟨vs,rfl,RepCs.frz hF h⟩
    | false => simp only [Bool.false_eq_true,if_false] at h ⊢; exact RepCs.frz hF h
  | .fn k cs,v,h => by
    simp only [C.ren,RepC] at h
    simp only [C.frz,RepC]
    obtain ⟨vs,rfl,h⟩ := h
    exact ⟨vs,rfl,RepCs.frz hF h⟩
theorem RepCs.frz (hF : Frz w S S' ρ ρ' N H) : ∀ {cs : List C} {vs : List Value},RepCs w S ρ (C.ren.all (calF [] N) cs) vs → RepCs w S' ρ' (C.frz.all H cs) vs
  | [],vs,h => h
  | c :: cs,vs,h => by
    simp only [C.ren.all,RepCs] at h
    simp only [C.frz.all,RepCs]
    obtain ⟨v,us,rfl,h1,h2⟩ := h
    exact ⟨v,us,rfl,RepC.frz hF h1,RepCs.frz hF h2⟩
end
theorem RepT.frz (hF : Frz w S S' ρ ρ' N H) : ∀ {l : List (Bool × List C)} {vs : List Value},RepT w S ρ (tRen (calF [] N) l) vs → RepT w S' ρ' (tFrz H l) vs
  | [],vs,h => h
  | (ag,cs) :: l,vs,h => by
    simp only [tRen,RepT] at h
    simp only [tFrz,RepT]
    obtain ⟨v,us,rfl,h1,h2⟩ := h
    refine ⟨v,us,rfl,?_,RepT.frz hF h2⟩
    unfold RepU at *
    cases ag with
    | true => simp only [if_true] at *; obtain ⟨vs,rfl,h⟩ := h1; exact ⟨vs,rfl,RepCs.frz hF h⟩
    | false => simp only [Bool.false_eq_true,if_false] at *; exact RepCs.frz hF h1
theorem RepS.frz (hF : Frz w S S' ρ ρ' N H) {sv : SV} {v : Value} (h : RepS w S ρ (sv.ren (calF [] N)) v) : RepS w S' ρ' (sv.frz H) v := by
  cases sv with
  | one c => exact RepC.frz hF h
  | agg cs => obtain ⟨vs,rfl,h⟩ := h; exact ⟨vs,rfl,RepCs.frz hF h⟩
  | tup l => obtain ⟨us,rfl,h⟩ := h; exact ⟨us,rfl,RepT.frz hF h⟩
  | any => trivial
end
section
variable {P : Program} {g : Gh} {st : St} {dst : Option Tmp} {ty : TypeId} {pos : String} {after : Array Edge} {guard : Option (Nat × Bool)} {x : Operand}
theorem acts_frz {o : Oper} {H' : List GB} {res : SV} (hA : ∀ N,Acts P g o st (res.ren (calF [] N)) [] (upOf (calF [] N) 0 H')) (hno : rowsNo H') : Acts P g o st (res.frz H') [] [] := by
  refine ⟨fun a w S ρ F h hfr K Q hK => ?_⟩
  obtain ⟨N,hN⟩ := h.fin
  have hkey : ∀ i gb,(i,gb) ∈ upOf (calF [] N) 0 H' → N ≤ i := fun i gb hm => by
    obtain ⟨k,gb',q1,q2⟩ := upOf_mem hm
    obtain ⟨e1,_⟩ := Prod.mk.inj q2
    rw [e1]
    show N ≤ N + (0 + k)
    omega
  refine (hA N).run a w S ρ F h (fun x hx => .inr (hN _ (hkey _ _ hx))) K Q fun v w' S1 ρ' F' hd hv => ?_
  let S2 : Foot := fun b o => S1 b o ∨ ∃ j gb,H'[j]? = some gb ∧ GB.lives gb = true ∧ F' (N + j) b o
  have hmem : ∀ j gb,H'[j]? = some gb → (N + j,gb.ren (calF [] N)) ∈ upOf (calF [] N) 0 H' := fun j gb hj => by
    have key : ∀ (l : List GB) (k j : Nat),l[j]? = some gb → (N + (k + j),gb.ren (calF [] N)) ∈ upOf (calF [] N) k l := by
      intro l
      induction l with
      | nil => intro k j hj; simp at hj
      | cons g0 l ih =>
        intro k j hj
        cases j with
        | zero => simp at hj; subst hj; simp [upOf,calF]
        | succ j =>
          have := ih (k + 1) j (by simpa using hj)
          rw [show k + (j + 1) = k + 1 + j by omega]
          simp [upOf,this]
    have := key H' 0 j hj
    rwa [Nat.zero_add] at this
  have hdone : Done w w' S S2 ρ ρ F F [] [] := by
    refine ⟨fun g hg => by simp at hg,hd.keeps,?_,?_,Env.le.refl _,fun i hi _ => hi,fun x hx => by simp at hx,fun x hx => by simp at hx,fun x hx => by simp at hx,fun x hx => by simp at hx,fun x hx => by simp at hx⟩
    · rintro b o (hb | ⟨j,gb,hj,_,hb⟩)
      · exact hd.newS b o hb
      · exact hd.own _ (hmem j gb hj) b o hb
    · rintro b o (hb | ⟨j,gb,hj,_,hb⟩)
      · exact hd.exS b o hb
      · exact hd.ex _ (hmem j gb hj) b o hb
  refine hK v w' S2 ρ F hdone (RepS.frz (S := S.or S1) (ρ := ρ') (N := N) ⟨?_,?_⟩ hv)
  · rintro b o (hb | hb)
    · exact .inl hb
    · exact .inr (.inl hb)
  · intro j z xs v' hj hv'
    rcases hd.rep _ (hmem j _ hj) with e | ⟨u,e1,e2⟩
    · cases e
    · simp only at e1 e2
      rw [hv'] at e1
      cases e1
      have e3 : Rep w' (S.or S1) (.sl true z xs) v' (F' (N + j)) := e2
      have hno' : D.noOwn.all xs := rowsNo_get hno hj
      refine (sl_freeze e3 hno').keep Agree.no (Agree.refl _ _) ?_ (le_refl _)
      rintro b o (hb | hb)
      · rcases hb with hb | hb
        · exact .inl hb
        · exact .inr (.inl hb)
      · exact .inr (.inr ⟨j,_,hj,rfl,hb⟩)
theorem a_callF {f : Nat} {c0 : C} {cap : List C} {xs : List Operand} {Ts : Array TypeId} {ags : List SV} {H' : List GB} {res : SV} {ld : List Nat}
    (hD : Does P f ags [] res H') (hc : opd st x = .one c0) (hv : fnv c0 = some (.func f,cap)) (hE : entB P f = true)
    (ha : ASLe st.h ld (xs.map (opd st) ++ cap.map .one) ags) (hcl : ∀ f,ags.map (SV.ren f) = ags) (hlt : ltA 0 ags = true) (hp : res.plain) (hpH : plainH H') (hno : rowsNo H') (hltr : res.lt H'.length = true) (hltH' : allG H'.length H' = true) :
    Acts P g ⟨dst,.call { callee := .value x,args := xs.toArray,argTypes := Ts },ty,pos,after,guard⟩ st (res.frz H') [] [] := by
  refine acts_frz (fun N => ?_) hno
  exact a_call (θ := []) (m := N) (ld := ld) hD hc hv hE (by rw [hcl]; exact ha) trivial rfl rfl rfl (List.all_eq_true.2 fun i _ => rfl) (.inr ⟨hp,hpH⟩) hlt rfl hltr hltH' rfl rfl
theorem a_litF {α : Type} (E : Enc α) (l : List α) {T z b n : Nat} {ps : List (Nat × Operand)} {cs : List C} {row : List D} (hP : lk2 tabP T = some (z,b)) (hn : ps.length = n) (ho : inOrder 0 ps = true) (hc : catCells st z ps = some cs) (hd : allD st.h cs = some row) (hrow : rows E l = row) (hz : E.z = z) (hsm : Nat.ble (n * z) 16777216 = true) (hno : D.noOwn.all (rows E l)) :
    Acts Tryz.prog g ⟨dst,.buildSlice T n ps.toArray,ty,pos,after,guard⟩ st (.one (.d (.sl false z (rows E l)))) [] [] :=
  acts_frz (res := .one (.gv 0)) (H' := [.row z (rows E l)]) (fun N => a_litE (i := N + 0) E l hP hn ho hc hd hrow hz hsm) ⟨hno,trivial⟩
end
section
variable {g : Gh} {t : List (Nat × SV)} {h : List (Nat × GB)} {n : Nat} {dst : Option Tmp} {ty : TypeId} {pos : String} {after : Array Edge} {guard : Option (Nat × Bool)} {x : Operand} {f : Nat} {c0 : C} {cap : List C} {xs : List Operand} {Ts : Array TypeId} {ags : List SV} {H' : List GB} {res : SV} {sv : SV}
end
section
variable {g : Gh} {t : List (Nat × SV)} {h : List (Nat × GB)} {n : Nat} {rs : List Rs} {fs : List Bool} {u uk : List Nat} {dst : Option Tmp} {ty : TypeId} {pos : String} {after : Array Edge} {guard : Option (Nat × Bool)} {x : Operand} {f : Nat} {c0 : C} {cap : List C} {xs : List Operand} {Ts : Array TypeId} {ags : List SV} {H' : List GB} {res : SV} {sv : SV}
theorem callFD (m : Nat) (hc : opd (visSt ⟨t,h,n⟩ rs fs u uk) x = .one c0 := by exact rfl) (hv : fnv c0 = some (.func f,cap) := by exact rfl) (hE : entB Tryz.prog f = true := by exact fQ rfl) (ha : ASLe (visSt ⟨t,h,n⟩ rs fs u uk).h (rest (n + m) []) (xs.map (opd (visSt ⟨t,h,n⟩ rs fs u uk)) ++ cap.map .one) ags := by (repeat (first | exact ASLe.nil | refine ASLe.cons ?_ ?_ | exact SVLe.refl | exact SVLe.any | refine SVLe.one ?_ | refine SVLe.agg ?_ | exact CsLe.nil | refine CsLe.cons ?_ ?_ | exact CLe.refl | exact CLe.sh rfl | exact CLe.nil (by decide) | refine CLe.fn ?_ | refine CLe.fnD ?_ | refine CLe.ifc ?_ | refine CLe.ifcD ?_ | exact CLe.lendA rfl rfl nowR | exact CLe.lendDA rfl rfl shutR | exact CLe.lendRA rfl rfl rfl rfl bnd nowR rfl | refine CLe.lendVA rfl rfl ?_ | refine CLe.lendPA rfl rfl rfl ?_)); first | done | fail) (hD : Does Tryz.prog f ags [] res H')
    (hcl : ∀ f,ags.map (SV.ren f) = ags := by (intro f; exact rfl)) (hlt : ltA 0 ags = true := by exact rfl) (hp : res.plain := by repeat (first | exact trivial | exact plR | refine And.intro ?_ ?_)) (hpH : plainH H' := by repeat (first | exact trivial | exact plR | refine And.intro ?_ ?_)) (hno : rowsNo H' := by repeat (first | exact trivial | exact nowR | refine And.intro ?_ ?_))
    (hltr : res.lt H'.length = true := by exact rfl) (hltH' : allG H'.length H' = true := by exact rfl) (hsv : res.frz H' = sv := by exact rfl) :
    Acts Tryz.prog g ⟨dst,.call { callee := .value x,args := xs.toArray,argTypes := Ts },ty,pos,after,guard⟩ (visSt ⟨t,h,n⟩ rs fs u uk) sv [] [] :=
  hsv ▸ a_callF (ld := rest (n + m) []) hD hc hv hE ha hcl hlt hp hpH hno hltr hltH'
end
end Go.Proofs.YtegpggobfdcafaaGreat
end
section
set_option linter.unusedVariables false
set_option linter.unusedSimpArgs false
set_option maxRecDepth 100000
set_option maxHeartbeats 4000000
namespace Go.Proofs.YtegpggobfdcafaaGreat
open Go Foot
theorem mem_len {α : Type} {xs : List (List α)} {n : Int} (h : ∀ x ∈ xs,(x.length : Int) ≤ n) {i : Nat} (hi : i < xs.length) : ((xs[i]).length : Int) ≤ n := h _ (List.getElem_mem hi)
end Go.Proofs.YtegpggobfdcafaaGreat
end
