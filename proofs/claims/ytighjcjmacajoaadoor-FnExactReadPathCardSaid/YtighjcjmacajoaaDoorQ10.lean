/- Parts of the proof (10 of 21). -/
import Derived.Test.YtighjcjmacajoaaDoorChecked
import Derived.Test.YtighjcjmacajoaaDoorQ9
section
set_option linter.unusedVariables false
set_option linter.unusedSimpArgs false
set_option maxRecDepth 100000
set_option maxHeartbeats 4000000
namespace Go.Proofs.YtighjcjmacajoaaDoor
open Go Foot
abbrev shI (l : List Int) : C := .d (.sl false 1 (rows eI l))
abbrev roI (l : List Int) : GB := .row 1 (rows eI l)
abbrev inB (x lo hi : Int) : Bool := decide (lo ≤ x ∧ x ≤ hi)
theorem l00In_ok (x lo hi : Int) : Does Tryd.prog 24 [.one (int x),.one (int lo),.one (int hi)] [] (.one (boo (inB x lo hi))) [] := by
  refine does_of (k := 0) Tryd.func24 rfl Tryd.ntmps24 rfl rfl fun w F0 S0 ρ0 => ?_
  dsimp only [argT,argH]
  repeat' first|(apply p3;(first|exact pu1|exact puC);exact rfl)|refine cd ?_|refine o_no rfl rfl rfl rfl ?_|(apply py3;exact rfl;exact rfl;(first|exact pu1|exact puC);exact rfl;exact rfl)|((refine o_gs rfl rfl (fun hc => ?_) (fun hc => ?_)) <;> (try simp only [dcB] at hc) <;> (try first|contradiction|(exfalso;omega)))
  all_goals
    repeat refine cr ?_
    refine ends_id ?_
    refine endK [] (h2 := ?_) (h3 := ?_) (nd := ?_)
    all_goals (repeat' first|exact ce0|refine ce ?_|refine ce2 ?_ ?_|exact SVLe.refl|refine ceb ?_)
    all_goals first | exact (show nodupB _ = true from rfl) | exact Or.inr rfl | ((first | (symm; simp; omega) | simp [*]))
theorem within_ok (x lo hi : Int) : Does Tryd.prog 29 [.one (int x),.one (int lo),.one (int hi)] [] (.one (boo (inB x lo hi))) [] := by
  refine does_of (k := 0) Tryd.func29 rfl Tryd.ntmps29 rfl rfl fun w F0 S0 ρ0 => ?_
  dsimp only [argT,argH]
  repeat' first|(apply p3;(first|exact pu1|exact puC);exact rfl)|refine cd ?_|refine o_no rfl rfl rfl rfl ?_|(apply py3;exact rfl;exact rfl;(first|exact pu1|exact puC);exact rfl;exact rfl)|((refine o_gs rfl rfl (fun hc => ?_) (fun hc => ?_)) <;> (try simp only [dcB] at hc) <;> (try first|contradiction|(exfalso;omega)))
  all_goals
    repeat refine cr ?_
    refine ends_id ?_
    refine endK [] (h2 := ?_) (h3 := ?_) (nd := ?_)
    all_goals (repeat' first|exact ce0|refine ce ?_|refine ce2 ?_ ?_|exact SVLe.refl|refine ceb ?_)
    all_goals first | exact (show nodupB _ = true from rfl) | exact Or.inr rfl | ((first | (symm; simp; omega) | simp [*]))
@[irreducible] def eqI (a b : List Int) : Bool := decide (a = b)
theorem take_next {α : Type} {xs ys : List α} {i : Int} (h0 : 0 ≤ i) (hx : i.toNat < xs.length) (hy : i.toNat < ys.length) (h : xs.take i.toNat = ys.take i.toNat) (he : xs[i.toNat] = ys[i.toNat]) : xs.take (i + 1).toNat = ys.take (i + 1).toNat := by
  rw [show (i + 1).toNat = i.toNat + 1 by omega,List.take_succ_eq_append_getElem hx,List.take_succ_eq_append_getElem hy,h,he]
theorem take_end {α : Type} {xs ys : List α} {i : Int} (hx : ¬ i < xs.length) (hl : xs.length = ys.length) (h : xs.take i.toNat = ys.take i.toNat) : xs = ys := by
  rw [List.take_of_length_le (by omega),List.take_of_length_le (by omega)] at h
  exact h
theorem eqInt64S_ok (xs ys : List Int) (hx : (xs.length : Int) ≤ 1048576) (hy : (ys.length : Int) ≤ 1048576) : Does Tryd.prog 6 [.one (shI xs),.one (shI ys)] [] (.one (boo (eqI xs ys))) [] := by
  refine does_of (k := 0) Tryd.func6 rfl Tryd.ntmps6 rfl rfl fun w F0 S0 ρ0 => ?_
  dsimp only [argT,argH]
  repeat' first|(apply p3;(first|exact pu1|exact puN|exact a_ne rfl rfl);exact rfl)|refine cd ?_|((refine g_cond rfl (fun hc => ?_) (fun hc => ?_)) <;> (try simp only [dcB] at hc) <;> (try first|contradiction|(exfalso;omega)))
  · repeat refine cr ?_
    refine ends_id ?_
    refine endK [] (h2 := ?_) (h3 := ?_) (nd := ?_)
    all_goals (repeat' first|exact ce0|refine ce ?_|refine ce2 ?_ ?_|exact SVLe.refl|refine ceb ?_)
    all_goals first | exact (show nodupB _ = true from rfl) | exact Or.inr rfl | ((symm; unfold eqI; rw [decide_eq_false_iff_not]; rintro rfl; omega))
  refine g_loop_id ?_
  refine loopK [0,1,4] [] (fun i : Int => 0 ≤ i ∧ i ≤ xs.length ∧ xs.take i.toNat = ys.take i.toNat) (fun i => [(5,.one (int i))]) (fun _ => []) (fun i => (xs.length - i).toNat) (0 : Int) [] (hI := ?_) (hr := ?_)
  · exact ⟨by simp,by simp,by simp⟩
  · rintro i ⟨h0,h1,h2⟩
    dsimp only [List.cons_append,List.nil_append] at *
    skip
    repeat' first|(apply p3;(first|exact pu1|exact puN|exact puC|exact a_add rfl rfl (by omega) (by omega));exact rfl)|refine cd ?_|(apply g_drN (id := 6) okM [[],[],[0,1],[0,1,2],[],[],[4,5],[4,5,6],[0,1,2,3,4,5,6,7]] [([],[]),([],[]),([],[]),([],[]),([],[]),([],[]),([],[]),([],[]),([],[])] 0;(focus (refine dp 0 0 [18,21,22,23,24] [] pu1 ?_;refine dp 1 0 [17,21,22,23,24] [] pu1 ?_;refine dp 2 3 [21,22,23,24] [] puI ?_;refine dp 3 7 [21,22,23,24] [] puL ?_;refine dp 4 0 [17,18,19,20,22] [] pu1 ?_;refine dp 5 0 [17,18,19,20,21] [] pu1 ?_;refine dp 6 3 [17,18,19,20] [] puI ?_;refine dp 7 7 [17,18,19,20] [] puL ?_;refine dp 8 255 [] [] (by exact a_ne rfl rfl) ?_;(refine d_nil ?_;refine dN ?_)));any_goals kernel_rfl)|((refine g_cond rfl (fun hc => ?_) (fun hc => ?_)) <;> (try simp only [dcB] at hc) <;> (try first|contradiction|(exfalso;omega)))
    · repeat refine cr ?_
      refine ends_id ?_
      refine endK [] (h2 := ?_) (h3 := ?_) (nd := ?_)
      all_goals (repeat' first|exact ce0|refine ce ?_|refine ce2 ?_ ?_|exact SVLe.refl|refine ceb ?_)
      all_goals first | exact (show nodupB _ = true from rfl) | exact Or.inr rfl | ((symm; unfold eqI; rw [decide_eq_false_iff_not]; rintro rfl; simp_all))
    · refine q_again (i + 1) [] (by exact stk) ?_ ?_
      · exact ⟨by omega,by omega,take_next h0 (by omega) (by omega) h2 (by simp_all)⟩
      · omega
    · have hl := take_end (by omega) (by omega) h2
      repeat refine cr ?_
      refine ends_id ?_
      refine endK [] (h2 := ?_) (h3 := ?_) (nd := ?_)
      all_goals (repeat' first|exact ce0|refine ce ?_|refine ce2 ?_ ?_|exact SVLe.refl|refine ceb ?_)
      all_goals first | exact (show nodupB _ = true from rfl) | exact Or.inr rfl | ((symm; unfold eqI; rw [decide_eq_true_eq]; exact hl))
end Go.Proofs.YtighjcjmacajoaaDoor
end
section
set_option linter.unusedVariables false
set_option linter.unusedSimpArgs false
set_option maxRecDepth 100000
namespace Go.Proofs.YtighjcjmacajoaaDoor
open Go Foot
section
variable {w : World} {S S' : Foot} {ρ ρ' : Env} {N : Nat} {H : List GB}
end
section
variable {P : Program} {g : Gh} {st : St} {dst : Option Tmp} {ty : TypeId} {pos : String} {after : Array Edge} {guard : Option (Nat × Bool)} {x : Operand}
end
section
variable {g : Gh} {t : List (Nat × SV)} {h : List (Nat × GB)} {n : Nat} {dst : Option Tmp} {ty : TypeId} {pos : String} {after : Array Edge} {guard : Option (Nat × Bool)} {x : Operand} {f : Nat} {c0 : C} {cap : List C} {xs : List Operand} {Ts : Array TypeId} {ags : List SV} {H' : List GB} {res : SV} {sv : SV}
end
section
variable {g : Gh} {t : List (Nat × SV)} {h : List (Nat × GB)} {n : Nat} {rs : List Rs} {fs : List Bool} {u uk : List Nat} {dst : Option Tmp} {ty : TypeId} {pos : String} {after : Array Edge} {guard : Option (Nat × Bool)} {x : Operand} {f : Nat} {c0 : C} {cap : List C} {xs : List Operand} {Ts : Array TypeId} {ags : List SV} {H' : List GB} {res : SV} {sv : SV}
end
end Go.Proofs.YtighjcjmacajoaaDoor
end
section
set_option linter.unusedVariables false
set_option linter.unusedSimpArgs false
set_option maxRecDepth 100000
set_option maxHeartbeats 4000000
namespace Go.Proofs.YtighjcjmacajoaaDoor
open Go Foot
theorem mem_len {α : Type} {xs : List (List α)} {n : Int} (h : ∀ x ∈ xs,(x.length : Int) ≤ n) {i : Nat} (hi : i < xs.length) : ((xs[i]).length : Int) ≤ n := h _ (List.getElem_mem hi)
end Go.Proofs.YtighjcjmacajoaaDoor
end
