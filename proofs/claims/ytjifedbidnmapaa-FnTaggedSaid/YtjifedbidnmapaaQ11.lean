/- Parts of the proof (11 of 21). -/
import Derived.Laws.Concat
import Derived.Laws.Cover1
import Derived.Laws.DeepStrings4
import Derived.Laws.IdiomStrings
import Derived.Laws.Runes
import Derived.Laws.Strings2
import Derived.Laws.Strings3
import Derived.Test.YtjifedbidnmapaaQ10
section
set_option linter.unusedVariables false
set_option linter.unusedSimpArgs false
set_option maxRecDepth 100000
namespace Go.Proofs.Ytjifedbidnmapaa
open Go Foot
abbrev Bs := List UInt8
abbrev sv (l : Bs) : Value := .string ⟨l.toArray⟩
abbrev u8 (n : Int) : C := .d (.sc (.int .u8 n))
abbrev eY : Enc Int := ⟨1,fun n => [.sc (.int .u8 n)],fun _ => rfl,by decide⟩
section
variable {P : Program} {g : Gh} {st : St}
variable {dst : Option Tmp} {ty : TypeId} {pos : String} {after : Array Edge} {guard : Option (Nat × Bool)} {x y : Operand} {T U e : TypeId} {a b : Bs} {m n : Int}
theorem a_of8 (e1 : opd st x = .one (u8 m)) (hT : P.underlying T = some (.int .u8)) (hU : P.underlying U = some (.int .i64)) (h1 : 0 ≤ m) (h2 : m < 256) : Acts P g ⟨dst,.convert T U x,ty,pos,after,guard⟩ st (.one (int m)) [] [] := by
  have := a_conv (P := P) (g := g) (dst := dst) (T := T) (U := U) (ty := ty) (pos := pos) (after := after) (guard := guard) e1 (by rw [hT]; rfl) hU
  rwa [wrap64 (by omega) (by omega)] at this
theorem u_shr1 (e1 : opd st x = .one (.d (.sc (.int .u64 m)))) (e2 : opd st y = .one (.d (.sc (.int .u64 1)))) (h1 : 0 ≤ m) : Acts P g ⟨dst,.binOp .shr T x y U,ty,pos,after,guard⟩ st (.one (.d (.sc (.int .u64 (m / 2))))) [] [] := by
  have := a_bin (P := P) (g := g) (dst := dst) (T := T) (U := U) (ty := ty) (pos := pos) (after := after) (guard := guard) (op := .shr) e1 e2 rfl (show (0 : Int) ≤ 1 by decide)
  have e : m.fdiv (2 ^ min (1 : Int).toNat IntKind.u64.bits) = m / 2 := by
    show m.fdiv (2 ^ min 1 64) = m / 2
    rw [show min 1 64 = 1 from rfl,Int.fdiv_eq_ediv_of_nonneg _ (by decide)]
    rfl
  rwa [e] at this
end
end Go.Proofs.Ytjifedbidnmapaa
end
section
set_option linter.unusedVariables false
set_option linter.unusedSimpArgs false
set_option maxRecDepth 100000
set_option maxHeartbeats 4000000
namespace Go.Proofs.Ytjifedbidnmapaa
open Go Foot
theorem get0_headD {l : List Int} (h : Int.toNat 0 < l.length) : l[Int.toNat 0] = l.headD 0 := by cases l with | nil => simp at h | cons a l => rfl
theorem preA6 {p : Prop} (h : p := by first | with_reducible assumption | omega | (simp only [List.length_append,List.length_cons,List.length_nil,List.length_set,List.length_replicate,List.length_take,List.length_drop,List.length_tail,List.length_dropLast,List.length_reverse] at *; omega) | exact mem_len (by assumption) (by omega) | trivial) : p := h
theorem budgetOk_ok (n : Int) : Does Try.prog 17 [.one (int n)] [] (.one (boo (inB n 1 20000))) [] := by
  refine does_of (k := 0) Try.func17 rfl Try.ntmps17 rfl rfl fun w F0 S0 ρ0 => ?_
  dsimp only [argT,argH]
  repeat' first|(apply p3;exact pu1;exact rfl)|refine cd ?_|(apply c4 0;exact callK1 (θ := []) (hD := (within_ok _ _ _));exact rfl;exact rfl;exact rfl;refine dM ?_)|fail
  all_goals
    repeat refine cr ?_
    refine ends_id ?_
    refine endK [] (h2 := ?_) (h3 := ?_) (nd := ?_)
    all_goals (repeat' first|exact ce0|refine ce ?_|refine ce2 ?_ ?_|exact SVLe.refl|refine ceb ?_)
    all_goals first | exact (show nodupB _ = true from rfl) | exact Or.inr rfl | (rfl)
theorem all_snoc {α : Type} (p : α → Bool) (l : List α) (n : Nat) (h : n < l.length) : (l.take (n + 1)).all p = ((l.take n).all p && p l[n]) := by
  rw [List.take_succ_eq_append_getElem h,List.all_append]; simp
theorem all_snocI {α : Type} (p : α → Bool) (l : List α) (i : Int) (h0 : 0 ≤ i) (h : i < l.length) (h1 : (l.take i.toNat).all p = true) (h2 : p (l[i.toNat]'(by omega)) = true) : (l.take (i + 1).toNat).all p = true := by
  rw [show (i + 1).toNat = i.toNat + 1 by omega,all_snoc p l _ (by omega),h1,h2]; rfl
theorem all_no {α : Type} (p : α → Bool) (l : List α) (n : Nat) (h : n < l.length) (h2 : ¬ p l[n] = true) : l.all p = false := by
  rw [List.all_eq_false]
  exact ⟨l[n],List.getElem_mem h,by simpa using h2⟩
theorem sizeI_ok (xs : List Int) (hx : (xs.length : Int) ≤ 16777216) : Does Try.prog 94 [.one (shI xs)] [] (.one (int xs.length)) [] := by
  refine does_of (k := 0) Try.func94 rfl Try.ntmps94 rfl rfl fun w F0 S0 ρ0 => ?_
  dsimp only [argT,argH]
  repeat' first|(apply p3;(first|exact pu1|exact puN);exact rfl)|refine cd ?_|fail
  repeat refine cr ?_
  refine ends_id ?_
  refine endK [] (h2 := ?_) (h3 := ?_) (nd := ?_)
  all_goals (repeat' first|exact ce0|refine ce ?_|refine ce2 ?_ ?_|exact SVLe.refl|refine ceb ?_)
  all_goals first | exact (show nodupB _ = true from rfl) | exact Or.inr rfl | (rfl)
@[irreducible] def idxF {α : Type} (p : α → Bool) (l : List α) : Int := match l.findIdx? p with | some i => i | none => -1
theorem idxF_stop {α : Type} (p : α → Bool) (l : List α) (i : Int) (h0 : 0 ≤ i) (h : i < l.length) (h1 : (l.take i.toNat).all (fun x => !p x) = true) (h2 : p (l[i.toNat]'(by omega)) = true) : idxF p l = i := by
  have : l.findIdx? p = some i.toNat := by
    rw [List.findIdx?_eq_some_iff_getElem]
    refine ⟨by omega,h2,fun j hj => ?_⟩
    rw [List.all_eq_true] at h1
    have := h1 (l[j]'(by omega)) (by rw [List.mem_take_iff_getElem]; exact ⟨j,by omega,rfl⟩)
    simpa using this
  unfold idxF
  rw [this]
  simp only
  omega
theorem idxF_none {α : Type} (p : α → Bool) (l : List α) (h1 : l.all (fun x => !p x) = true) : idxF p l = -1 := by
  have : l.findIdx? p = none := by
    rw [List.findIdx?_eq_none_iff]
    rw [List.all_eq_true] at h1
    intro x hx
    simpa using h1 x hx
  unfold idxF
  rw [this]
theorem idxF_any {α : Type} (p : α → Bool) (l : List α) : decide (0 ≤ idxF p l) = l.any p := by
  unfold idxF
  cases h : l.findIdx? p with
  | none =>
    rw [List.findIdx?_eq_none_iff] at h
    have : l.any p = false := by rw [List.any_eq_false]; intro x hx; simp [h x hx]
    rw [this]; rfl
  | some i =>
    obtain ⟨h1,h2,_⟩ := List.findIdx?_eq_some_iff_getElem.1 h
    have : l.any p = true := by rw [List.any_eq_true]; exact ⟨l[i],List.getElem_mem h1,h2⟩
    rw [this]
    simp
theorem not_any_not {α : Type} (p : α → Bool) (l : List α) : (!l.any fun x => !p x) = l.all p := by
  induction l with
  | nil => rfl
  | cons a l ih => simp only [List.any_cons,List.all_cons,Bool.not_or,Bool.not_not,ih]
@[irreducible] def inAll (lo hi : Int) (l : List Int) : Bool := l.all (fun x => decide (lo ≤ x ∧ x ≤ hi))
theorem allWithin_ok (xs : List Int) (lo hi : Int) (hx : (xs.length : Int) ≤ 16777216) : Does Try.prog 45 [.one (shI xs),.one (int lo),.one (int hi)] [] (.one (boo (inAll lo hi xs))) [] := by
  refine does_of (k := 0) Try.func45 rfl Try.ntmps45 rfl rfl fun w F0 S0 ρ0 => ?_
  dsimp only [argT,argH]
  repeat' first|(apply p3;(first|exact pu1|exact puN);exact rfl)|refine cd ?_|fail
  refine g_loop_id ?_
  refine loopK [1,2,6,9,10] [] (fun i : Int => 0 ≤ i ∧ i ≤ xs.length ∧ (xs.take i.toNat).all (fun x => decide (lo ≤ x ∧ x ≤ hi)) = true) (fun i => [(11,.one (int i))]) (fun _ => []) (fun i => (xs.length - i).toNat) (0 : Int) [] (hI := ?_) (hr := ?_)
  · exact ⟨by omega,by omega,rfl⟩
  · rintro i ⟨h0,h1,h2⟩
    dsimp only [List.cons_append,List.nil_append] at *
    skip
    repeat' first|(apply p3;(first|exact pu1|exact puC|exact a_add rfl rfl (by omega) (by omega)|exact puI);exact rfl)|refine cd ?_|(apply c4 0;exact callK1 (θ := []) (hD := (within_ok _ _ _));exact rfl;exact rfl;exact rfl;refine dM ?_)|((refine g_cond rfl (fun hc => ?_) (fun hc => ?_)) <;> (try simp only [dcB] at hc) <;> (try first|contradiction|(exfalso;omega)))|fail
    · repeat refine cr ?_
      refine ends_id ?_
      refine endK [] (h2 := ?_) (h3 := ?_) (nd := ?_)
      all_goals (repeat' first|exact ce0|refine ce ?_|refine ce2 ?_ ?_|exact SVLe.refl|refine ceb ?_)
      all_goals first | exact (show nodupB _ = true from rfl) | exact Or.inr rfl | ((unfold inAll; rw [all_no _ _ i.toNat (by omega) (by rw [decide_eq_true_eq]; exact hc)]))
    · refine q_again (i + 1) [] (by exact stk) ?_ ?_
      · exact ⟨by omega,by omega,all_snocI _ _ _ h0 (by omega) h2 (by rw [decide_eq_true_eq]; exact hc)⟩
      · omega
    · repeat refine cr ?_
      refine ends_id ?_
      refine endK [] (h2 := ?_) (h3 := ?_) (nd := ?_)
      all_goals (repeat' first|exact ce0|refine ce ?_|refine ce2 ?_ ?_|exact SVLe.refl|refine ceb ?_)
      all_goals first | exact (show nodupB _ = true from rfl) | exact Or.inr rfl | ((unfold inAll; rw [List.take_of_length_le (by omega)] at h2; exact h2.symm))
theorem clone_ok (xs : List Int) (hx : (xs.length : Int) ≤ 16777216) : Does Try.prog 21 [.one (shI xs)] [] (.one (.gv 0)) [.row 1 (rows eI xs)] := by
  refine does_of (k := 0) Try.func21 rfl Try.ntmps21 rfl rfl fun w F0 S0 ρ0 => ?_
  dsimp only [argT,argH]
  repeat' first|(apply n3;exact a_nilO eI rfl;exact rfl)|(apply n3;(exact a_litE eI [] rfl rfl rfl rfl rfl rfl rfl rfl);exact rfl;refine dA ?_)|(apply p3;(exact pu1);exact rfl)|refine cd ?_|(apply s3;exact a_appE (fP rfl) rfl rfl rfl rfl nowR (by (simp <;> omega)) (by decide) (by decide) (by exact rfl);exact rfl;exact rfl)|(apply o_isnil;exact rfl;exact rfl;exact (fE rfl);exact rfl;exact rfl;intro b hnil)|((refine g_cond rfl (fun hc => ?_) (fun hc => ?_)) <;> (try simp only [dcB] at hc) <;> (try first|contradiction|(exfalso;omega)))|fail
  · repeat refine cr ?_
    refine ends_id ?_
    refine endK [?_] (h2 := ?_) (h3 := ?_) (nd := ?_)
    rotate_left 1
    all_goals (repeat' first|exact ce0|refine ce ?_|refine ce2 ?_ ?_|(refine Or.inr (bx_eq rfl rfl ?_);(try dsimp only [C.ren,C.ren.all]);(try exact rfl))|exact SVLe.refl|refine ceb ?_)
    all_goals first | exact (show nodupB _ = true from rfl) | exact Or.inr rfl | (exact (hnil hc).symm)
  · repeat refine cr ?_
    refine ends_id ?_
    refine endK [?_] (h2 := ?_) (h3 := ?_) (nd := ?_)
    rotate_left 1
    all_goals (repeat' first|exact ce0|refine ce ?_|refine ce2 ?_ ?_|(refine Or.inr (bx_eq rfl rfl ?_);(try dsimp only [C.ren,C.ren.all]);(try exact rfl))|exact SVLe.refl|refine ceb ?_)
    all_goals first | exact (show nodupB _ = true from rfl) | exact Or.inr rfl | (rfl)
theorem sEqual_ok (xs ys : List Int) (hx : (xs.length : Int) ≤ 16777216) (hy : (ys.length : Int) ≤ 16777216) : Does Try.prog 69 [.one (shI xs),.one (shI ys)] [] (.one (boo (eqI xs ys))) [] := by
  refine does_of (k := 0) Try.func69 rfl Try.ntmps69 rfl rfl fun w F0 S0 ρ0 => ?_
  dsimp only [argT,argH]
  repeat' first|(apply p3;(first|exact pu1|exact puN|exact a_ne rfl rfl);exact rfl)|refine cd ?_|((refine g_cond rfl (fun hc => ?_) (fun hc => ?_)) <;> (try simp only [dcB] at hc) <;> (try first|contradiction|(exfalso;omega)))|fail
  · repeat refine cr ?_
    refine ends_id ?_
    refine endK [] (h2 := ?_) (h3 := ?_) (nd := ?_)
    all_goals (repeat' first|exact ce0|refine ce ?_|refine ce2 ?_ ?_|exact SVLe.refl|refine ceb ?_)
    all_goals first | exact (show nodupB _ = true from rfl) | exact Or.inr rfl | ((symm; unfold eqI; rw [decide_eq_false_iff_not]; rintro rfl; omega))
  refine g_loop_id ?_
  refine loopK [0,1,4,12] [] (fun i : Int => 0 ≤ i ∧ i ≤ xs.length ∧ xs.take i.toNat = ys.take i.toNat) (fun i => [(13,.one (int i))]) (fun _ => []) (fun i => (xs.length - i).toNat) (0 : Int) [] (hI := ?_) (hr := ?_)
  · exact ⟨by simp,by simp,by simp⟩
  · rintro i ⟨h0,h1,h2⟩
    dsimp only [List.cons_append,List.nil_append] at *
    skip
    repeat' first|(apply p3;(first|exact pu1|exact puC|exact a_add rfl rfl (by omega) (by omega));exact rfl)|refine cd ?_|(apply g_drN (id := 6) okM [[],[],[0,1],[0,1,2],[],[],[4,5],[4,5,6],[0,1,2,3,4,5,6,7]] [([],[]),([],[]),([],[]),([],[]),([],[]),([],[]),([],[]),([],[]),([],[])] 0;(focus (refine dp 0 0 [17,20,21,22,23] [] pu1 ?_;refine dp 1 0 [16,20,21,22,23] [] pu1 ?_;refine dp 2 3 [20,21,22,23] [] puI ?_;refine dp 3 7 [20,21,22,23] [] puL ?_;refine dp 4 0 [16,17,18,19,21] [] pu1 ?_;refine dp 5 0 [16,17,18,19,20] [] pu1 ?_;refine dp 6 3 [16,17,18,19] [] puI ?_;refine dp 7 7 [16,17,18,19] [] puL ?_;refine dp 8 255 [] [] (by exact a_ne rfl rfl) ?_;(refine d_nil ?_;refine dN ?_)));any_goals kernel_rfl)|((refine g_cond rfl (fun hc => ?_) (fun hc => ?_)) <;> (try simp only [dcB] at hc) <;> (try first|contradiction|(exfalso;omega)))|fail
    · repeat refine cr ?_
      refine ends_id ?_
      refine endK [] (h2 := ?_) (h3 := ?_) (nd := ?_)
      all_goals (repeat' first|exact ce0|refine ce ?_|refine ce2 ?_ ?_|exact SVLe.refl|refine ceb ?_)
      all_goals first | exact (show nodupB _ = true from rfl) | exact Or.inr rfl | ((symm; unfold eqI; rw [decide_eq_false_iff_not]; rintro rfl; simp_all))
    · refine q_again (i + 1) [] (by exact stk) ?_ ?_
      · exact ⟨by omega,by omega,take_next h0 (by omega) (by omega) h2 (by simp_all)⟩
      · omega
    · have hl := take_end (by omega) (by omega) h2
      repeat refine cr ?_
      refine ends_id ?_
      refine endK [] (h2 := ?_) (h3 := ?_) (nd := ?_)
      all_goals (repeat' first|exact ce0|refine ce ?_|refine ce2 ?_ ?_|exact SVLe.refl|refine ceb ?_)
      all_goals first | exact (show nodupB _ = true from rfl) | exact Or.inr rfl | ((symm; unfold eqI; rw [decide_eq_true_eq]; exact hl))
theorem idxW_ok (xs : List (List Int)) (k : Nat) (p : List Int → Bool) (hx : (xs.length : Int) ≤ 16777216) (hxs : ∀ x ∈ xs,(x.length : Int) ≤ 16777216) (hE : entB Try.prog k = true) (hp : ∀ r,(r.length : Int) ≤ 16777216 → Does Try.prog k [.one (shI r)] [] (.one (boo (p r))) []) : Does Try.prog 72 [.one (shW xs),.one (.d (.fn (.func k) []))] [] (.one (int (idxF p xs))) [] := by
  refine does_of (k := 0) Try.func72 rfl Try.ntmps72 rfl rfl fun w F0 S0 ρ0 => ?_
  dsimp only [argT,argH]
  repeat' first|(apply p3;(first|exact pu1|exact puN);exact rfl)|refine cd ?_|fail
  refine g_loop_id ?_
  refine loopK [0,1,4,7] [] (fun i : Int => 0 ≤ i ∧ i ≤ xs.length ∧ (xs.take i.toNat).all (fun x => !p x) = true) (fun i => [(8,.one (int i))]) (fun _ => []) (fun i => (xs.length - i).toNat) (0 : Int) [] (hI := ?_) (hr := ?_)
  · exact ⟨by omega,by omega,rfl⟩
  · rintro i ⟨h0,h1,h2⟩
    dsimp only [List.cons_append,List.nil_append] at *
    skip
    repeat' first|(apply p3;(first|exact pu1|exact puC|exact a_add rfl rfl (by omega) (by omega)|exact puI);exact rfl)|refine cd ?_|(apply c4 0;exact callK0 (θ := []) (hE := hE) (hD := (hp _ preA6));exact rfl;exact rfl;exact rfl;refine dM ?_)|((refine g_cond rfl (fun hc => ?_) (fun hc => ?_)) <;> (try simp only [dcB] at hc) <;> (try first|contradiction|(exfalso;omega)))|fail
    · repeat refine cr ?_
      refine ends_id ?_
      refine endK [] (h2 := ?_) (h3 := ?_) (nd := ?_)
      all_goals (repeat' first|exact ce0|refine ce ?_|refine ce2 ?_ ?_|exact SVLe.refl|refine ceb ?_)
      all_goals first | exact (show nodupB _ = true from rfl) | exact Or.inr rfl | (exact (idxF_stop p xs i h0 (by omega) h2 hc).symm)
    · refine q_again (i + 1) [] (by exact stk) ?_ ?_
      · exact ⟨by omega,by omega,all_snocI _ _ _ h0 (by omega) h2 (by simp [hc])⟩
      · omega
    · repeat refine cr ?_
      refine ends_id ?_
      refine endK [] (h2 := ?_) (h3 := ?_) (nd := ?_)
      all_goals (repeat' first|exact ce0|refine ce ?_|refine ce2 ?_ ?_|exact SVLe.refl|refine ceb ?_)
      all_goals first | exact (show nodupB _ = true from rfl) | exact Or.inr rfl | ((rw [List.take_of_length_le (by omega)] at h2; exact (idxF_none p xs h2).symm))
theorem hasW_ok (xs : List (List Int)) (k : Nat) (p : List Int → Bool) (hx : (xs.length : Int) ≤ 16777216) (hxs : ∀ x ∈ xs,(x.length : Int) ≤ 16777216) (hE : entB Try.prog k = true) (hp : ∀ r,(r.length : Int) ≤ 16777216 → Does Try.prog k [.one (shI r)] [] (.one (boo (p r))) []) : Does Try.prog 62 [.one (shW xs),.one (.d (.fn (.func k) []))] [] (.one (boo (xs.any p))) [] := by
  refine does_of (k := 0) Try.func62 rfl Try.ntmps62 rfl rfl fun w F0 S0 ρ0 => ?_
  dsimp only [argT,argH]
  repeat' first|(apply p3;(first|exact pu1|exact puC);exact rfl)|refine cd ?_|(apply c4 0;exact callK1 (θ := []) (hD := (idxW_ok _ _ _ preA6 preA6 preA6 preA6));exact rfl;exact rfl;exact rfl;refine dM ?_)|fail
  repeat refine cr ?_
  refine ends_id ?_
  refine endK [] (h2 := ?_) (h3 := ?_) (nd := ?_)
  all_goals (repeat' first|exact ce0|refine ce ?_|refine ce2 ?_ ?_|exact SVLe.refl|refine ceb ?_)
  all_goals first | exact (show nodupB _ = true from rfl) | exact Or.inr rfl | (exact idxF_any p xs)
theorem idxWd_ok (xs : List (List Int)) (k : Nat) (d : D) (p : List Int → Bool) (hx : (xs.length : Int) ≤ 16777216) (hxs : ∀ x ∈ xs,(x.length : Int) ≤ 16777216) (hE : entB Try.prog k = true) (hp : ∀ r,(r.length : Int) ≤ 16777216 → Does Try.prog k [.one (shI r),.one (.d d)] [] (.one (boo (p r))) []) : Does Try.prog 72 [.one (shW xs),.one (.d (.fn (.func k) [d]))] [] (.one (int (idxF p xs))) [] := by
  refine does_of (k := 0) Try.func72 rfl Try.ntmps72 rfl rfl fun w F0 S0 ρ0 => ?_
  dsimp only [argT,argH]
  repeat' first|(apply p3;(first|exact pu1|exact puN);exact rfl)|refine cd ?_|fail
  refine g_loop_id ?_
  refine loopK [0,1,4,7] [] (fun i : Int => 0 ≤ i ∧ i ≤ xs.length ∧ (xs.take i.toNat).all (fun x => !p x) = true) (fun i => [(8,.one (int i))]) (fun _ => []) (fun i => (xs.length - i).toNat) (0 : Int) [] (hI := ?_) (hr := ?_)
  · exact ⟨by omega,by omega,rfl⟩
  · rintro i ⟨h0,h1,h2⟩
    dsimp only [List.cons_append,List.nil_append] at *
    skip
    repeat' first|(apply p3;(first|exact pu1|exact puC|exact a_add rfl rfl (by omega) (by omega)|exact puI);exact rfl)|refine cd ?_|(apply c4 0;exact callK0 (θ := []) (hE := hE) (hD := (hp _ preA6));exact rfl;exact rfl;exact rfl;refine dM ?_)|((refine g_cond rfl (fun hc => ?_) (fun hc => ?_)) <;> (try simp only [dcB] at hc) <;> (try first|contradiction|(exfalso;omega)))|fail
    · repeat refine cr ?_
      refine ends_id ?_
      refine endK [] (h2 := ?_) (h3 := ?_) (nd := ?_)
      all_goals (repeat' first|exact ce0|refine ce ?_|refine ce2 ?_ ?_|exact SVLe.refl|refine ceb ?_)
      all_goals first | exact (show nodupB _ = true from rfl) | exact Or.inr rfl | (exact (idxF_stop p xs i h0 (by omega) h2 hc).symm)
    · refine q_again (i + 1) [] (by exact stk) ?_ ?_
      · exact ⟨by omega,by omega,all_snocI _ _ _ h0 (by omega) h2 (by simp [hc])⟩
      · omega
    · repeat refine cr ?_
      refine ends_id ?_
      refine endK [] (h2 := ?_) (h3 := ?_) (nd := ?_)
      all_goals (repeat' first|exact ce0|refine ce ?_|refine ce2 ?_ ?_|exact SVLe.refl|refine ceb ?_)
      all_goals first | exact (show nodupB _ = true from rfl) | exact Or.inr rfl | ((rw [List.take_of_length_le (by omega)] at h2; exact (idxF_none p xs h2).symm))
theorem hasWd_ok (xs : List (List Int)) (k : Nat) (d : D) (p : List Int → Bool) (hx : (xs.length : Int) ≤ 16777216) (hxs : ∀ x ∈ xs,(x.length : Int) ≤ 16777216) (hE : entB Try.prog k = true) (hp : ∀ r,(r.length : Int) ≤ 16777216 → Does Try.prog k [.one (shI r),.one (.d d)] [] (.one (boo (p r))) []) : Does Try.prog 62 [.one (shW xs),.one (.d (.fn (.func k) [d]))] [] (.one (boo (xs.any p))) [] := by
  refine does_of (k := 0) Try.func62 rfl Try.ntmps62 rfl rfl fun w F0 S0 ρ0 => ?_
  dsimp only [argT,argH]
  repeat' first|(apply p3;(first|exact pu1|exact puC);exact rfl)|refine cd ?_|(apply c4 0;exact callK1 (θ := []) (hD := (idxWd_ok _ _ _ _ preA6 preA6 preA6 preA6));exact rfl;exact rfl;exact rfl;refine dM ?_)|fail
  repeat refine cr ?_
  refine ends_id ?_
  refine endK [] (h2 := ?_) (h3 := ?_) (nd := ?_)
  all_goals (repeat' first|exact ce0|refine ce ?_|refine ce2 ?_ ?_|exact SVLe.refl|refine ceb ?_)
  all_goals first | exact (show nodupB _ = true from rfl) | exact Or.inr rfl | (exact idxF_any p xs)
theorem sizeW_ok (xs : List (List Int)) (hx : (xs.length : Int) ≤ 16777216) : Does Try.prog 40 [.one (shW xs)] [] (.one (int xs.length)) [] := by
  refine does_of (k := 0) Try.func40 rfl Try.ntmps40 rfl rfl fun w F0 S0 ρ0 => ?_
  dsimp only [argT,argH]
  repeat' first|(apply p3;(first|exact pu1|exact puN);exact rfl)|refine cd ?_|fail
  repeat refine cr ?_
  refine ends_id ?_
  refine endK [] (h2 := ?_) (h3 := ?_) (nd := ?_)
  all_goals (repeat' first|exact ce0|refine ce ?_|refine ce2 ?_ ?_|exact SVLe.refl|refine ceb ?_)
  all_goals first | exact (show nodupB _ = true from rfl) | exact Or.inr rfl | (rfl)
@[irreducible] def risesL (l : List Int) : Bool := (List.range (l.length - 1)).all fun i => decide (l.getD i 0 < l.getD (i + 1) 0)
theorem rises_no {l : List Int} {i : Int} (h1 : 1 ≤ i) (h : i < l.length) (hn : l[i.toNat]'(by omega) ≤ l[(i - 1).toNat]'(by omega)) : risesL l = false := by
  unfold risesL
  rw [List.all_eq_false]
  refine ⟨(i - 1).toNat,by rw [List.mem_range]; omega,?_⟩
  simp only [decide_eq_true_eq]
  rw [← get_getD l 0 _ (by omega),show (i - 1).toNat + 1 = i.toNat by omega,← get_getD l 0 _ (by omega)]
  omega
theorem rises_yes {l : List Int} {i : Int} (hi : (l.length : Int) ≤ i) (h : ∀ k : Nat,1 ≤ k → (k : Int) < i → k < l.length → l.getD (k - 1) 0 < l.getD k 0) : risesL l = true := by
  unfold risesL
  rw [List.all_eq_true]
  intro k hk
  rw [List.mem_range] at hk
  rw [decide_eq_true_eq]
  exact h (k + 1) (by omega) (by omega) (by omega)
theorem rising_ok (l : List Int) (hx : (l.length : Int) ≤ 16777216) : Does Try.prog 44 [.one (shI l)] [] (.one (boo (risesL l))) [] := by
  refine does_of (k := 0) Try.func44 rfl Try.ntmps44 rfl rfl fun w F0 S0 ρ0 => ?_
  dsimp only [argT,argH]
  repeat' first|(apply p3;(exact pu1);exact rfl)|refine cd ?_|fail
  refine g_loop_id ?_
  refine loopK [0,2] [] (fun i : Int => 1 ≤ i ∧ (i ≤ l.length ∨ i = 1) ∧ ∀ k : Nat,1 ≤ k → (k : Int) < i → k < l.length → l.getD (k - 1) 0 < l.getD k 0) (fun i => [(3,.one (int i))]) (fun _ => []) (fun i => (l.length - i).toNat) (1 : Int) [] (hI := ?_) (hr := ?_)
  · exact ⟨by omega,by omega,fun k h1 h2 => by omega⟩
  · rintro i ⟨h0,h1,h2⟩
    dsimp only [List.cons_append,List.nil_append] at *
    skip
    repeat' first|(apply p3;(first|exact pu1|exact puN|exact puC|exact a_add rfl rfl (by omega) (by omega));exact rfl)|refine cd ?_|(apply g_drN (id := 4) okM [[],[],[1],[0,1,2],[0,1,2,3],[],[],[5,6],[5,6,7],[0,1,2,3,4,5,6,7,8]] [([],[]),([],[]),([],[]),([],[]),([],[]),([],[]),([],[]),([],[]),([],[]),([],[])] 0;(focus (refine dp 0 0 [11,12,15,16,17,18] [] pu1 ?_;refine dp 1 0 [10,15,16,17,18] [] pu1 ?_;refine dp 2 1 [10,15,16,17,18] [] (a_sub rfl rfl (by omega) (by omega)) ?_;refine dp 3 7 [15,16,17,18] [] puI ?_;refine dp 4 15 [15,16,17,18] [] puL ?_;refine dp 5 0 [10,11,12,13,14,16] [] pu1 ?_;refine dp 6 0 [10,11,12,13,14,15] [] pu1 ?_;refine dp 7 3 [10,11,12,13,14] [] puI ?_;refine dp 8 7 [10,11,12,13,14] [] puL ?_;refine dp 9 511 [] [] puC ?_;(refine d_nil ?_;refine dN ?_)));any_goals kernel_rfl)|((refine g_cond rfl (fun hc => ?_) (fun hc => ?_)) <;> (try simp only [dcB] at hc) <;> (try first|contradiction|(exfalso;omega)))|fail
    · repeat refine cr ?_
      refine ends_id ?_
      refine endK [] (h2 := ?_) (h3 := ?_) (nd := ?_)
      all_goals (repeat' first|exact ce0|refine ce ?_|refine ce2 ?_ ?_|exact SVLe.refl|refine ceb ?_)
      all_goals first | exact (show nodupB _ = true from rfl) | exact Or.inr rfl | ((rw [rises_no h0 (by omega) (by omega)]))
    · refine q_again (i + 1) [] (by exact stk) ?_ ?_
      · refine ⟨by omega,by omega,fun k k1 k2 k3 => ?_⟩
        by_cases hk : (k : Int) < i
        · exact h2 k k1 hk k3
        · have e : k = i.toNat := by omega
          subst e
          rw [show i.toNat - 1 = (i - 1).toNat by omega,← get_getD l 0 _ (by omega),← get_getD l 0 _ k3]
          omega
      · omega
    · repeat refine cr ?_
      refine ends_id ?_
      refine endK [] (h2 := ?_) (h3 := ?_) (nd := ?_)
      all_goals (repeat' first|exact ce0|refine ce ?_|refine ce2 ?_ ?_|exact SVLe.refl|refine ceb ?_)
      all_goals first | exact (show nodupB _ = true from rfl) | exact Or.inr rfl | ((rw [rises_yes (by omega) h2]))
end Go.Proofs.Ytjifedbidnmapaa
end
section
set_option linter.unusedVariables false
set_option linter.unusedSimpArgs false
set_option maxRecDepth 100000
set_option maxHeartbeats 4000000
namespace Go.Proofs.Ytjifedbidnmapaa
open Go Foot
structure Tg where
  de : Int
  wo : List (List Int)
  ha : List Int
abbrev tgC (t : Tg) : List C := [int t.de,shW t.wo,shI t.ha]
end Go.Proofs.Ytjifedbidnmapaa
end
section
set_option linter.unusedVariables false
set_option linter.unusedSimpArgs false
set_option linter.unusedSectionVars false
namespace Go.Proofs.Ytjifedbidnmapaa
section
variable {α : Type} [DecidableEq α] (f : α → α) (h o : α → Bool)
def itr : Nat → α → α
  | 0,x => x
  | n + 1,x => itr n (f x)
theorem itr_succ (n : Nat) (x : α) : itr f (n + 1) x = f (itr f n x) := by
  induction n generalizing x with
  | zero => rfl
  | succ n ih => rw [itr,ih,itr]
def cSt : Nat → α → α → Nat
  | 0,_,_ => 0
  | k + 1,a,b => bif decide (a = b) then 0 else cSt k (f a) (f b) + 1
variable {f h o}
section
variable {x : α} {i n b B : Nat}
structure Cyc (f : α → α) (x : α) (i b : Nat) : Prop where
  pos : 0 < b
  eq : itr f i x = itr f (i + b) x
  inj : ∀ j k,j < k → k < i + b → itr f j x ≠ itr f k x
theorem itr_add (m n : Nat) (x : α) : itr f (m + n) x = itr f n (itr f m x) := by
  induction m generalizing x with
  | zero => simp [itr]
  | succ m ih => rw [Nat.succ_add,itr,ih,itr]
theorem Cyc.per (c : Cyc f x i b) (m : Nat) (hm : i ≤ m) : itr f (m + b) x = itr f m x := by
  obtain ⟨d,rfl⟩ := Nat.exists_eq_add_of_le hm
  rw [show i + d + b = i + b + d by omega,itr_add (i + b) d,← c.eq,← itr_add]
theorem Cyc.red (c : Cyc f x i b) : ∀ (d : Nat),itr f (i + d) x = itr f (i + d % b) x := by
  intro d
  induction d using Nat.strongRecOn with
  | _ d ih =>
    by_cases hd : d < b
    · rw [Nat.mod_eq_of_lt hd]
    · have := c.per (i + (d - b)) (by omega)
      rw [show i + (d - b) + b = i + d by omega] at this
      rw [this,ih (d - b) (by have := c.pos; omega),← Nat.mod_eq_sub_mod (by omega)]
theorem Cyc.ne (c : Cyc f x i b) {s l : Nat} (hl : 1 ≤ l) (e : itr f s x = itr f (s + l) x) : i ≤ s ∧ b ≤ l := by
  have hb := c.pos
  by_cases hs : i ≤ s
  · refine ⟨hs,?_⟩
    obtain ⟨d,rfl⟩ := Nat.exists_eq_add_of_le hs
    rw [c.red d,show i + d + l = i + (d + l) by omega,c.red (d + l)] at e
    have h1 := Nat.mod_lt d hb
    have h2 := Nat.mod_lt (d + l) hb
    have h3 : d % b = (d + l) % b := by
      rcases Nat.lt_trichotomy (d % b) ((d + l) % b) with h | h | h
      · exact absurd e (c.inj _ _ (by omega) (by omega))
      · exact h
      · exact absurd e.symm (c.inj _ _ (by omega) (by omega))
    have h4 : (d + l - d) % b = 0 := Nat.sub_mod_eq_zero_of_mod_eq h3.symm
    rw [show d + l - d = l by omega] at h4
    exact Nat.le_of_dvd (by omega) (Nat.dvd_of_mod_eq_zero h4)
  · exfalso
    by_cases hn : s + l < i + b
    · exact c.inj s (s + l) (by omega) hn e
    · have h1 : s + l = i + (s + l - i) := by omega
      rw [h1,c.red] at e
      have h2 := Nat.mod_lt (s + l - i) hb
      exact c.inj s _ (by omega) (by omega) e
theorem Cyc.st (c : Cyc f x i b) : ∀ (K s : Nat),s ≤ i → i - s < K → cSt f K (itr f s x) (itr f (s + b) x) = i - s := by
  intro K
  induction K with
  | zero => intro s _ h; omega
  | succ K ih =>
    intro s hs hK
    rw [cSt,← itr_succ f,← itr_succ f]
    by_cases e : itr f s x = itr f (s + b) x
    · have := (c.ne c.pos e).1
      rw [decide_eq_true e]
      simp only [cond_true]
      omega
    · rw [decide_eq_false e]
      have hne : s ≠ i := fun e' => e (by rw [e']; exact c.eq)
      simp only [cond_false]
      rw [show s + b + 1 = s + 1 + b by omega,ih (s + 1) (by omega) (by omega)]
      omega
end
end
end Go.Proofs.Ytjifedbidnmapaa
end
