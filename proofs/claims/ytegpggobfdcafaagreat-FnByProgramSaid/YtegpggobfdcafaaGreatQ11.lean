/- Parts of the proof (11 of 19). -/
import Derived.Laws.Concat
import Derived.Laws.Cover1
import Derived.Laws.DeepStrings4
import Derived.Laws.IdiomStrings
import Derived.Laws.Runes
import Derived.Laws.Strings2
import Derived.Laws.Strings3
import Derived.Test.YtegpggobfdcafaaGreatQ10
section
set_option linter.unusedVariables false
set_option linter.unusedSimpArgs false
set_option maxRecDepth 100000
namespace Go.Proofs.YtegpggobfdcafaaGreat
open Go Foot
abbrev Bs := List UInt8
abbrev sv (l : Bs) : Value := .string ⟨l.toArray⟩
abbrev u8 (n : Int) : C := .d (.sc (.int .u8 n))
abbrev eY : Enc Int := ⟨1,fun n => [.sc (.int .u8 n)],fun _ => rfl,by decide⟩
abbrev eS : Enc Bs := ⟨1,fun b => [.sc (sv b)],fun _ => rfl,by decide⟩
section
variable {P : Program} {g : Gh} {st : St}
variable {dst : Option Tmp} {ty : TypeId} {pos : String} {after : Array Edge} {guard : Option (Nat × Bool)} {x y : Operand} {T U e : TypeId} {a b : Bs} {m n : Int}
theorem a_of8 (e1 : opd st x = .one (u8 m)) (hT : P.underlying T = some (.int .u8)) (hU : P.underlying U = some (.int .i64)) (h1 : 0 ≤ m) (h2 : m < 256) : Acts P g ⟨dst,.convert T U x,ty,pos,after,guard⟩ st (.one (int m)) [] [] := by
  have := a_conv (P := P) (g := g) (dst := dst) (T := T) (U := U) (ty := ty) (pos := pos) (after := after) (guard := guard) e1 (by rw [hT]; rfl) hU
  rwa [wrap64 (by omega) (by omega)] at this
theorem u_shr1 (e1 : opd st x = .one (.d (.sc (.int .u64 m)))) (e2 : opd st y = .one (.d (.sc (.int .u64 1)))) (h1 : 0 ≤ m) : Acts P g ⟨dst,.binOp .shr T x y U,ty,pos,after,guard⟩ st (.one (.d (.sc (.int .u64 (m / 2))))) [] [] := by
  have := a_bin (P := P) (g := g) (dst := dst) (T := T) (U := U) (ty := ty) (pos := pos) (after := after) (guard := guard) (op := .shr) e1 e2 rfl (show (0 : Int) ≤ 1 by decide)
  have e : m.fdiv (2 ^ min (1 : Int).toNat IntKind.u64.bits) = m / 2 := by
    show m.fdiv (2 ^ min 1 64) = m / 2
    rw [show min 1 64 = 1 from rfl,Int.fdiv_eq_ediv_of_nonneg _ (by decide)]
    rfl
  rwa [e] at this
end
end Go.Proofs.YtegpggobfdcafaaGreat
end
section
set_option linter.unusedVariables false
set_option linter.unusedSimpArgs false
set_option maxRecDepth 100000
set_option maxHeartbeats 4000000
namespace Go.Proofs.YtegpggobfdcafaaGreat
open Go Foot
theorem get0_headD {l : List Int} (h : Int.toNat 0 < l.length) : l[Int.toNat 0] = l.headD 0 := by cases l with | nil => simp at h | cons a l => rfl
theorem preA6 {p : Prop} (h : p := by first | with_reducible assumption | omega | (simp only [List.length_append,List.length_cons,List.length_nil,List.length_set,List.length_replicate,List.length_take,List.length_drop,List.length_tail,List.length_dropLast,List.length_reverse] at *; omega) | exact mem_len (by assumption) (by omega) | trivial) : p := h
theorem l00Own_ok (xs : List Int) (hx : (xs.length : Int) ≤ 16777216) : Does Tryz.prog 88 [.one (shI xs)] [] (.one (.gv 0)) [.row 1 (rows eI xs)] := by
  refine does_of (k := 0) Tryz.func88 rfl Tryz.ntmps88 rfl rfl fun w F0 S0 ρ0 => ?_
  dsimp only [argT,argH]
  repeat' first|(apply n3;exact a_nilO eI rfl;exact rfl)|(apply n3;(exact a_litE eI [] rfl rfl rfl rfl rfl rfl rfl rfl);exact rfl;refine dA ?_)|(apply p3;exact pu1;exact rfl)|refine cd ?_|(apply s3;exact a_appE (fP rfl) rfl rfl rfl rfl nowR (by (simp <;> omega)) (by decide) (by decide) (by exact rfl);exact rfl;exact rfl)|fail
  repeat refine cr ?_
  refine ends_id ?_
  refine endK [?_] (h2 := ?_) (h3 := ?_) (nd := ?_)
  rotate_left 1
  all_goals (repeat' first|exact ce0|refine ce ?_|refine ce2 ?_ ?_|(refine Or.inr (bx_eq rfl rfl ?_);(try dsimp only [C.ren,C.ren.all]);(try exact rfl))|exact SVLe.refl|refine ceb ?_)
  all_goals first | exact (show nodupB _ = true from rfl) | exact Or.inr rfl | (rfl)
theorem l05Budget_ok (n : Int) : Does Tryz.prog 86 [.one (int n)] [] (.one (boo (inB n 1 20000))) [] := by
  refine does_of (k := 0) Tryz.func86 rfl Tryz.ntmps86 rfl rfl fun w F0 S0 ρ0 => ?_
  dsimp only [argT,argH]
  repeat' first|(apply p3;exact pu1;exact rfl)|refine cd ?_|(apply c4 0;exact callK1 (θ := []) (hD := (l00In_ok _ _ _));exact rfl;exact rfl;exact rfl;refine dM ?_)|fail
  all_goals
    repeat refine cr ?_
    refine ends_id ?_
    refine endK [] (h2 := ?_) (h3 := ?_) (nd := ?_)
    all_goals (repeat' first|exact ce0|refine ce ?_|refine ce2 ?_ ?_|exact SVLe.refl|refine ceb ?_)
    all_goals first | exact (show nodupB _ = true from rfl) | exact Or.inr rfl | (rfl)
theorem budgetOk_ok (n : Int) : Does Tryz.prog 51 [.one (int n)] [] (.one (boo (inB n 1 20000))) [] := by
  refine does_of (k := 0) Tryz.func51 rfl Tryz.ntmps51 rfl rfl fun w F0 S0 ρ0 => ?_
  dsimp only [argT,argH]
  repeat' first|(apply p3;exact pu1;exact rfl)|refine cd ?_|(apply c4 0;exact callK1 (θ := []) (hD := (within_ok _ _ _));exact rfl;exact rfl;exact rfl;refine dM ?_)|fail
  all_goals
    repeat refine cr ?_
    refine ends_id ?_
    refine endK [] (h2 := ?_) (h3 := ?_) (nd := ?_)
    all_goals (repeat' first|exact ce0|refine ce ?_|refine ce2 ?_ ?_|exact SVLe.refl|refine ceb ?_)
    all_goals first | exact (show nodupB _ = true from rfl) | exact Or.inr rfl | (rfl)
theorem all_snoc {α : Type} (p : α → Bool) (l : List α) (n : Nat) (h : n < l.length) : (l.take (n + 1)).all p = ((l.take n).all p && p l[n]) := by
  rw [List.take_succ_eq_append_getElem h,List.all_append]; simp
theorem all_snocI {α : Type} (p : α → Bool) (l : List α) (i : Int) (h0 : 0 ≤ i) (h : i < l.length) (h1 : (l.take i.toNat).all p = true) (h2 : p (l[i.toNat]'(by omega)) = true) : (l.take (i + 1).toNat).all p = true := by
  rw [show (i + 1).toNat = i.toNat + 1 by omega,all_snoc p l _ (by omega),h1,h2]; rfl
theorem all_no {α : Type} (p : α → Bool) (l : List α) (n : Nat) (h : n < l.length) (h2 : ¬ p l[n] = true) : l.all p = false := by
  rw [List.all_eq_false]
  exact ⟨l[n],List.getElem_mem h,by simpa using h2⟩
theorem getLastD_at (l : List Int) (d : Int) (h : 0 < (l.length : Int)) : l.getLastD d = l[((l.length : Int) - 1).toNat]'(by omega) := by
  have hne : l ≠ [] := by intro e; subst e; simp at h
  rw [List.getLastD_eq_getLast?,List.getLast?_eq_getElem?,List.getElem?_eq_getElem (by omega)]
  simp only [Option.getD_some]
  congr 1
  omega
theorem sizeI_ok (xs : List Int) (hx : (xs.length : Int) ≤ 16777216) : Does Tryz.prog 130 [.one (shI xs)] [] (.one (int xs.length)) [] := by
  refine does_of (k := 0) Tryz.func130 rfl Tryz.ntmps130 rfl rfl fun w F0 S0 ρ0 => ?_
  dsimp only [argT,argH]
  repeat' first|(apply p3;(first|exact pu1|exact puN);exact rfl)|refine cd ?_|fail
  repeat refine cr ?_
  refine ends_id ?_
  refine endK [] (h2 := ?_) (h3 := ?_) (nd := ?_)
  all_goals (repeat' first|exact ce0|refine ce ?_|refine ce2 ?_ ?_|exact SVLe.refl|refine ceb ?_)
  all_goals first | exact (show nodupB _ = true from rfl) | exact Or.inr rfl | (rfl)
@[irreducible] def idxF {α : Type} (p : α → Bool) (l : List α) : Int := match l.findIdx? p with | some i => i | none => -1
theorem idxF_stop {α : Type} (p : α → Bool) (l : List α) (i : Int) (h0 : 0 ≤ i) (h : i < l.length) (h1 : (l.take i.toNat).all (fun x => !p x) = true) (h2 : p (l[i.toNat]'(by omega)) = true) : idxF p l = i := by
  have : l.findIdx? p = some i.toNat := by
    rw [List.findIdx?_eq_some_iff_getElem]
    refine ⟨by omega,h2,fun j hj => ?_⟩
    rw [List.all_eq_true] at h1
    have := h1 (l[j]'(by omega)) (by rw [List.mem_take_iff_getElem]; exact ⟨j,by omega,rfl⟩)
    simpa using this
  unfold idxF
  rw [this]
  simp only
  omega
theorem idxF_none {α : Type} (p : α → Bool) (l : List α) (h1 : l.all (fun x => !p x) = true) : idxF p l = -1 := by
  have : l.findIdx? p = none := by
    rw [List.findIdx?_eq_none_iff]
    rw [List.all_eq_true] at h1
    intro x hx
    simpa using h1 x hx
  unfold idxF
  rw [this]
theorem idxF_any {α : Type} (p : α → Bool) (l : List α) : decide (0 ≤ idxF p l) = l.any p := by
  unfold idxF
  cases h : l.findIdx? p with
  | none =>
    rw [List.findIdx?_eq_none_iff] at h
    have : l.any p = false := by rw [List.any_eq_false]; intro x hx; simp [h x hx]
    rw [this]; rfl
  | some i =>
    obtain ⟨h1,h2,_⟩ := List.findIdx?_eq_some_iff_getElem.1 h
    have : l.any p = true := by rw [List.any_eq_true]; exact ⟨l[i],List.getElem_mem h1,h2⟩
    rw [this]
    simp
theorem not_any_not {α : Type} (p : α → Bool) (l : List α) : (!l.any fun x => !p x) = l.all p := by
  induction l with
  | nil => rfl
  | cons a l ih => simp only [List.any_cons,List.all_cons,Bool.not_or,Bool.not_not,ih]
@[irreducible] def inAll (lo hi : Int) (l : List Int) : Bool := l.all (fun x => decide (lo ≤ x ∧ x ≤ hi))
theorem allWithin_ok (xs : List Int) (lo hi : Int) (hx : (xs.length : Int) ≤ 16777216) : Does Tryz.prog 113 [.one (shI xs),.one (int lo),.one (int hi)] [] (.one (boo (inAll lo hi xs))) [] := by
  refine does_of (k := 0) Tryz.func113 rfl Tryz.ntmps113 rfl rfl fun w F0 S0 ρ0 => ?_
  dsimp only [argT,argH]
  repeat' first|(apply p3;(first|exact pu1|exact puN);exact rfl)|refine cd ?_|fail
  refine g_loop_id ?_
  refine loopK [1,2,6,9,10] [] (fun i : Int => 0 ≤ i ∧ i ≤ xs.length ∧ (xs.take i.toNat).all (fun x => decide (lo ≤ x ∧ x ≤ hi)) = true) (fun i => [(11,.one (int i))]) (fun _ => []) (fun i => (xs.length - i).toNat) (0 : Int) [] (hI := ?_) (hr := ?_)
  · exact ⟨by omega,by omega,rfl⟩
  · rintro i ⟨h0,h1,h2⟩
    dsimp only [List.cons_append,List.nil_append] at *
    skip
    repeat' first|(apply p3;(first|exact pu1|exact puC|exact a_add rfl rfl (by omega) (by omega)|exact puI);exact rfl)|refine cd ?_|(apply c4 0;exact callK1 (θ := []) (hD := (within_ok _ _ _));exact rfl;exact rfl;exact rfl;refine dM ?_)|((refine g_cond rfl (fun hc => ?_) (fun hc => ?_)) <;> (try simp only [dcB] at hc) <;> (try first|contradiction|(exfalso;omega)))|fail
    · repeat refine cr ?_
      refine ends_id ?_
      refine endK [] (h2 := ?_) (h3 := ?_) (nd := ?_)
      all_goals (repeat' first|exact ce0|refine ce ?_|refine ce2 ?_ ?_|exact SVLe.refl|refine ceb ?_)
      all_goals first | exact (show nodupB _ = true from rfl) | exact Or.inr rfl | ((unfold inAll; rw [all_no _ _ i.toNat (by omega) (by rw [decide_eq_true_eq]; exact hc)]))
    · refine q_again (i + 1) [] (by exact stk) ?_ ?_
      · exact ⟨by omega,by omega,all_snocI _ _ _ h0 (by omega) h2 (by rw [decide_eq_true_eq]; exact hc)⟩
      · omega
    · repeat refine cr ?_
      refine ends_id ?_
      refine endK [] (h2 := ?_) (h3 := ?_) (nd := ?_)
      all_goals (repeat' first|exact ce0|refine ce ?_|refine ce2 ?_ ?_|exact SVLe.refl|refine ceb ?_)
      all_goals first | exact (show nodupB _ = true from rfl) | exact Or.inr rfl | ((unfold inAll; rw [List.take_of_length_le (by omega)] at h2; exact h2.symm))
theorem clone_ok (xs : List Int) (hx : (xs.length : Int) ≤ 16777216) : Does Tryz.prog 128 [.one (shI xs)] [] (.one (.gv 0)) [.row 1 (rows eI xs)] := by
  refine does_of (k := 0) Tryz.func128 rfl Tryz.ntmps128 rfl rfl fun w F0 S0 ρ0 => ?_
  dsimp only [argT,argH]
  repeat' first|(apply n3;exact a_nilO eI rfl;exact rfl)|(apply n3;(exact a_litE eI [] rfl rfl rfl rfl rfl rfl rfl rfl);exact rfl;refine dA ?_)|(apply p3;(exact pu1);exact rfl)|refine cd ?_|(apply s3;exact a_appE (fP rfl) rfl rfl rfl rfl nowR (by (simp <;> omega)) (by decide) (by decide) (by exact rfl);exact rfl;exact rfl)|(apply o_isnil;exact rfl;exact rfl;exact (fE rfl);exact rfl;exact rfl;intro b hnil)|((refine g_cond rfl (fun hc => ?_) (fun hc => ?_)) <;> (try simp only [dcB] at hc) <;> (try first|contradiction|(exfalso;omega)))|fail
  · repeat refine cr ?_
    refine ends_id ?_
    refine endK [?_] (h2 := ?_) (h3 := ?_) (nd := ?_)
    rotate_left 1
    all_goals (repeat' first|exact ce0|refine ce ?_|refine ce2 ?_ ?_|(refine Or.inr (bx_eq rfl rfl ?_);(try dsimp only [C.ren,C.ren.all]);(try exact rfl))|exact SVLe.refl|refine ceb ?_)
    all_goals first | exact (show nodupB _ = true from rfl) | exact Or.inr rfl | (exact (hnil hc).symm)
  · repeat refine cr ?_
    refine ends_id ?_
    refine endK [?_] (h2 := ?_) (h3 := ?_) (nd := ?_)
    rotate_left 1
    all_goals (repeat' first|exact ce0|refine ce ?_|refine ce2 ?_ ?_|(refine Or.inr (bx_eq rfl rfl ?_);(try dsimp only [C.ren,C.ren.all]);(try exact rfl))|exact SVLe.refl|refine ceb ?_)
    all_goals first | exact (show nodupB _ = true from rfl) | exact Or.inr rfl | (rfl)
def turned (xs l : List Int) (i : Int) : Prop := l.length = xs.length ∧ ∀ k : Nat,k < xs.length → l[k]? = if (k : Int) < i ∨ (xs.length : Int) - 1 - i < k then xs[xs.length - 1 - k]? else xs[k]?
theorem turned_step {xs l : List Int} {i : Int} (h0 : 0 ≤ i) (h1 : i < (xs.length : Int) - 1 - i) (h : turned xs l i) (a b : Int) (ha : l[((xs.length : Int) - 1 - i).toNat]? = some a) (hb : l[i.toNat]? = some b) : turned xs ((l.set i.toNat a).set ((xs.length : Int) - 1 - i).toNat b) (i + 1) := by
  obtain ⟨hl,hk⟩ := h
  refine ⟨by simp [hl],fun k hk' => ?_⟩
  have hi := hk i.toNat (by omega)
  have hj := hk ((xs.length : Int) - 1 - i).toNat (by omega)
  rw [if_neg (by omega),hb] at hi
  rw [if_neg (by omega),ha] at hj
  rw [List.getElem?_set,List.getElem?_set]
  by_cases e1 : ((xs.length : Int) - 1 - i).toNat = k
  · rw [if_pos e1,if_pos (by simp [hl]; omega),if_pos (by omega),hi]
    congr 1; omega
  · rw [if_neg e1]
    by_cases e2 : i.toNat = k
    · rw [if_pos e2,if_pos (by omega),if_pos (by omega),hj]
      congr 1; omega
    · rw [if_neg e2,hk k hk']
      by_cases e3 : (k : Int) < i ∨ (xs.length : Int) - 1 - i < k
      · rw [if_pos e3,if_pos (by omega)]
      · rw [if_neg e3,if_neg (by omega)]
theorem turned_end {xs l : List Int} {i : Int} (h1 : ¬ i < (xs.length : Int) - 1 - i) (h2 : i ≤ (xs.length : Int) - 1 - i + 1) (h : turned xs l i) : l = xs.reverse := by
  obtain ⟨hl,hk⟩ := h
  apply List.ext_getElem?
  intro k
  by_cases hk' : k < xs.length
  · rw [hk k hk',List.getElem?_reverse hk']
    split
    · rfl
    · congr 1; omega
  · rw [List.getElem?_eq_none (by omega),List.getElem?_eq_none (by simp; omega)]
theorem reverse_ok (xs : List Int) (hx : (xs.length : Int) ≤ 16777216) : Does Tryz.prog 163 [.one (.gv 0)] [.row 1 (rows eI xs)] .any [.row 1 (rows eI xs.reverse)] := by
  refine does_of (k := 1) Tryz.func163 rfl Tryz.ntmps163 rfl rfl fun w F0 S0 ρ0 => ?_
  dsimp only [argT,argH]
  repeat' first|(apply p3;(first|exact pu1|exact puN|exact a_sub rfl rfl (by omega) (by omega));exact rfl)|refine cd ?_|fail
  refine g_loop_id ?_
  refine loopK [0] [0] (fun x : Int × Int × List Int => 0 ≤ x.1 ∧ x.2.1 = (xs.length : Int) - 1 - x.1 ∧ x.1 ≤ x.2.1 + 1 ∧ turned xs x.2.2 x.1) (fun x => [(2,.one (int x.1)),(3,.one (int x.2.1))]) (fun x => [(0,.row 1 (rows eI x.2.2))]) (fun x => (xs.length - x.1).toNat) ((0 : Int),(xs.length : Int) - 1,xs) [0] (hI := ?_) (hr := ?_)
  · exact ⟨by simp,by simp,by dsimp only; omega,rfl,fun k hk => by rw [if_neg (by dsimp only; omega)]⟩
  · rintro ⟨i,j,l⟩ ⟨h0,hj,h1,h2⟩
    dsimp only [List.cons_append,List.nil_append] at *
    skip
    repeat' first|(apply p3;(first|exact pu1|exact puC);exact rfl)|refine cd ?_|((refine g_cond rfl (fun hc => ?_) (fun hc => ?_)) <;> (try simp only [dcB] at hc) <;> (try first|contradiction|(exfalso;omega)))|fail
    · have hl : l.length = xs.length := h2.1
      apply g_drN (id := 3) okM [[],[],[],[],[],[],[4,5],[4,5,6],[],[],[8,9],[8,9,10],[0,1,4,5,6,7,8,9,10,11],[0,1,4,5,6,7,8,9,10,11,12],[0,1,2,3,4,5,6,7,8,9,10,11,12,13],[0,1,2,3,4,5,6,7,8,9,10,11,12,13,14]] [([],[]),([],[]),([],[]),([],[]),([],[]),([],[]),([],[]),([],[]),([],[]),([],[]),([],[]),([],[]),([],[]),([],[0]),([],[]),([],[0])] 0
      (focus (refine dp 0 0 [15,16,17,18,19,20,21,22,23,24,25] [] pu1 ?_; refine dp 1 0 [14,16,17,18,19,20,21,22,23,24,25] [] pu1 ?_; refine dp 2 0 [14,15,17,18,19,20,21,22,23,24,25,26] [(false,0)] pu1 ?_; refine dp 3 0 [14,15,16,18,19,20,21,22,23,24,25,26] [(false,0)] pu1 ?_; refine dp 4 0 [14,15,16,17,19,22,23,24,25] [] pu1 ?_; refine dp 5 0 [14,15,16,17,18,22,23,24,25] [] pu1 ?_; refine dp 6 3 [14,15,16,17,22,23,24,25] [] puI ?_; refine dp 7 7 [14,15,16,17,22,23,24,25] [] puL ?_; refine dp 8 0 [14,15,16,17,18,19,20,21,23] [] pu1 ?_; refine dp 9 0 [14,15,16,17,18,19,20,21,22] [] pu1 ?_; refine dp 10 3 [14,15,16,17,18,19,20,21] [] puI ?_; refine dp 11 7 [14,15,16,17,18,19,20,21] [] puL ?_; refine dp 12 3327 [16,17] [] puI ?_; refine duE 13 6655 [16,17] [] (by first | exact a_st_bx rfl rfl rfl rfl (fN rfl rfl) (Nat.le_of_ble_eq_true rfl) rfl | exact a_st_rowI rfl rfl rfl rfl (fN rfl rfl) bnd | exact a_stE (E := eI) _ rfl rfl rfl rfl (fN rfl rfl) bnd (by exact rfl)) (by exact rfl) (by exact rfl) ?_; refine dp 14 16383 [] [] puI ?_; refine duE 15 32767 [] [] (by first | exact a_st_bx rfl rfl rfl rfl (fN rfl rfl) (Nat.le_of_ble_eq_true rfl) rfl | exact a_st_rowI rfl rfl rfl rfl (fN rfl rfl) bnd | exact a_stE (E := eI) _ rfl rfl rfl rfl (fN rfl rfl) bnd (by exact rfl)) (by exact rfl) (by exact rfl) ?_; (refine d_nil ?_; refine dN ?_)))
      any_goals kernel_rfl
      repeat' first|(apply p3;(first|exact pu1|exact a_add rfl rfl (by omega) (by omega)|exact a_sub rfl rfl (by omega) (by omega));exact rfl)|refine cd ?_|fail
      refine q_again (i + 1,j - 1,_) [0] (by exact stk) ?_ ?_
      · refine ⟨by dsimp only; omega,by dsimp only; omega,by dsimp only; omega,?_⟩
        dsimp only
        subst hj
        exact turned_step h0 (by omega) h2 _ _ (List.getElem?_eq_getElem (by omega)) (List.getElem?_eq_getElem (by omega))
      · dsimp only; omega
    · repeat refine cr ?_
      refine ends_id ?_
      refine endK [] (h2 := ?_) (h3 := ?_) (nd := ?_)
      all_goals (repeat' first|exact ce0|refine ce ?_|refine ce2 ?_ ?_|(refine Or.inr (bx_eq rfl rfl ?_);(try dsimp only [C.ren,C.ren.all]);(try exact rfl))|exact SVLe.refl|refine ceb ?_)
      all_goals first | exact (show nodupB _ = true from rfl) | exact Or.inr rfl | ((subst hj; exact turned_end hc (by omega) h2))
theorem reversed_ok (xs : List Int) (hx : (xs.length : Int) ≤ 16777216) : Does Tryz.prog 106 [.one (shI xs)] [] (.one (.gv 0)) [.row 1 (rows eI xs.reverse)] := by
  refine does_of (k := 0) Tryz.func106 rfl Tryz.ntmps106 rfl rfl fun w F0 S0 ρ0 => ?_
  dsimp only [argT,argH]
  repeat' first|(apply n3;exact a_nilO eI rfl;exact rfl)|(apply p3;exact pu1;exact rfl)|refine cd ?_|(apply c4 1;exact callK1 (θ := []) (hD := (clone_ok _ preA6));exact rfl;exact rfl;exact rfl;refine dM ?_)|(apply c4 0;exact callK1 (θ := [_]) (hD := (reverse_ok _ preA6));exact rfl;exact rfl;exact rfl;refine dM ?_)|fail
  repeat refine cr ?_
  refine ends_id ?_
  refine endK [?_] (h2 := ?_) (h3 := ?_) (nd := ?_)
  rotate_left 1
  all_goals (repeat' first|exact ce0|refine ce ?_|refine ce2 ?_ ?_|(refine Or.inr (bx_eq rfl rfl ?_);(try dsimp only [C.ren,C.ren.all]);(try exact rfl))|exact SVLe.refl|refine ceb ?_)
  all_goals first | exact (show nodupB _ = true from rfl) | exact Or.inr rfl | (rfl)
@[irreducible] def risesL (l : List Int) : Bool := (List.range (l.length - 1)).all fun i => decide (l.getD i 0 < l.getD (i + 1) 0)
end Go.Proofs.YtegpggobfdcafaaGreat
end
section
set_option linter.unusedVariables false
set_option linter.unusedSimpArgs false
set_option maxRecDepth 100000
set_option maxHeartbeats 4000000
namespace Go.Proofs.YtegpggobfdcafaaGreat
open Go Foot
theorem rule_eq1 : Tryz.prog.stoodInHeld 142 = false := by kernel_rfl
theorem rule_eq2 : Tryz.prog.eqGuardType Tryz.prog.depth 142 = false := by kernel_rfl
theorem rule_eq3 : Tryz.prog.underlying 142 = some (.struct (Tryz.prog.fieldsOf 142)) := by kernel_rfl
theorem rule_equal (r s : Rule') (W : World) : (Op.equalIn 10000 142 (.agg #[.int .i64 r.w,.int .i64 r.m,.int .i64 r.n]) (.agg #[.int .i64 s.w,.int .i64 s.m,.int .i64 s.n])).run Tryz.prog W = .ok (decide (r = s)) W := by
  obtain ⟨a,b,c⟩ := r
  obtain ⟨a',b',c'⟩ := s
  rw [run_equalIn_struct W 9999 _ _ _ rule_eq3 rule_eq1]
  have hf : Tryz.prog.fieldsOf 142 = match Tryz.prog.underlying 142 with | some (.struct fs) => fs | _ => #[] := by kernel_rfl
  rw [hf,Tryz.underlying142]
  by_cases h1 : a = a' <;> by_cases h2 : b = b' <;> by_cases h3 : c = c' <;> simp [go_sem,Tryz.underlying2,h1,h2,h3]
theorem rule_guard (op : BinOp) (p q : Operand) (xs ys : Array Value) (W : World) : (eqGuard op 142 p q (.agg xs) (.agg ys)).run Tryz.prog W = .ok () W := by
  unfold eqGuard
  cases op <;> simp [program,Sem.run,rule_eq2]
section
variable {g : Gh} {st : St} {dst : Option Tmp} {ty : TypeId} {pos : String} {after : Array Edge} {guard : Option (Nat × Bool)} {x y : Operand} {U : TypeId} {r s : Rule'}
theorem agg3 {w : World} {S : Foot} {ρ : Env} {r : Rule'} {v : Value} (h : RepS w S ρ (.agg (ruC r)) v) : v = .agg #[.int .i64 r.w,.int .i64 r.m,.int .i64 r.n] := by
  obtain ⟨vs,rfl,h⟩ := h
  simp only [RepCs,RepC,Rep] at h
  obtain ⟨v1,u1,e1,⟨rfl,_⟩,v2,u2,rfl,⟨rfl,_⟩,v3,u3,rfl,⟨rfl,_⟩,rfl⟩ := h
  cases vs
  simp at e1
  rw [e1]
theorem a_eqRule (e1 : opd st x = .agg (ruC r)) (e2 : opd st y = .agg (ruC s)) : Acts Tryz.prog g ⟨dst,.binOp .eql 142 x y U,ty,pos,after,guard⟩ st (.one (boo (decide (r = s)))) [] [] := by
  refine acts_of fun a w S ρ F h => ⟨.bool (decide (r = s)),?_,rfl,rfl⟩
  have h1 := h.opd x
  have h2 := h.opd y
  rw [e1] at h1
  rw [e2] at h2
  show (do pure (.value (← (do eqGuard .eql 142 x y (a.eval x) (a.eval y); binOp .eql 142 (a.eval x) (a.eval y)))) : Sem Next).run _ w = _
  rw [agg3 h1,agg3 h2]
  simp [rule_guard,run_eql_struct,rule_equal]
theorem a_neRule (e1 : opd st x = .agg (ruC r)) (e2 : opd st y = .agg (ruC s)) : Acts Tryz.prog g ⟨dst,.binOp .neq 142 x y U,ty,pos,after,guard⟩ st (.one (boo (!decide (r = s)))) [] [] := by
  refine acts_of fun a w S ρ F h => ⟨.bool (!decide (r = s)),?_,rfl,rfl⟩
  have h1 := h.opd x
  have h2 := h.opd y
  rw [e1] at h1
  rw [e2] at h2
  show (do pure (.value (← (do eqGuard .neq 142 x y (a.eval x) (a.eval y); binOp .neq 142 (a.eval x) (a.eval y)))) : Sem Next).run _ w = _
  rw [agg3 h1,agg3 h2]
  simp [rule_guard,run_neq_struct,rule_equal]
end
@[irreducible] def trimR (l : List Int) : List Int := (l.reverse.dropWhile (· == 0)).reverse
theorem trimR_nil : trimR [] = [] := by unfold trimR; rfl
theorem trimR_len (l : List Int) : (trimR l).length ≤ l.length := by
  unfold trimR
  rw [List.length_reverse]
  have := (List.dropWhile_sublist (· == (0 : Int)) (l := l.reverse)).length_le
  rwa [List.length_reverse] at this
theorem trimR_take (xs : List Int) (n : Nat) (hn : n < xs.length) (h0 : xs[n] = 0) : trimR (xs.take (n + 1)) = trimR (xs.take n) := by
  unfold trimR
  rw [List.take_succ_eq_append_getElem hn,List.reverse_append,List.reverse_singleton,h0]
  simp
theorem trimR_stop (xs : List Int) (n : Nat) (hn : n < xs.length) (h0 : xs[n] ≠ 0) : trimR (xs.take (n + 1)) = xs.take (n + 1) := by
  unfold trimR
  rw [List.take_succ_eq_append_getElem hn,List.reverse_append,List.reverse_singleton]
  simp [h0]
theorem preB1 {p : Prop} (h : p := by first | with_reducible assumption | omega | (simp only [List.length_append,List.length_cons,List.length_nil,List.length_set,List.length_replicate,List.length_take,List.length_drop,List.length_tail,List.length_dropLast,List.length_reverse] at *; omega) | exact mem_len (by assumption) (by omega) | (with_reducible refine Int.le_trans (Int.ofNat_le.2 (trimR_len _)) ?_; simp only [List.length_cons,List.length_tail]; omega) | trivial) : p := h
theorem l05None_ok : Does Tryz.prog 90 [] [] (.agg [int 0,int 0,int (-1)]) [] := by
  refine does_of (k := 0) Tryz.func90 rfl Tryz.ntmps90 rfl rfl fun w F0 S0 ρ0 => ?_
  dsimp only [argT,argH]
  repeat' first|(apply n3;exact a_new (gb := .bx _) rfl;exact rfl;refine dA ?_)|(apply p3;exact a_pure (sv := .agg _) rfl;exact rfl)|refine cd ?_|(apply w3;(exact a_st_bx rfl rfl rfl rfl (fN rfl rfl) (Nat.le_of_ble_eq_true rfl) rfl);exact rfl;refine dS ?_)|fail
  repeat refine cr ?_
  refine ends_id ?_
  refine endK [] (h2 := ?_) (h3 := ?_) (nd := ?_)
  all_goals (repeat' first|exact ce0|refine ce ?_|refine ce2 ?_ ?_|exact SVLe.refl|refine ceb ?_)
  all_goals first | exact (show nodupB _ = true from rfl) | exact Or.inr rfl | (rfl)
theorem l05Head_ok (c : Conf) (hc : (c.ri.length : Int) ≤ 16777216) : Does Tryz.prog 148 [.one (.d (.bx false [.sc (.int .i64 c.st),.sl false 1 (rows eI c.le),.sl false 1 (rows eI c.ri)]))] [] (.one (int (c.ri.headD 0))) [] := by
  refine does_of (k := 0) Tryz.func148 rfl Tryz.ntmps148 rfl rfl fun w F0 S0 ρ0 => ?_
  dsimp only [argT,argH]
  repeat' first|(apply p3;(first|exact pu1|exact puN|exact puC|exact puI);exact rfl)|refine cd ?_|((refine g_cond rfl (fun hc => ?_) (fun hc => ?_)) <;> (try simp only [dcB] at hc) <;> (try first|contradiction|(exfalso;omega)))|fail
  · repeat refine cr ?_
    refine ends_id ?_
    refine endK [] (h2 := ?_) (h3 := ?_) (nd := ?_)
    all_goals (repeat' first|exact ce0|refine ce ?_|refine ce2 ?_ ?_|exact SVLe.refl|refine ceb ?_)
    all_goals first | exact (show nodupB _ = true from rfl) | exact Or.inr rfl | ((cases h : c.ri <;> (try rw [h] at hc) <;> simp_all <;> omega))
  · repeat refine cr ?_
    refine ends_id ?_
    refine endK [] (h2 := ?_) (h3 := ?_) (nd := ?_)
    all_goals (repeat' first|exact ce0|refine ce ?_|refine ce2 ?_ ?_|exact SVLe.refl|refine ceb ?_)
    all_goals first | exact (show nodupB _ = true from rfl) | exact Or.inr rfl | (exact get0_headD _)
theorem l05Rest_ok (xs : List Int) (hx : (xs.length : Int) ≤ 16777216) : Does Tryz.prog 92 [.one (shI xs)] [] (.one (.gv 0)) [.row 1 (rows eI xs.tail)] := by
  refine does_of (k := 0) Tryz.func92 rfl Tryz.ntmps92 rfl rfl fun w F0 S0 ρ0 => ?_
  dsimp only [argT,argH]
  repeat' first|(apply n3;exact a_nilO eI rfl;exact rfl)|(apply n3;exact a_litE eI [] rfl rfl rfl rfl rfl rfl rfl rfl;exact rfl;refine dA ?_)|(apply p3;(first|exact pu1|exact puN|exact puC|exact a_slT rfl rfl rfl (fS rfl) (by omega) (by omega) (by exact rfl));exact rfl)|refine cd ?_|(apply c4 1;exact callK1 (θ := []) (hD := (l00Own_ok _ preB1));exact rfl;exact rfl;exact rfl;refine dM ?_)|((refine g_cond rfl (fun hc => ?_) (fun hc => ?_)) <;> (try simp only [dcB] at hc) <;> (try first|contradiction|(exfalso;omega)))|fail
  all_goals
    repeat refine cr ?_
    refine ends_id ?_
    refine endK [?_] (h2 := ?_) (h3 := ?_) (nd := ?_)
    rotate_left 1
    all_goals (repeat' first|exact ce0|refine ce ?_|refine ce2 ?_ ?_|(refine Or.inr (bx_eq rfl rfl ?_);(try dsimp only [C.ren,C.ren.all]);(try exact rfl))|exact SVLe.refl|refine ceb ?_)
    all_goals first | exact (show nodupB _ = true from rfl) | exact Or.inr rfl | ((cases xs <;> simp_all <;> omega))
theorem l05Trim_ok (xs : List Int) (hx : (xs.length : Int) ≤ 16777216) : Does Tryz.prog 49 [.one (shI xs)] [] (.one (.gv 0)) [.row 1 (rows eI (trimR xs))] := by
  refine does_of (k := 0) Tryz.func49 rfl Tryz.ntmps49 rfl rfl fun w F0 S0 ρ0 => ?_
  dsimp only [argT,argH]
  repeat' first|(apply n3;exact a_nilO eI rfl;exact rfl)|(apply p3;(first|exact pu1|exact puN);exact rfl)|refine cd ?_|fail
  refine g_loop_id ?_
  refine loopK [0] [] (fun n : Int => 0 ≤ n ∧ n ≤ xs.length ∧ trimR (xs.take n.toNat) = trimR xs) (fun n => [(3,.one (int n))]) (fun _ => []) (fun n => n.toNat) (xs.length : Int) [0] (hI := ?_) (hr := ?_)
  · exact ⟨by omega,by omega,by simp⟩
  · rintro n ⟨h0,h1,h2⟩
    dsimp only [List.cons_append,List.nil_append]
    repeat' first|(apply p3;(first|exact pu1|exact puC|exact a_sub rfl rfl (by omega) (by omega)|exact a_slH rfl rfl rfl (fS rfl) (by omega) (by omega) (by exact rfl));exact rfl)|refine cd ?_|(apply c4 1;exact callK1 (θ := []) (hD := (l00Own_ok _ preB1));exact rfl;exact rfl;exact rfl;refine dM ?_)|refine o_no rfl rfl rfl rfl ?_|(apply py3;exact rfl;exact rfl;(first|exact pu1|exact puC|exact a_sub rfl rfl (by omega) (by omega)|exact puI);exact rfl;exact rfl)|((first|refine o_gs rfl rfl (fun hc => ?_) (fun hc => ?_)|refine g_cond rfl (fun hc => ?_) (fun hc => ?_)) <;> (try simp only [dcB] at hc) <;> (try first|contradiction|(exfalso;omega)))|fail
    · refine q_again (n - 1) [0] (by exact stk) ?_ ?_
      · refine ⟨by omega,by omega,?_⟩
        rw [← h2,show n.toNat = (n - 1).toNat + 1 by omega]
        exact (trimR_take _ _ (by omega) hc).symm
      · omega
    · repeat refine cr ?_
      refine ends_id ?_
      refine endK [?_] (h2 := ?_) (h3 := ?_) (nd := ?_)
      rotate_left 1
      all_goals (repeat' first|exact ce0|refine ce ?_|refine ce2 ?_ ?_|(refine Or.inr (bx_eq rfl rfl ?_);(try dsimp only [C.ren,C.ren.all]);(try exact rfl))|exact SVLe.refl|refine ceb ?_)
      all_goals first | exact (show nodupB _ = true from rfl) | exact Or.inr rfl | ((rw [← h2,show n.toNat = (n - 1).toNat + 1 by omega]; exact (trimR_stop _ _ (by omega) hc).symm))
    · repeat refine cr ?_
      refine ends_id ?_
      refine endK [?_] (h2 := ?_) (h3 := ?_) (nd := ?_)
      rotate_left 1
      all_goals (repeat' first|exact ce0|refine ce ?_|refine ce2 ?_ ?_|(refine Or.inr (bx_eq rfl rfl ?_);(try dsimp only [C.ren,C.ren.all]);(try exact rfl))|exact SVLe.refl|refine ceb ?_)
      all_goals first | exact (show nodupB _ = true from rfl) | exact Or.inr rfl | ((rw [← h2,show n.toNat = 0 by omega,List.take_zero,trimR_nil]))
theorem l05Push_ok (x : Int) (xs : List Int) (hx : (xs.length : Int) ≤ 16777210) : Does Tryz.prog 93 [.one (int x),.one (shI xs)] [] (.one (.gv 0)) [.row 1 (rows eI (trimR (x :: xs)))] := by
  refine does_of (k := 0) Tryz.func93 rfl Tryz.ntmps93 rfl rfl fun w F0 S0 ρ0 => ?_
  dsimp only [argT,argH]
  repeat' first|(apply n3;exact a_nilO eI rfl;exact rfl)|(apply n3;(exact a_litE eI [_] rfl rfl rfl rfl rfl rfl rfl rfl);exact rfl;refine dA ?_)|(apply p3;exact pu1;exact rfl)|refine cd ?_|(apply s3;exact a_appE (fP rfl) rfl rfl rfl rfl nowR (by (simp <;> omega)) (by decide) (by decide) (by exact rfl);exact rfl;exact rfl)|(apply c4 1;exact callK1 (θ := []) (hD := (l05Trim_ok _ preB1));exact rfl;exact rfl;exact rfl;refine dM ?_)|fail
  repeat refine cr ?_
  refine ends_id ?_
  refine endK [?_] (h2 := ?_) (h3 := ?_) (nd := ?_)
  rotate_left 1
  all_goals (repeat' first|exact ce0|refine ce ?_|refine ce2 ?_ ?_|(refine Or.inr (bx_eq rfl rfl ?_);(try dsimp only [C.ren,C.ren.all]);(try exact rfl))|exact SVLe.refl|refine ceb ?_)
  all_goals first | exact (show nodupB _ = true from rfl) | exact Or.inr rfl | (rfl)
theorem l05At_ok (m : Mach) (c : Conf) (hc : (c.ri.length : Int) ≤ 16777216) (h1 : -9223372036854775808 ≤ c.st * m.sy) (h2 : c.st * m.sy < 9223372036854775808) (h3 : -9223372036854775808 ≤ c.st * m.sy + c.ri.headD 0) (h4 : c.st * m.sy + c.ri.headD 0 < 9223372036854775808) : Does Tryz.prog 89 [.one (.d (.bx false [.sc (.int .i64 m.sy),.sc (.int .i64 m.st),.sl false 3 (rows eR m.ru)])),.one (.d (.bx false [.sc (.int .i64 c.st),.sl false 1 (rows eI c.le),.sl false 1 (rows eI c.ri)]))] [] (.one (int (c.st * m.sy + c.ri.headD 0))) [] := by
  refine does_of (k := 0) Tryz.func89 rfl Tryz.ntmps89 rfl rfl fun w F0 S0 ρ0 => ?_
  dsimp only [argT,argH]
  repeat' first|(apply p3;exact a_pure (sv := .one _) rfl;exact rfl)|refine cd ?_|(apply g_drN (id := 1) okM [[],[0],[0,1],[0,1,2],[],[4],[4,5],[4,5,6],[0,1,2,3,4,5,6,7],[],[9],[0,1,2,3,4,5,6,7,8,9,10],[0,1,2,3,4,5,6,7,8,9,10,11]] [([],[]),([],[]),([],[]),([],[]),([],[]),([],[]),([],[]),([],[]),([],[]),([],[]),([],[]),([],[]),([],[])] 0;(focus (refine dp 0 0 [9,10,11,12,14,15] [] pu1 ?_;refine dp 1 1 [9,10,11,12,14,15] [] (a_pure (sv := .one _) rfl) ?_;refine dp 2 3 [9,10,11,12,14,15] [] (a_pure (sv := .one _) rfl) ?_;refine dp 3 7 [9,10,11,12,14,15] [] puL ?_;refine dp 4 0 [5,6,7,8,14,15] [] pu1 ?_;refine dp 5 1 [5,6,7,8,14,15] [] (a_pure (sv := .one _) rfl) ?_;refine dp 6 3 [5,6,7,8,14,15] [] (a_pure (sv := .one _) rfl) ?_;refine dp 7 7 [5,6,7,8,14,15] [] puL ?_;refine dp 8 255 [14,15] [] (by exact a_mul rfl rfl (by first|omega|assumption) (by first|omega|assumption)) ?_;refine dp 9 0 [5,6,7,8,9,10,11,12,13] [] pu1 ?_;refine dp 10 1 [5,6,7,8,9,10,11,12,13] [] (callD1 (n := _) 0 (θ := []) (hD := (l05Head_ok _ preB1))) ?_;refine dp 11 2047 [] [] (a_add rfl rfl (by omega) (by omega)) ?_;refine dp 12 4095 [] [] pu1 ?_;(refine d_nil ?_;refine dN ?_)));any_goals kernel_rfl)|fail
  repeat refine cr ?_
  refine ends_id ?_
  refine endK [] (h2 := ?_) (h3 := ?_) (nd := ?_)
  all_goals (repeat' first|exact ce0|refine ce ?_|refine ce2 ?_ ?_|exact SVLe.refl|refine ceb ?_)
  all_goals first | exact (show nodupB _ = true from rfl) | exact Or.inr rfl | (rfl)
@[irreducible] def okRule (sy st : Int) (r : Rule') : Bool := decide (r = ⟨0,0,-1⟩ ∨ (0 ≤ r.w ∧ r.w ≤ sy - 1) ∧ (r.m = 1 ∨ r.m = -1) ∧ 0 ≤ r.n ∧ r.n ≤ st - 1)
theorem l05Rule_ok (r : Rule') (sy st : Int) (h1 : -1000 ≤ sy) (h2 : sy ≤ 1000) (h3 : -1000 ≤ st) (h4 : st ≤ 1000) : Does Tryz.prog 116 [.agg (ruC r),.one (int sy),.one (int st)] [] (.one (boo (okRule sy st r))) [] := by
  refine does_of (k := 0) Tryz.func116 rfl Tryz.ntmps116 rfl rfl fun w F0 S0 ρ0 => ?_
  dsimp only [argT,argH]
  repeat' first|(apply n3;exact a_new (gb := .bx _) rfl;exact rfl;refine dA ?_)|(apply p3;(first|exact pu1|exact a_sub rfl rfl (by omega) (by omega));exact rfl)|refine cd ?_|(apply c4 0;exact callK1 (θ := []) (hD := (l00In_ok _ _ _));exact rfl;exact rfl;exact rfl;refine dM ?_)|refine o_no rfl rfl rfl rfl ?_|(apply py3;exact rfl;exact rfl;(first|exact pu1|exact a_sub rfl rfl (by omega) (by omega)|exact puC);exact rfl;exact rfl)|(apply cy4 0;exact rfl;exact rfl;exact callK1 (θ := []) (hD := (l00In_ok _ _ _));exact rfl;exact rfl;exact rfl;exact rfl;refine dM ?_)|(apply g_drN (id := 1) okM [[],[],[0,1]] [([],[]),([],[]),([],[])] 0;(focus (refine dp 0 0 [8] [] puL ?_;refine dp 1 0 [7] [] (callD1 (n := _) 0 (θ := []) (hD := l05None_ok)) ?_;refine dp 2 3 [] [] (by exact a_eqRule (s := ⟨_,_,_⟩) rfl rfl) ?_;(refine d_nil ?_;refine dN ?_)));any_goals kernel_rfl)|((first|refine o_gs rfl rfl (fun hc => ?_) (fun hc => ?_)|refine g_cond rfl (fun hc => ?_) (fun hc => ?_)) <;> (try simp only [dcB] at hc) <;> (try first|contradiction|(exfalso;omega)))|fail
  all_goals
    repeat refine cr ?_
    refine ends_id ?_
    refine endK [] (h2 := ?_) (h3 := ?_) (nd := ?_)
    all_goals (repeat' first|exact ce0|refine ce ?_|refine ce2 ?_ ?_|exact SVLe.refl|refine ceb ?_)
    all_goals first | exact (show nodupB _ = true from rfl) | exact Or.inr rfl | ((unfold okRule; simp_all <;> omega))
@[irreducible] def stepS (r : Rule') (c : Conf) : Conf := if 0 < r.m then ⟨r.n,trimR (r.w :: c.le),c.ri.tail⟩ else ⟨r.n,c.le.tail,trimR (c.le.headD 0 :: trimR (r.w :: c.ri.tail))⟩
@[irreducible] def roomS (c : Conf) : Bool := decide (c.le.length ≤ 200 ∧ c.ri.length ≤ 200)
theorem l05Step_ok (m : Mach) (c : Conf) (r : Rule') (hc : (c.ri.length : Int) ≤ 200) (hd : (c.le.length : Int) ≤ 200) (h1 : 0 ≤ c.st * m.sy) (h2 : c.st * m.sy < 9223372036854775) (h3 : 0 ≤ c.ri.headD 0) (h4 : c.ri.headD 0 < 9223372036854775) (h5 : c.st * m.sy + c.ri.headD 0 < m.ru.length) (h6 : m.ru[(c.st * m.sy + c.ri.headD 0).toNat]? = some r) : Does Tryz.prog 38 [.one (.d (.bx false [.sc (.int .i64 m.sy),.sc (.int .i64 m.st),.sl false 3 (rows eR m.ru)])),.one (.d (.bx false [.sc (.int .i64 c.st),.sl false 1 (rows eI c.le),.sl false 1 (rows eI c.ri)]))] [] (.tup [(true,[int (stepS r c).st,.gv 0,.gv 1]),(false,[boo (roomS (stepS r c))])]) [.row 1 (rows eI (stepS r c).le),.row 1 (rows eI (stepS r c).ri)] := by
  have h6' := (List.getElem?_eq_some_iff.1 h6).2
  refine does_of (k := 0) Tryz.func38 rfl Tryz.ntmps38 rfl rfl fun w F0 S0 ρ0 => ?_
  dsimp only [argT,argH]
  repeat' first|(apply n3;exact a_new (gb := .bx _) rfl;exact rfl;refine dA ?_)|(apply p3;(first|exact pu1|exact puC|exact puN|exact puI);exact rfl)|refine cd ?_|(apply w3;(exact a_st_bx rfl rfl rfl rfl (fN rfl rfl) (Nat.le_of_ble_eq_true rfl) rfl);exact rfl;refine dS ?_)|(apply c4 1;exact callK1 (θ := []) (hD := (l05Rest_ok _ preB1));exact rfl;exact rfl;exact rfl;refine dM ?_)|(apply c4 1;exact callK1 (θ := []) (hD := (l05Push_ok _ _ preB1));exact rfl;exact rfl;exact rfl;refine dM ?_)|(apply g_drN (id := 1) okM [[],[0],[0,1],[0,1,2],[],[],[4,5],[0,1,2,3,4,5,6],[0,1,2,3,4,5,6,7],[],[0,1,2,3,4,5,6,7,8,9]] [([],[]),([],[]),([],[]),([],[]),([],[]),([],[]),([],[]),([],[]),([],[]),([0],[]),([],[1])] 1;(focus (refine dp 0 0 [14,15,16,6] [(true,0)] pu1 ?_;refine dp 1 1 [14,15,16,6] [(true,0)] (a_pure (sv := .one _) rfl) ?_;refine dp 2 3 [14,15,16,6] [(true,0)] (a_pure (sv := .one _) rfl) ?_;refine dp 3 7 [14,15,16,6] [(true,0)] puL ?_;refine dp 4 0 [10,11,12,13,15,6] [(true,0)] pu1 ?_;refine dp 5 0 [10,11,12,13,14,6] [(true,0)] pu1 ?_;refine dp 6 3 [10,11,12,13,6] [(true,0)] (callD1 (n := _) 0 (θ := []) (hD := (l05At_ok _ _ preB1 preB1 preB1 preB1 preB1))) ?_;refine dp 7 127 [6] [(true,0)] puI ?_;refine dp 8 255 [6] [(true,0)] puL ?_;refine duE 9 0 [10,11,12,13,14,15,16,17,18] [] (atN 0 (fun _ => a_new (gb := .bx _) rfl)) (by exact rfl) (by exact rfl) ?_;refine duE 10 1023 [] [] (by exact a_st_bx rfl rfl rfl rfl (fN rfl rfl) (Nat.le_of_ble_eq_true rfl) rfl) (by exact rfl) (by exact rfl) ?_;(refine d_nil ?_;refine dN ?_)));any_goals kernel_rfl)|(apply g_drN (id := 5) okM [[],[0],[],[2],[2,3],[2,3,4],[0,1,2,3,4,5],[0,1,2,3,4,5,6],[0,1,2,3,4,5,6,7]] [([],[]),([],[]),([],[]),([],[]),([],[]),([],[]),([0],[]),([],[]),([],[2])] 1;(focus (refine dp 0 0 [32,33,34,35] [] (a_pure (sv := .one _) rfl) ?_;refine dp 1 1 [32,33,34,35] [] puL ?_;refine dp 2 0 [30,31] [] pu1 ?_;refine dp 3 1 [30,31] [] (a_pure (sv := .one _) rfl) ?_;refine dp 4 3 [30,31] [] (a_pure (sv := .one _) rfl) ?_;refine dp 5 7 [30,31] [] puL ?_;refine duN 6 63 [] [] (callD1 (n := _) 0 (θ := []) (hD := (l05Push_ok _ _ preB1))) (by exact rfl) (by exact rfl) ?_;refine dp 7 127 [] [] (a_pure (sv := .one _) rfl) ?_;refine duE 8 255 [] [] (by exact a_st_bx rfl rfl rfl rfl (fN rfl rfl) (Nat.le_of_ble_eq_true rfl) rfl) (by exact rfl) (by exact rfl) ?_;(refine d_nil ?_;refine dN ?_)));any_goals kernel_rfl)|(apply g_drN (id := 12) okM [[],[],[1],[1,2],[1,2,3],[1,2,3,4],[1,2,3,4,5],[1,2,3,4,5,6],[1,2,3,4,5,6,7],[1,2,3,4,5,6,7,8],[1,2,3,4,5,6,7,8,9],[0,1,2,3,4,5],[0,1,2,3,4,5,6,7,8,9,10,11]] [([],[]),([],[]),([],[]),([],[]),([],[]),([],[]),([],[]),([],[]),([],[]),([],[]),([],[]),([],[0]),([],[])] 0;(focus (all_goals refine dp 0 0 [66,67,68,69,70,71,72,73,74,75] [] puL ?_;all_goals refine dp 1 0 [65] [] (a_pure (sv := .one _) rfl) ?_;all_goals refine dp 2 1 [65] [] puL ?_;all_goals refine dp 3 3 [65] [] (by exact puN) ?_;all_goals refine dp 4 7 [65] [] puC ?_;all_goals (refine db 5 15 [65] [] pu1 ?_ ?_ <;> (intro hc;first|cases hc|(try simp only [dcB] at hc);first|contradiction|(exfalso;omega)|skip));all_goals (first|refine dn 6 31 [65] [(false,0)] ?_|refine dpy 6 31 [65] [(false,0)] (a_pure (sv := .one _) rfl) ?_);all_goals (first|refine dn 7 63 [65] [(false,0)] ?_|refine dpy 7 63 [65] [(false,0)] puL ?_);all_goals (first|refine dn 8 127 [65] [(false,0)] ?_|refine dpy 8 127 [65] [(false,0)] (by first|exact puN|exact a_pure (sv := .one _) rfl|exact a_len_str rfl (fT rfl)) ?_);all_goals (first|refine dn 9 255 [65] [(false,0)] ?_|refine dpy 9 255 [65] [(false,0)] puC ?_);all_goals refine dp 10 511 [65] [(false,0)] (a_pure (sv := .one _) rfl) ?_;all_goals refine duE 11 2016 [71,72,73,74,75] [] (by exact a_st_bx rfl rfl rfl rfl (fN rfl rfl) (Nat.le_of_ble_eq_true rfl) rfl) (by exact rfl) (by exact rfl) ?_;all_goals refine dp 12 4095 [] [] pu1 ?_;all_goals (refine d_nil ?_;refine dN ?_)));any_goals kernel_rfl)|((refine g_cond rfl (fun hc => ?_) (fun hc => ?_)) <;> (try simp only [dcB] at hc) <;> (try first|contradiction|(exfalso;omega)))|fail
  all_goals (simp only [h6',get0_headD] at *)
  all_goals
    repeat refine cr ?_
    refine ends_id ?_
    refine endK [?_,?_] (h2 := ?_) (h3 := ?_) (nd := ?_)
    rotate_left 2
    all_goals (repeat' first|exact ce0|refine ce ?_|refine ce2 ?_ ?_|(refine Or.inr (bx_eq rfl rfl ?_);(try dsimp only [C.ren,C.ren.all]);(try exact rfl))|exact SVLe.refl|refine ceb ?_)
    all_goals first | exact (show nodupB _ = true from rfl) | exact Or.inr rfl | (((try simp only [roomS]); (try rw [decide_eq_decide]); simp only [stepS]; split <;> first | (exfalso; omega) | rfl | omega | (cases hle : c.le <;> simp_all; done) | (cases hle : c.le <;> simp_all <;> omega)))
end Go.Proofs.YtegpggobfdcafaaGreat
end
section
set_option linter.unusedVariables false
set_option linter.unusedSimpArgs false
set_option maxRecDepth 100000
set_option maxHeartbeats 4000000
namespace Go.Proofs.YtegpggobfdcafaaGreat
open Go Foot
abbrev maB (m : Mach) : C := .d (.bx false [.sc (.int .i64 m.sy),.sc (.int .i64 m.st),.sl false 3 (rows eR m.ru)])
abbrev coB (c : Conf) : C := .d (.bx false [.sc (.int .i64 c.st),.sl false 1 (rows eI c.le),.sl false 1 (rows eI c.ri)])
@[irreducible] def vMach (m : Mach) : Bool := decide ((2 ≤ m.sy ∧ m.sy ≤ 6) ∧ (1 ≤ m.st ∧ m.st ≤ 1000) ∧ (m.ru.length : Int) = m.sy * m.st) && m.ru.all (okRule m.sy m.st)
theorem vMach_bd {m : Mach} (h : vMach m = true) : (2 ≤ m.sy ∧ m.sy ≤ 6) ∧ (1 ≤ m.st ∧ m.st ≤ 1000) ∧ (m.ru.length : Int) = m.sy * m.st := by
  unfold vMach at h
  simp only [Bool.and_eq_true,decide_eq_true_eq] at h
  exact h.1
theorem preB2 {p : Prop} (h : p := by first | with_reducible assumption | omega | (simp only [List.length_append,List.length_cons,List.length_nil,List.length_set,List.length_replicate,List.length_take,List.length_drop,List.length_tail,List.length_dropLast,List.length_reverse] at *; omega) | exact mem_len (by assumption) (by omega) | (with_reducible refine Int.le_trans (Int.ofNat_le.2 (trimR_len _)) ?_; simp only [List.length_cons,List.length_tail]; omega) | (have := vMach_bd (by assumption); omega) | trivial) : p := h
theorem l05Is_ok (m : Mach) (hm : (m.ru.length : Int) ≤ 16777216) : Does Tryz.prog 63 [.one (maB m)] [] (.one (boo (vMach m))) [] := by
  refine does_of (k := 0) Tryz.func63 rfl Tryz.ntmps63 rfl rfl fun w F0 S0 ρ0 => ?_
  dsimp only [argT,argH]
  repeat' first|(apply p3;(exact pu1);exact rfl)|refine cd ?_|(apply g_drN (id := 1) okM ([] :: [0] :: [0,1] :: [0,1,2] :: [0,1,2,3] :: [0,1,2,3,4] :: [0,1,2,3,4,5] :: [0,1,2,3,4,5,6] :: [0,1,2,3,4,5,6,7] :: [0,1,2,3,4,5,6,7,8] :: [0,1,2,3,4,5,6,7,8,9] :: [0,1,2,3,4,5,6,7,8,9,10] :: [0,1,2,3,4,5,6,7,8,9,10,11] :: [0,1,2,3,4,5,6,7,8,9,10,11,12] :: [0,1,2,3,4,5,6,7,8,9,10,11,12,13] :: [0,1,2,3,4,5,6,7,8,9,10,11,12,13,14] :: [0,1,2,3,4,5,6,7,8,9,10,11,12,13,14,15] :: [0,1,2,3,4,5,6,7,8,9,10,11,12,13,14,15,16] :: [0,1,2,3,4,5,6,7,8,9,10,11,12,13,14,15,16,17] :: [0,1,2,3,4,5,6,7,8,9,10,11,12,13,14,15,16,17,18] :: [0,1,2,3,4,5,6,7,8,9,10,11,12,13,14] :: [0,1,2,3,4,5,6,7,8,9,10,11,12,13,14,20] :: [0,1,2,3,4,5,6,7,8,9,10,11,12,13,14,20,21] :: [0,1,2,3,4,5,6,7,8,9,10,11,12,13,14,20,21,22] :: [0,1,2,3,4,5,6,7,8,9,10,11,12,13,14] :: [0,1,2,3,4,5,6,7,8,9,10,11,12,13,14,24] :: [0,1,2,3,4,5,6,7,8,9,10,11,12,13,14,24,25] :: [0,1,2,3,4,5,6,7,8,9,10,11,12,13,14,24,25,26] :: [0,1,2,3,4,5,6,7,8,9,10,11,12,13,14,20,21,22,23,24,25,26,27] :: [0,1,2,3,4,5,6,7,8,9,10,11,12,13,14,15,16,17,18,19,20,21,22,23,24,25,26,27,28] :: [0,1,2,3,4,5,6,7,8,9,10,11,12,13,14,15,16,17,18,19,20,21,22,23,24,25,26,27,28,29] :: []) (([],[]) :: ([],[]) :: ([],[]) :: ([],[]) :: ([],[]) :: ([],[]) :: ([],[]) :: ([],[]) :: ([],[]) :: ([],[]) :: ([],[]) :: ([],[]) :: ([],[]) :: ([],[]) :: ([],[]) :: ([],[]) :: ([],[]) :: ([],[]) :: ([],[]) :: ([],[]) :: ([],[]) :: ([],[]) :: ([],[]) :: ([],[]) :: ([],[]) :: ([],[]) :: ([],[]) :: ([],[]) :: ([],[]) :: ([],[]) :: ([],[]) :: []) 0;(focus (all_goals refine dp 0 0 [] [] pu1 ?_;all_goals refine dp 1 1 [] [] (a_pure (sv := .one _) rfl) ?_;all_goals refine dp 2 3 [] [] (a_pure (sv := .one _) rfl) ?_;all_goals refine dp 3 7 [] [] puL ?_;all_goals refine dp 4 15 [] [] (callD1 (n := _) 0 (θ := []) (hD := (l00In_ok _ _ _))) ?_;all_goals refine dp 5 31 [] [] (a_pure (sv := .one _) rfl) ?_;all_goals (refine db 6 63 [] [] pu1 ?_ ?_ <;> (intro hc;first|cases hc|(try simp only [dcB] at hc);first|contradiction|(exfalso;omega)|skip));all_goals (first|refine dn 7 127 [] [] ?_|refine dpy 7 127 [] [] pu1 ?_);all_goals (first|refine dn 8 255 [] [] ?_|refine dpy 8 255 [] [] (a_pure (sv := .one _) rfl) ?_);all_goals (first|refine dn 9 511 [] [] ?_|refine dpy 9 511 [] [] (a_pure (sv := .one _) rfl) ?_);all_goals (first|refine dn 10 1023 [] [] ?_|refine dpy 10 1023 [] [] puL ?_);all_goals (first|refine dn 11 2047 [] [] ?_|refine dpy 11 2047 [] [] (callD1 (n := _) 0 (θ := []) (hD := (l00In_ok _ _ _))) ?_);all_goals (first|refine dn 12 4095 [] [] ?_|refine dpy 12 4095 [] [] (a_pure (sv := .one _) rfl) ?_);all_goals refine dp 13 8191 [] [] (a_pure (sv := .one _) rfl) ?_;all_goals (refine db 14 16383 [] [] pu1 ?_ ?_ <;> (intro hc;first|cases hc|(try simp only [dcB] at hc);first|contradiction|(exfalso;omega)|skip));all_goals (first|refine dn 15 32767 [24,25,26,27,28,29,30,31,32] [] ?_|refine dpy 15 32767 [24,25,26,27,28,29,30,31,32] [] pu1 ?_);all_goals (first|refine dn 16 65535 [24,25,26,27,28,29,30,31,32] [] ?_|refine dpy 16 65535 [24,25,26,27,28,29,30,31,32] [] (a_pure (sv := .one _) rfl) ?_);all_goals (first|refine dn 17 131071 [24,25,26,27,28,29,30,31,32] [] ?_|refine dpy 17 131071 [24,25,26,27,28,29,30,31,32] [] (a_pure (sv := .one _) rfl) ?_);all_goals (first|refine dn 18 262143 [24,25,26,27,28,29,30,31,32] [] ?_|refine dpy 18 262143 [24,25,26,27,28,29,30,31,32] [] puL ?_);all_goals (first|refine dn 19 524287 [24,25,26,27,28,29,30,31,32] [] ?_|refine dpy 19 524287 [24,25,26,27,28,29,30,31,32] [] (by first|exact puN|exact a_pure (sv := .one _) rfl|exact a_len_str rfl (fT rfl)) ?_);all_goals (first|refine dn 20 1048544 [19,20,21,22,23,28,29,30,31] [] ?_|refine dpy 20 1048544 [19,20,21,22,23,28,29,30,31] [] pu1 ?_);all_goals (first|refine dn 21 2097089 [19,20,21,22,23,28,29,30,31] [] ?_|refine dpy 21 2097089 [19,20,21,22,23,28,29,30,31] [] (a_pure (sv := .one _) rfl) ?_);all_goals (first|refine dn 22 4194179 [19,20,21,22,23,28,29,30,31] [] ?_|refine dpy 22 4194179 [19,20,21,22,23,28,29,30,31] [] (a_pure (sv := .one _) rfl) ?_);all_goals (first|refine dn 23 8388359 [19,20,21,22,23,28,29,30,31] [] ?_|refine dpy 23 8388359 [19,20,21,22,23,28,29,30,31] [] puL ?_);all_goals (first|refine dn 24 16776704 [19,20,21,22,23,24,25,26,27] [] ?_|refine dpy 24 16776704 [19,20,21,22,23,24,25,26,27] [] pu1 ?_);all_goals (first|refine dn 25 33553409 [19,20,21,22,23,24,25,26,27] [] ?_|refine dpy 25 33553409 [19,20,21,22,23,24,25,26,27] [] (a_pure (sv := .one _) rfl) ?_);all_goals (first|refine dn 26 67106819 [19,20,21,22,23,24,25,26,27] [] ?_|refine dpy 26 67106819 [19,20,21,22,23,24,25,26,27] [] (a_pure (sv := .one _) rfl) ?_);all_goals (first|refine dn 27 134213639 [19,20,21,22,23,24,25,26,27] [] ?_|refine dpy 27 134213639 [19,20,21,22,23,24,25,26,27] [] puL ?_);all_goals (first|refine dn 28 268427519 [19,20,21,22,23] [] ?_|refine dpy 28 268427519 [19,20,21,22,23] [] (by first|exact a_mulB rfl rfl (by omega) (by omega) (by omega) (by omega)|exact a_mul rfl rfl (by first|omega|assumption) (by first|omega|assumption)) ?_);all_goals (first|refine dn 29 536870911 [] [] ?_|refine dpy 29 536870911 [] [] (by first|exact a_ne rfl rfl|exact a_neS rfl rfl rfl) ?_);all_goals refine dp 30 1073741823 [] [] (a_pure (sv := .one _) rfl) ?_;all_goals (refine d_nil ?_;refine dN ?_)));any_goals kernel_rfl)|((refine g_cond rfl (fun hc => ?_) (fun hc => ?_)) <;> (try simp only [dcB] at hc) <;> (try first|contradiction|(exfalso;omega)))|fail
  · repeat refine cr ?_
    refine ends_id ?_
    refine endK [] (h2 := ?_) (h3 := ?_) (nd := ?_)
    all_goals (repeat' first|exact ce0|refine ce ?_|refine ce2 ?_ ?_|exact SVLe.refl|refine ceb ?_)
    all_goals first | exact (show nodupB _ = true from rfl) | exact Or.inr rfl | ((unfold vMach; first | (simp [*]; done) | (rw [decide_eq_false] <;> first | rfl | omega | (simp; done)) | (rw [decide_eq_true] <;> first | rfl | omega | (simp [*]; done)) | (simp_all; done) | (simp_all; omega)))
  · repeat refine cr ?_
    refine ends_id ?_
    refine endK [] (h2 := ?_) (h3 := ?_) (nd := ?_)
    all_goals (repeat' first|exact ce0|refine ce ?_|refine ce2 ?_ ?_|exact SVLe.refl|refine ceb ?_)
    all_goals first | exact (show nodupB _ = true from rfl) | exact Or.inr rfl | ((unfold vMach; first | (simp [*]; done) | (rw [decide_eq_false] <;> first | rfl | omega | (simp; done)) | (rw [decide_eq_true] <;> first | rfl | omega | (simp [*]; done)) | (simp_all; done) | (simp_all; omega)))
  · repeat refine cr ?_
    refine ends_id ?_
    refine endK [] (h2 := ?_) (h3 := ?_) (nd := ?_)
    all_goals (repeat' first|exact ce0|refine ce ?_|refine ce2 ?_ ?_|exact SVLe.refl|refine ceb ?_)
    all_goals first | exact (show nodupB _ = true from rfl) | exact Or.inr rfl | ((unfold vMach; first | (simp [*]; done) | (rw [decide_eq_false] <;> first | rfl | omega | (simp; done)) | (rw [decide_eq_true] <;> first | rfl | omega | (simp [*]; done)) | (simp_all; done) | (simp_all; omega)))
  refine g_loop_id ?_
  refine loopK [0] [] (fun i : Int => 0 ≤ i ∧ i ≤ m.ru.length ∧ (m.ru.take i.toNat).all (okRule m.sy m.st) = true) (fun i => [(3,.one (int i))]) (fun _ => []) (fun i => (m.ru.length - i).toNat) (0 : Int) [] (hI := ?_) (hr := ?_)
  · exact ⟨by omega,by omega,rfl⟩
  · rintro i ⟨h0,h1,h2⟩
    dsimp only [List.cons_append,List.nil_append] at *
    skip
    repeat' first|(apply p3;(first|exact pu1|exact puN|exact puC|exact a_add rfl rfl (by omega) (by omega));exact rfl)|refine cd ?_|(apply g_drN (id := 6) okM [[],[0],[0,1],[0,1,2],[],[0,1,2,3,4],[0,1,2,3,4,5],[],[7],[7,8],[7,8,9],[],[11],[11,12],[11,12,13],[0,1,2,3,4,5,6,7,8,9,10,11,12,13,14],[0,1,2,3,4,5,6,7,8,9,10,11,12,13,14,15]] [([],[]),([],[]),([],[]),([],[]),([],[]),([],[]),([],[]),([],[]),([],[]),([],[]),([],[]),([],[]),([],[]),([],[]),([],[]),([],[]),([],[])] 0;(focus (refine dp 0 0 [48,51,52,53,54,55,56,57,58] [] pu1 ?_;refine dp 1 1 [48,51,52,53,54,55,56,57,58] [] (a_pure (sv := .one _) rfl) ?_;refine dp 2 3 [48,51,52,53,54,55,56,57,58] [] (a_pure (sv := .one _) rfl) ?_;refine dp 3 7 [48,51,52,53,54,55,56,57,58] [] puL ?_;refine dp 4 0 [44,45,46,47,51,52,53,54,55,56,57,58] [] pu1 ?_;refine dp 5 31 [51,52,53,54,55,56,57,58] [] puI ?_;refine dp 6 63 [51,52,53,54,55,56,57,58] [] puL ?_;refine dp 7 0 [44,45,46,47,48,49,50,55,56,57,58] [] pu1 ?_;refine dp 8 1 [44,45,46,47,48,49,50,55,56,57,58] [] (a_pure (sv := .one _) rfl) ?_;refine dp 9 3 [44,45,46,47,48,49,50,55,56,57,58] [] (a_pure (sv := .one _) rfl) ?_;refine dp 10 7 [44,45,46,47,48,49,50,55,56,57,58] [] puL ?_;refine dp 11 0 [44,45,46,47,48,49,50,51,52,53,54] [] pu1 ?_;refine dp 12 1 [44,45,46,47,48,49,50,51,52,53,54] [] (a_pure (sv := .one _) rfl) ?_;refine dp 13 3 [44,45,46,47,48,49,50,51,52,53,54] [] (a_pure (sv := .one _) rfl) ?_;refine dp 14 7 [44,45,46,47,48,49,50,51,52,53,54] [] puL ?_;refine dp 15 32767 [] [] (callD1 (n := _) 0 (θ := []) (hD := (l05Rule_ok _ _ _ preB2 preB2 preB2 preB2))) ?_;refine dp 16 65535 [] [] (a_pure (sv := .one _) rfl) ?_;(refine d_nil ?_;refine dN ?_)));any_goals kernel_rfl)|((refine g_cond rfl (fun hc => ?_) (fun hc => ?_)) <;> (try simp only [dcB] at hc) <;> (try first|contradiction|(exfalso;omega)))|fail
    · repeat refine cr ?_
      refine ends_id ?_
      refine endK [] (h2 := ?_) (h3 := ?_) (nd := ?_)
      all_goals (repeat' first|exact ce0|refine ce ?_|refine ce2 ?_ ?_|exact SVLe.refl|refine ceb ?_)
      all_goals first | exact (show nodupB _ = true from rfl) | exact Or.inr rfl | ((unfold vMach; rw [all_no _ _ i.toNat (by omega) (by rw [hc]; simp)]; simp))
    · refine q_again (i + 1) [] (by exact stk) ?_ ?_
      · exact ⟨by omega,by omega,all_snocI _ _ _ h0 (by omega) h2 hc⟩
      · omega
    · repeat refine cr ?_
      refine ends_id ?_
      refine endK [] (h2 := ?_) (h3 := ?_) (nd := ?_)
      all_goals (repeat' first|exact ce0|refine ce ?_|refine ce2 ?_ ?_|exact SVLe.refl|refine ceb ?_)
      all_goals first | exact (show nodupB _ = true from rfl) | exact Or.inr rfl | ((unfold vMach; rw [List.take_of_length_le (by omega)] at h2; simp_all))
@[irreducible] def vSide (sy : Int) (l : List Int) : Bool := l.all (fun x => decide (0 ≤ x ∧ x ≤ sy - 1)) && decide ((l.length : Int) ≤ 200 ∧ l.getLastD 1 ≠ 0)
theorem l05Cells_ok (m : Mach) (xs : List Int) (hx : (xs.length : Int) ≤ 16777216) (h1 : -1000 ≤ m.sy) (h2 : m.sy ≤ 1000) : Does Tryz.prog 146 [.one (maB m),.one (shI xs)] [] (.one (boo (vSide m.sy xs))) [] := by
  refine does_of (k := 0) Tryz.func146 rfl Tryz.ntmps146 rfl rfl fun w F0 S0 ρ0 => ?_
  dsimp only [argT,argH]
  repeat' first|(apply p3;(exact pu1);exact rfl)|refine cd ?_|fail
  refine g_loop_id ?_
  refine loopK [0,1] [] (fun i : Int => 0 ≤ i ∧ i ≤ xs.length ∧ (xs.take i.toNat).all (fun x => decide (0 ≤ x ∧ x ≤ m.sy - 1)) = true) (fun i => [(5,.one (int i))]) (fun _ => []) (fun i => (xs.length - i).toNat) (0 : Int) [] (hI := ?_) (hr := ?_)
  · exact ⟨by omega,by omega,rfl⟩
  · rintro i ⟨h0,h1,h2⟩
    dsimp only [List.cons_append,List.nil_append] at *
    skip
    repeat' first|(apply p3;(first|exact pu1|exact puN|exact puC|exact a_add rfl rfl (by omega) (by omega));exact rfl)|refine cd ?_|refine o_no rfl rfl rfl rfl ?_|(apply py3;exact rfl;exact rfl;(first|exact pu1|exact puN|exact puC|exact a_sub rfl rfl (by omega) (by omega)|exact a_ne rfl rfl|exact puI);exact rfl;exact rfl)|(apply g_drN (id := 4) okM [[],[],[0,1],[0,1,2],[],[4],[4,5],[4,5,6],[4,5,6,7],[0,1,2,3,4,5,6,7,8],[0,1,2,3,4,5,6,7,8,9]] [([],[]),([],[]),([],[]),([],[]),([],[]),([],[]),([],[]),([],[]),([],[]),([],[]),([],[])] 0;(focus (refine dp 0 0 [13,16,17,18,19,20] [] pu1 ?_;refine dp 1 0 [12,16,17,18,19,20] [] pu1 ?_;refine dp 2 3 [16,17,18,19,20] [] puI ?_;refine dp 3 7 [16,17,18,19,20] [] puL ?_;refine dp 4 0 [12,13,14,15] [] pu1 ?_;refine dp 5 1 [12,13,14,15] [] (a_pure (sv := .one _) rfl) ?_;refine dp 6 3 [12,13,14,15] [] (a_pure (sv := .one _) rfl) ?_;refine dp 7 7 [12,13,14,15] [] puL ?_;refine dp 8 15 [12,13,14,15] [] (a_sub rfl rfl (by omega) (by omega)) ?_;refine dp 9 511 [] [] (callD1 (n := _) 0 (θ := []) (hD := (l00In_ok _ _ _))) ?_;refine dp 10 1023 [] [] (a_pure (sv := .one _) rfl) ?_;(refine d_nil ?_;refine dN ?_)));any_goals kernel_rfl)|((first|refine o_gs rfl rfl (fun hc => ?_) (fun hc => ?_)|refine g_cond rfl (fun hc => ?_) (fun hc => ?_)) <;> (try simp only [dcB] at hc) <;> (try first|contradiction|(exfalso;omega)))|fail
    · repeat refine cr ?_
      refine ends_id ?_
      refine endK [] (h2 := ?_) (h3 := ?_) (nd := ?_)
      all_goals (repeat' first|exact ce0|refine ce ?_|refine ce2 ?_ ?_|exact SVLe.refl|refine ceb ?_)
      all_goals first | exact (show nodupB _ = true from rfl) | exact Or.inr rfl | ((unfold vSide; rw [all_no _ _ i.toNat (by omega) (by rw [decide_eq_true_eq]; exact hc)]; rfl))
    · refine q_again (i + 1) [] (by exact stk) ?_ ?_
      · exact ⟨by omega,by omega,all_snocI _ _ _ h0 (by omega) h2 (by rw [decide_eq_true_eq]; exact hc)⟩
      · omega
    all_goals (rw [List.take_of_length_le (by omega)] at h2)
    all_goals (have hl : xs ≠ [] → xs.getLastD 1 = xs.getLastD 1 := fun _ => rfl)
    · repeat refine cr ?_
      refine ends_id ?_
      refine endK [] (h2 := ?_) (h3 := ?_) (nd := ?_)
      all_goals (repeat' first|exact ce0|refine ce ?_|refine ce2 ?_ ?_|exact SVLe.refl|refine ceb ?_)
      all_goals first | exact (show nodupB _ = true from rfl) | exact Or.inr rfl | ((have : xs = [] := List.eq_nil_of_length_eq_zero (by omega); subst this; unfold vSide; rfl))
    · repeat refine cr ?_
      refine ends_id ?_
      refine endK [] (h2 := ?_) (h3 := ?_) (nd := ?_)
      all_goals (repeat' first|exact ce0|refine ce ?_|refine ce2 ?_ ?_|exact SVLe.refl|refine ceb ?_)
      all_goals first | exact (show nodupB _ = true from rfl) | exact Or.inr rfl | ((unfold vSide; rw [h2,getLastD_at xs 1 (by omega)]; simp; omega))
    · repeat refine cr ?_
      refine ends_id ?_
      refine endK [] (h2 := ?_) (h3 := ?_) (nd := ?_)
      all_goals (repeat' first|exact ce0|refine ce ?_|refine ce2 ?_ ?_|exact SVLe.refl|refine ceb ?_)
      all_goals first | exact (show nodupB _ = true from rfl) | exact Or.inr rfl | ((unfold vSide; rw [h2,decide_eq_false] <;> first | rfl | omega))
@[irreducible] def vConf (m : Mach) (c : Conf) : Bool := decide (0 ≤ c.st ∧ c.st ≤ m.st - 1) && vSide m.sy c.le && vSide m.sy c.ri
theorem l05Good_ok (m : Mach) (c : Conf) (hx : (c.le.length : Int) ≤ 16777216) (hy : (c.ri.length : Int) ≤ 16777216) (h1 : -1000 ≤ m.sy) (h2 : m.sy ≤ 1000) (h3 : -1000 ≤ m.st) (h4 : m.st ≤ 1000) : Does Tryz.prog 85 [.one (maB m),.one (coB c)] [] (.one (boo (vConf m c))) [] := by
  refine does_of (k := 0) Tryz.func85 rfl Tryz.ntmps85 rfl rfl fun w F0 S0 ρ0 => ?_
  dsimp only [argT,argH]
  repeat' first|(apply p3;exact a_pure (sv := .one _) rfl;exact rfl)|refine cd ?_|(apply g_drN (id := 1) okM [[],[0],[0,1],[0,1,2],[],[4],[4,5],[4,5,6],[4,5,6,7],[0,1,2,3,4,5,6,7,8],[0,1,2,3,4,5,6,7,8,9],[0,1,2,3,4,5,6,7,8,9,10],[0,1,2,3,4,5,6,7,8,9,10],[0,1,2,3,4,5,6,7,8,9,10,12],[0,1,2,3,4,5,6,7,8,9,10,12,13],[0,1,2,3,4,5,6,7,8,9,10,12,13,14],[0,1,2,3,4,5,6,7,8,9,10,11,12,13,14,15],[0,1,2,3,4,5,6,7,8,9,10,11,12,13,14,15,16],[0,1,2,3,4,5,6,7,8,9,10,11,12,13,14,15,16,17],[0,1,2,3,4,5,6,7,8,9,10,11,12,13,14,15,16,17,18],[0,1,2,3,4,5,6,7,8,9,10,11,12,13,14,15,16,17,18],[0,1,2,3,4,5,6,7,8,9,10,11,12,13,14,15,16,17,18,20],[0,1,2,3,4,5,6,7,8,9,10,11,12,13,14,15,16,17,18,20,21],[0,1,2,3,4,5,6,7,8,9,10,11,12,13,14,15,16,17,18,20,21,22],[0,1,2,3,4,5,6,7,8,9,10,11,12,13,14,15,16,17,18,19,20,21,22,23],[0,1,2,3,4,5,6,7,8,9,10,11,12,13,14,15,16,17,18,19,20,21,22,23,24],[0,1,2,3,4,5,6,7,8,9,10,11,12,13,14,15,16,17,18,19,20,21,22,23,24,25]] [([],[]),([],[]),([],[]),([],[]),([],[]),([],[]),([],[]),([],[]),([],[]),([],[]),([],[]),([],[]),([],[]),([],[]),([],[]),([],[]),([],[]),([],[]),([],[]),([],[]),([],[]),([],[]),([],[]),([],[]),([],[]),([],[]),([],[])] 0;(focus (all_goals refine dp 0 0 [9,10,11,12,13] [] pu1 ?_;all_goals refine dp 1 1 [9,10,11,12,13] [] (a_pure (sv := .one _) rfl) ?_;all_goals refine dp 2 3 [9,10,11,12,13] [] (a_pure (sv := .one _) rfl) ?_;all_goals refine dp 3 7 [9,10,11,12,13] [] puL ?_;all_goals refine dp 4 0 [5,6,7,8] [] pu1 ?_;all_goals refine dp 5 1 [5,6,7,8] [] (a_pure (sv := .one _) rfl) ?_;all_goals refine dp 6 3 [5,6,7,8] [] (a_pure (sv := .one _) rfl) ?_;all_goals refine dp 7 7 [5,6,7,8] [] puL ?_;all_goals refine dp 8 15 [5,6,7,8] [] (a_sub rfl rfl (by omega) (by omega)) ?_;all_goals refine dp 9 511 [] [] (callD1 (n := _) 0 (θ := []) (hD := (l00In_ok _ _ _))) ?_;all_goals (refine db 10 1023 [] [] pu1 ?_ ?_ <;> (intro hc;first|cases hc|(try simp only [dcB] at hc);first|contradiction|(exfalso;omega)|skip));all_goals (first|refine dn 11 2047 [17,18,19,20] [] ?_|refine dpy 11 2047 [17,18,19,20] [] pu1 ?_);all_goals (first|refine dn 12 4094 [16] [] ?_|refine dpy 12 4094 [16] [] pu1 ?_);all_goals (first|refine dn 13 8189 [16] [] ?_|refine dpy 13 8189 [16] [] (a_pure (sv := .one _) rfl) ?_);all_goals (first|refine dn 14 16379 [16] [] ?_|refine dpy 14 16379 [16] [] (a_pure (sv := .one _) rfl) ?_);all_goals (first|refine dn 15 32759 [16] [] ?_|refine dpy 15 32759 [16] [] puL ?_);all_goals (first|refine dn 16 65535 [] [] ?_|refine dpy 16 65535 [] [] (callD1 (n := _) 0 (θ := []) (hD := (l05Cells_ok _ _ preB2 preB2 preB2))) ?_);all_goals refine dp 17 131071 [] [] (a_pure (sv := .one _) rfl) ?_;all_goals (refine db 18 262143 [] [] pu1 ?_ ?_ <;> (intro hc;first|cases hc|(try simp only [dcB] at hc);first|contradiction|(exfalso;omega)|skip));all_goals (first|refine dn 19 524287 [25,26,27,28] [] ?_|refine dpy 19 524287 [25,26,27,28] [] pu1 ?_);all_goals (first|refine dn 20 1048574 [24] [] ?_|refine dpy 20 1048574 [24] [] pu1 ?_);all_goals (first|refine dn 21 2097149 [24] [] ?_|refine dpy 21 2097149 [24] [] (a_pure (sv := .one _) rfl) ?_);all_goals (first|refine dn 22 4194299 [24] [] ?_|refine dpy 22 4194299 [24] [] (a_pure (sv := .one _) rfl) ?_);all_goals (first|refine dn 23 8388599 [24] [] ?_|refine dpy 23 8388599 [24] [] puL ?_);all_goals (first|refine dn 24 16777215 [] [] ?_|refine dpy 24 16777215 [] [] (callD1 (n := _) 0 (θ := []) (hD := (l05Cells_ok _ _ preB2 preB2 preB2))) ?_);all_goals refine dp 25 33554431 [] [] (a_pure (sv := .one _) rfl) ?_;all_goals refine dp 26 67108863 [] [] pu1 ?_;all_goals (refine d_nil ?_;refine dN ?_)));any_goals kernel_rfl)|fail
  all_goals
    repeat refine cr ?_
    refine ends_id ?_
    refine endK [] (h2 := ?_) (h3 := ?_) (nd := ?_)
    all_goals (repeat' first|exact ce0|refine ce ?_|refine ce2 ?_ ?_|exact SVLe.refl|refine ceb ?_)
    all_goals first | exact (show nodupB _ = true from rfl) | exact Or.inr rfl | ((unfold vConf; first | (simp [*]; done) | (rw [decide_eq_false] <;> first | rfl | omega | (simp; done)) | (rw [decide_eq_true] <;> first | rfl | omega | (simp [*]; done)) | (simp_all; done) | (simp_all; omega)))
end Go.Proofs.YtegpggobfdcafaaGreat
end
section
set_option linter.unusedVariables false
set_option linter.unusedSimpArgs false
set_option maxRecDepth 100000
set_option maxHeartbeats 4000000
namespace Go.Proofs.YtegpggobfdcafaaGreat
open Go Foot
theorem preB3 {p : Prop} (h : p := by first | with_reducible assumption | omega | (simp only [List.length_append,List.length_cons,List.length_nil,List.length_set,List.length_replicate,List.length_take,List.length_drop,List.length_tail,List.length_dropLast,List.length_reverse] at *; omega) | exact mem_len (by assumption) (by omega) | (with_reducible refine Int.le_trans (Int.ofNat_le.2 (trimR_len _)) ?_; simp only [List.length_cons,List.length_tail]; omega) | (have := vMach_bd (by assumption); omega) | trivial) : p := h
theorem sizeR_ok (xs : List Rule') (hx : (xs.length : Int) ≤ 16777216) : Does Tryz.prog 122 [.one (shR xs)] [] (.one (int xs.length)) [] := by
  refine does_of (k := 0) Tryz.func122 rfl Tryz.ntmps122 rfl rfl fun w F0 S0 ρ0 => ?_
  dsimp only [argT,argH]
  repeat' first|(apply p3;(first|exact pu1|exact puN);exact rfl)|refine cd ?_|fail
  repeat refine cr ?_
  refine ends_id ?_
  refine endK [] (h2 := ?_) (h3 := ?_) (nd := ?_)
  all_goals (repeat' first|exact ce0|refine ce ?_|refine ce2 ?_ ?_|exact SVLe.refl|refine ceb ?_)
  all_goals first | exact (show nodupB _ = true from rfl) | exact Or.inr rfl | (rfl)
theorem noRule_ok : Does Tryz.prog 204 [] [] (.agg [int 0,int 0,int (-1)]) [] := by
  refine does_of (k := 0) Tryz.func204 rfl Tryz.ntmps204 rfl rfl fun w F0 S0 ρ0 => ?_
  dsimp only [argT,argH]
  repeat' first|(apply n3;exact a_new (gb := .bx _) rfl;exact rfl;refine dA ?_)|(apply p3;exact a_pure (sv := .agg _) rfl;exact rfl)|refine cd ?_|(apply w3;(exact a_st_bx rfl rfl rfl rfl (fN rfl rfl) (Nat.le_of_ble_eq_true rfl) rfl);exact rfl;refine dS ?_)|fail
  repeat refine cr ?_
  refine ends_id ?_
  refine endK [] (h2 := ?_) (h3 := ?_) (nd := ?_)
  all_goals (repeat' first|exact ce0|refine ce ?_|refine ce2 ?_ ?_|exact SVLe.refl|refine ceb ?_)
  all_goals first | exact (show nodupB _ = true from rfl) | exact Or.inr rfl | (rfl)
theorem isRule_ok (r : Rule') : Does Tryz.prog 152 [.agg (ruC r)] [] (.one (boo (!decide (r = ⟨0,0,-1⟩)))) [] := by
  refine does_of (k := 0) Tryz.func152 rfl Tryz.ntmps152 rfl rfl fun w F0 S0 ρ0 => ?_
  dsimp only [argT,argH]
  repeat' first|(apply n3;exact a_new (gb := .bx _) rfl;exact rfl;refine dA ?_)|(apply p3;exact a_pure (sv := .one _) rfl;exact rfl)|refine cd ?_|(apply g_drN (id := 1) okM [[],[],[0,1],[0,1,2]] [([],[]),([],[]),([],[]),([],[])] 0;(focus (refine dp 0 0 [4] [] puL ?_;refine dp 1 0 [3] [] (callD1 (n := _) 0 (θ := []) (hD := noRule_ok)) ?_;refine dp 2 3 [] [] (by exact a_neRule (s := ⟨_,_,_⟩) rfl rfl) ?_;refine dp 3 7 [] [] pu1 ?_;(refine d_nil ?_;refine dN ?_)));any_goals kernel_rfl)|fail
  repeat refine cr ?_
  refine ends_id ?_
  refine endK [] (h2 := ?_) (h3 := ?_) (nd := ?_)
  all_goals (repeat' first|exact ce0|refine ce ?_|refine ce2 ?_ ?_|exact SVLe.refl|refine ceb ?_)
  all_goals first | exact (show nodupB _ = true from rfl) | exact Or.inr rfl | (rfl)
theorem validRule_ok (m : Mach) (r : Rule') (h1 : -1000 ≤ m.sy) (h2 : m.sy ≤ 1000) (h3 : -1000 ≤ m.st) (h4 : m.st ≤ 1000) : Does Tryz.prog 125 [.agg (maC m),.agg (ruC r)] [] (.one (boo (okRule m.sy m.st r))) [] := by
  refine does_of (k := 0) Tryz.func125 rfl Tryz.ntmps125 rfl rfl fun w F0 S0 ρ0 => ?_
  dsimp only [argT,argH]
  repeat' first|(apply n3;exact a_new (gb := .bx _) rfl;exact rfl;refine dA ?_)|(apply p3;(first|exact pu1|exact a_sub rfl rfl (by omega) (by omega));exact rfl)|refine cd ?_|(apply c4 0;exact callK1 (θ := []) (hD := (isRule_ok _));exact rfl;exact rfl;exact rfl;refine dM ?_)|(apply c4 0;exact callK1 (θ := []) (hD := (within_ok _ _ _));exact rfl;exact rfl;exact rfl;refine dM ?_)|refine o_no rfl rfl rfl rfl ?_|(apply py3;exact rfl;exact rfl;(first|exact pu1|exact a_sub rfl rfl (by omega) (by omega)|exact puC);exact rfl;exact rfl)|(apply cy4 0;exact rfl;exact rfl;exact callK1 (θ := []) (hD := (within_ok _ _ _));exact rfl;exact rfl;exact rfl;exact rfl;refine dM ?_)|((first|refine o_gs rfl rfl (fun hc => ?_) (fun hc => ?_)|refine g_cond rfl (fun hc => ?_) (fun hc => ?_)) <;> (try simp only [dcB] at hc) <;> (try first|contradiction|(exfalso;omega)))|fail
  all_goals
    repeat refine cr ?_
    refine ends_id ?_
    refine endK [] (h2 := ?_) (h3 := ?_) (nd := ?_)
    all_goals (repeat' first|exact ce0|refine ce ?_|refine ce2 ?_ ?_|exact SVLe.refl|refine ceb ?_)
    all_goals first | exact (show nodupB _ = true from rfl) | exact Or.inr rfl | ((unfold okRule; first | (simp [*]; done) | (rw [decide_eq_false] <;> first | rfl | omega | (simp; done)) | (rw [decide_eq_true] <;> first | rfl | omega | (simp [*]; done)) | (simp_all; done) | (simp_all; omega)))
theorem validM1_ok (m : Mach) (r : Rule') (h1 : -1000 ≤ m.sy) (h2 : m.sy ≤ 1000) (h3 : -1000 ≤ m.st) (h4 : m.st ≤ 1000) : Does Tryz.prog 124 [.agg (ruC r),.one (maB m)] [] (.one (boo (!okRule m.sy m.st r))) [] := by
  refine does_of (k := 0) Tryz.func124 rfl Tryz.ntmps124 rfl rfl fun w F0 S0 ρ0 => ?_
  dsimp only [argT,argH]
  repeat' first|(apply n3;exact a_new (gb := .bx _) rfl;exact rfl;refine dA ?_)|(apply p3;(exact pu1);exact rfl)|refine cd ?_|(apply c4 0;exact callK1 (θ := []) (hD := (validRule_ok _ _ preB3 preB3 preB3 preB3));exact rfl;exact rfl;exact rfl;refine dM ?_)|fail
  repeat refine cr ?_
  refine ends_id ?_
  refine endK [] (h2 := ?_) (h3 := ?_) (nd := ?_)
  all_goals (repeat' first|exact ce0|refine ce ?_|refine ce2 ?_ ?_|exact SVLe.refl|refine ceb ?_)
  all_goals first | exact (show nodupB _ = true from rfl) | exact Or.inr rfl | (rfl)
theorem idxR_ok (xs : List Rule') (k : Nat) (d : D) (p : Rule' → Bool) (hx : (xs.length : Int) ≤ 16777216) (hE : entB Tryz.prog k = true) (hp : ∀ r,Does Tryz.prog k [.agg (ruC r),.one (.d d)] [] (.one (boo (p r))) []) : Does Tryz.prog 177 [.one (shR xs),.one (.d (.fn (.func k) [d]))] [] (.one (int (idxF p xs))) [] := by
  refine does_of (k := 0) Tryz.func177 rfl Tryz.ntmps177 rfl rfl fun w F0 S0 ρ0 => ?_
  dsimp only [argT,argH]
  repeat' first|(apply p3;(first|exact pu1|exact puN);exact rfl)|refine cd ?_|fail
  refine g_loop_id ?_
  refine loopK [0,1,4,7] [] (fun i : Int => 0 ≤ i ∧ i ≤ xs.length ∧ (xs.take i.toNat).all (fun x => !p x) = true) (fun i => [(8,.one (int i))]) (fun _ => []) (fun i => (xs.length - i).toNat) (0 : Int) [] (hI := ?_) (hr := ?_)
  · exact ⟨by omega,by omega,rfl⟩
  · rintro i ⟨h0,h1,h2⟩
    dsimp only [List.cons_append,List.nil_append] at *
    skip
    repeat' first|(apply p3;(first|exact pu1|exact puC|exact a_add rfl rfl (by omega) (by omega)|exact puI);exact rfl)|refine cd ?_|(apply c4 0;exact callK0 (θ := []) (hE := hE) (hD := (hp _));exact rfl;exact rfl;exact rfl;refine dM ?_)|((refine g_cond rfl (fun hc => ?_) (fun hc => ?_)) <;> (try simp only [dcB] at hc) <;> (try first|contradiction|(exfalso;omega)))|fail
    · repeat refine cr ?_
      refine ends_id ?_
      refine endK [] (h2 := ?_) (h3 := ?_) (nd := ?_)
      all_goals (repeat' first|exact ce0|refine ce ?_|refine ce2 ?_ ?_|exact SVLe.refl|refine ceb ?_)
      all_goals first | exact (show nodupB _ = true from rfl) | exact Or.inr rfl | (exact (idxF_stop p xs i h0 (by omega) h2 hc).symm)
    · refine q_again (i + 1) [] (by exact stk) ?_ ?_
      · exact ⟨by omega,by omega,all_snocI _ _ _ h0 (by omega) h2 (by simp [hc])⟩
      · omega
    · repeat refine cr ?_
      refine ends_id ?_
      refine endK [] (h2 := ?_) (h3 := ?_) (nd := ?_)
      all_goals (repeat' first|exact ce0|refine ce ?_|refine ce2 ?_ ?_|exact SVLe.refl|refine ceb ?_)
      all_goals first | exact (show nodupB _ = true from rfl) | exact Or.inr rfl | ((rw [List.take_of_length_le (by omega)] at h2; exact (idxF_none p xs h2).symm))
theorem hasR_ok (xs : List Rule') (k : Nat) (d : D) (p : Rule' → Bool) (hx : (xs.length : Int) ≤ 16777216) (hE : entB Tryz.prog k = true) (hp : ∀ r,Does Tryz.prog k [.agg (ruC r),.one (.d d)] [] (.one (boo (p r))) []) : Does Tryz.prog 123 [.one (shR xs),.one (.d (.fn (.func k) [d]))] [] (.one (boo (xs.any p))) [] := by
  refine does_of (k := 0) Tryz.func123 rfl Tryz.ntmps123 rfl rfl fun w F0 S0 ρ0 => ?_
  dsimp only [argT,argH]
  repeat' first|(apply p3;(first|exact pu1|exact puC);exact rfl)|refine cd ?_|(apply c4 0;exact callK1 (θ := []) (hD := (idxR_ok _ _ _ _ preB3 preB3 preB3));exact rfl;exact rfl;exact rfl;refine dM ?_)|fail
  repeat refine cr ?_
  refine ends_id ?_
  refine endK [] (h2 := ?_) (h3 := ?_) (nd := ?_)
  all_goals (repeat' first|exact ce0|refine ce ?_|refine ce2 ?_ ?_|exact SVLe.refl|refine ceb ?_)
  all_goals first | exact (show nodupB _ = true from rfl) | exact Or.inr rfl | (exact idxF_any p xs)
abbrev maD (m : Mach) : D := .bx false [.sc (.int .i64 m.sy),.sc (.int .i64 m.st),.sl false 3 (rows eR m.ru)]
theorem hasM_ok (m : Mach) (xs : List Rule') (hx : (xs.length : Int) ≤ 16777216) (h1 : -1000 ≤ m.sy) (h2 : m.sy ≤ 1000) (h3 : -1000 ≤ m.st) (h4 : m.st ≤ 1000) : Does Tryz.prog 123 [.one (shR xs),.one (.d (.fn (.func 124) [maD m]))] [] (.one (boo (xs.any fun r => !okRule m.sy m.st r))) [] := hasR_ok xs _ (maD m) _ hx (fQ rfl) fun r => validM1_ok m r h1 h2 h3 h4
theorem ValidMachine_ok (m : Mach) (hm : (m.ru.length : Int) ≤ 16777216) : Does Tryz.prog 67 [.agg (maC m)] [] (.one (boo (vMach m))) [] := by
  refine does_of (k := 0) Tryz.func67 rfl Tryz.ntmps67 rfl rfl fun w F0 S0 ρ0 => ?_
  dsimp only [argT,argH]
  repeat' first|(apply n3;exact a_new (gb := .bx _) rfl;exact rfl;refine dA ?_)|(apply p3;(exact pu1);exact rfl)|refine cd ?_|(apply c4 0;exact callK1 (θ := []) (hD := (hasM_ok _ _ preB3 preB3 preB3 preB3 preB3));exact rfl;exact rfl;exact rfl;refine dM ?_)|(apply g_drN (id := 1) okM [[],[0],[0,1],[0,1,2],[0,1,2,3],[0,1,2,3,4],[0,1,2,3,4,5],[0,1,2,3,4,5,6],[0,1,2,3,4,5,6,7],[0,1,2,3,4,5,6,7,8],[0,1,2,3,4,5,6,7,8,9],[0,1,2,3,4,5,6,7,8,9,10],[0,1,2,3,4,5,6,7,8,9,10,11],[0,1,2,3,4,5,6,7,8,9,10,11,12],[0,1,2,3,4,5,6,7,8,9,10],[0,1,2,3,4,5,6,7,8,9,10,14],[0,1,2,3,4,5,6,7,8,9,10],[0,1,2,3,4,5,6,7,8,9,10,16],[0,1,2,3,4,5,6,7,8,9,10,14,15,16,17],[0,1,2,3,4,5,6,7,8,9,10,11,12,13,14,15,16,17,18],[0,1,2,3,4,5,6,7,8,9,10,11,12,13,14,15,16,17,18,19]] [([],[]),([],[]),([],[]),([],[]),([],[]),([],[]),([],[]),([],[]),([],[]),([],[]),([],[]),([],[]),([],[]),([],[]),([],[]),([],[]),([],[]),([],[]),([],[]),([],[]),([],[])] 0;(focus (all_goals refine dp 0 0 [] [] (a_pure (sv := .one _) rfl) ?_;all_goals refine dp 1 1 [] [] puL ?_;all_goals refine dp 2 3 [] [] (callD1 (n := _) 0 (θ := []) (hD := (within_ok _ _ _))) ?_;all_goals refine dp 3 7 [] [] (a_pure (sv := .one _) rfl) ?_;all_goals (refine db 4 15 [] [] pu1 ?_ ?_ <;> (intro hc;first|cases hc|(try simp only [dcB] at hc);first|contradiction|(exfalso;omega)|skip));all_goals (first|refine dn 5 31 [] [] ?_|refine dpy 5 31 [] [] (a_pure (sv := .one _) rfl) ?_);all_goals (first|refine dn 6 63 [] [] ?_|refine dpy 6 63 [] [] puL ?_);all_goals (first|refine dn 7 127 [] [] ?_|refine dpy 7 127 [] [] (callD1 (n := _) 0 (θ := []) (hD := (within_ok _ _ _))) ?_);all_goals (first|refine dn 8 255 [] [] ?_|refine dpy 8 255 [] [] (a_pure (sv := .one _) rfl) ?_);all_goals refine dp 9 511 [] [] (a_pure (sv := .one _) rfl) ?_;all_goals (refine db 10 1023 [] [] pu1 ?_ ?_ <;> (intro hc;first|cases hc|(try simp only [dcB] at hc);first|contradiction|(exfalso;omega)|skip));all_goals (first|refine dn 11 2047 [17,18,19,20,21] [] ?_|refine dpy 11 2047 [17,18,19,20,21] [] (a_pure (sv := .one _) rfl) ?_);all_goals (first|refine dn 12 4095 [17,18,19,20,21] [] ?_|refine dpy 12 4095 [17,18,19,20,21] [] puL ?_);all_goals (first|refine dn 13 8191 [17,18,19,20,21] [] ?_|refine dpy 13 8191 [17,18,19,20,21] [] (callD1 (n := _) 0 (θ := []) (hD := (sizeR_ok _ preB3))) ?_);all_goals (first|refine dn 14 16376 [14,15,16,19,20] [] ?_|refine dpy 14 16376 [14,15,16,19,20] [] (a_pure (sv := .one _) rfl) ?_);all_goals (first|refine dn 15 32753 [14,15,16,19,20] [] ?_|refine dpy 15 32753 [14,15,16,19,20] [] puL ?_);all_goals (first|refine dn 16 65504 [14,15,16,17,18] [] ?_|refine dpy 16 65504 [14,15,16,17,18] [] (a_pure (sv := .one _) rfl) ?_);all_goals (first|refine dn 17 131009 [14,15,16,17,18] [] ?_|refine dpy 17 131009 [14,15,16,17,18] [] puL ?_);all_goals (first|refine dn 18 262031 [14,15,16] [] ?_|refine dpy 18 262031 [14,15,16] [] (by first|exact a_mulB rfl rfl (by omega) (by omega) (by omega) (by omega)|exact a_mul rfl rfl (by first|omega|assumption) (by first|omega|assumption)) ?_);all_goals (first|refine dn 19 524287 [] [] ?_|refine dpy 19 524287 [] [] (by first|exact a_ne rfl rfl|exact a_neS rfl rfl rfl) ?_);all_goals refine dp 20 1048575 [] [] (a_pure (sv := .one _) rfl) ?_;all_goals (refine d_nil ?_;refine dN ?_)));any_goals kernel_rfl)|((refine g_cond rfl (fun hc => ?_) (fun hc => ?_)) <;> (try simp only [dcB] at hc) <;> (try first|contradiction|(exfalso;omega)))|fail
  · repeat refine cr ?_
    refine ends_id ?_
    refine endK [] (h2 := ?_) (h3 := ?_) (nd := ?_)
    all_goals (repeat' first|exact ce0|refine ce ?_|refine ce2 ?_ ?_|exact SVLe.refl|refine ceb ?_)
    all_goals first | exact (show nodupB _ = true from rfl) | exact Or.inr rfl | ((unfold vMach; first | (simp [*]; done) | (rw [decide_eq_false] <;> first | rfl | omega | (simp; done)) | (rw [decide_eq_true] <;> first | rfl | omega | (simp [*]; done)) | (simp_all; done) | (simp_all; omega)))
  · repeat refine cr ?_
    refine ends_id ?_
    refine endK [] (h2 := ?_) (h3 := ?_) (nd := ?_)
    all_goals (repeat' first|exact ce0|refine ce ?_|refine ce2 ?_ ?_|exact SVLe.refl|refine ceb ?_)
    all_goals first | exact (show nodupB _ = true from rfl) | exact Or.inr rfl | ((unfold vMach; first | (simp [*]; done) | (rw [decide_eq_false] <;> first | rfl | omega | (simp; done)) | (rw [decide_eq_true] <;> first | rfl | omega | (simp [*]; done)) | (simp_all; done) | (simp_all; omega)))
  · repeat refine cr ?_
    refine ends_id ?_
    refine endK [] (h2 := ?_) (h3 := ?_) (nd := ?_)
    all_goals (repeat' first|exact ce0|refine ce ?_|refine ce2 ?_ ?_|exact SVLe.refl|refine ceb ?_)
    all_goals first | exact (show nodupB _ = true from rfl) | exact Or.inr rfl | ((rw [Int.mul_comm] at hc; unfold vMach; rw [decide_eq_false] <;> first | rfl | omega))
  · repeat refine cr ?_
    refine ends_id ?_
    refine endK [] (h2 := ?_) (h3 := ?_) (nd := ?_)
    all_goals (repeat' first|exact ce0|refine ce ?_|refine ce2 ?_ ?_|exact SVLe.refl|refine ceb ?_)
    all_goals first | exact (show nodupB _ = true from rfl) | exact Or.inr rfl | ((rw [Int.mul_comm] at hc; rw [not_any_not]; unfold vMach; rw [decide_eq_true] <;> first | rfl | omega))
theorem validSide_ok (xs : List Int) (sy : Int) (hx : (xs.length : Int) ≤ 16777216) (h1 : -1000 ≤ sy) (h2 : sy ≤ 1000) : Does Tryz.prog 162 [.one (shI xs),.one (int sy),.one (int 200)] [] (.one (boo (vSide sy xs))) [] := by
  refine does_of (k := 0) Tryz.func162 rfl Tryz.ntmps162 rfl rfl fun w F0 S0 ρ0 => ?_
  dsimp only [argT,argH]
  repeat' first|(apply p3;(first|exact pu1|exact puC);exact rfl)|refine cd ?_|(apply c4 0;exact callK1 (θ := []) (hD := (sizeI_ok _ preB3));exact rfl;exact rfl;exact rfl;refine dM ?_)|refine o_no rfl rfl rfl rfl ?_|(apply py3;exact rfl;exact rfl;(first|exact pu1|exact puC|exact a_sub rfl rfl (by omega) (by omega)|exact puN|exact a_ne rfl rfl|exact puI);exact rfl;exact rfl)|(apply cy4 0;exact rfl;exact rfl;exact callK1 (θ := []) (hD := (allWithin_ok _ _ _ preB3));exact rfl;exact rfl;exact rfl;exact rfl;refine dM ?_)|((refine o_gs rfl rfl (fun hc => ?_) (fun hc => ?_)) <;> (try simp only [dcB] at hc) <;> (try first|contradiction|(exfalso;omega)))|fail
  · repeat refine cr ?_
    refine ends_id ?_
    refine endK [] (h2 := ?_) (h3 := ?_) (nd := ?_)
    all_goals (repeat' first|exact ce0|refine ce ?_|refine ce2 ?_ ?_|exact SVLe.refl|refine ceb ?_)
    all_goals first | exact (show nodupB _ = true from rfl) | exact Or.inr rfl | ((have : xs = [] := List.eq_nil_of_length_eq_zero (by omega); subst this; unfold vSide; rfl))
  · repeat refine cr ?_
    refine ends_id ?_
    refine endK [] (h2 := ?_) (h3 := ?_) (nd := ?_)
    all_goals (repeat' first|exact ce0|refine ce ?_|refine ce2 ?_ ?_|exact SVLe.refl|refine ceb ?_)
    all_goals first | exact (show nodupB _ = true from rfl) | exact Or.inr rfl | ((unfold vSide; unfold inAll at *; rw [getLastD_at xs 1 (by omega)]; simp_all))
  · repeat refine cr ?_
    refine ends_id ?_
    refine endK [] (h2 := ?_) (h3 := ?_) (nd := ?_)
    all_goals (repeat' first|exact ce0|refine ce ?_|refine ce2 ?_ ?_|exact SVLe.refl|refine ceb ?_)
    all_goals first | exact (show nodupB _ = true from rfl) | exact Or.inr rfl | ((unfold vSide; unfold inAll at hc; rw [hc]; rfl))
  · repeat refine cr ?_
    refine ends_id ?_
    refine endK [] (h2 := ?_) (h3 := ?_) (nd := ?_)
    all_goals (repeat' first|exact ce0|refine ce ?_|refine ce2 ?_ ?_|exact SVLe.refl|refine ceb ?_)
    all_goals first | exact (show nodupB _ = true from rfl) | exact Or.inr rfl | ((unfold vSide; rw [decide_eq_false] <;> first | omega | simp))
theorem configOf_ok (m : Mach) (c : Conf) (hx : (c.le.length : Int) ≤ 16777216) (hy : (c.ri.length : Int) ≤ 16777216) (h1 : -1000 ≤ m.sy) (h2 : m.sy ≤ 1000) (h3 : -1000 ≤ m.st) (h4 : m.st ≤ 1000) : Does Tryz.prog 104 [.agg (maC m),.agg (coC c)] [] (.one (boo (vConf m c))) [] := by
  refine does_of (k := 0) Tryz.func104 rfl Tryz.ntmps104 rfl rfl fun w F0 S0 ρ0 => ?_
  dsimp only [argT,argH]
  repeat' first|(apply n3;exact a_new (gb := .bx _) rfl;exact rfl;refine dA ?_)|(apply p3;(first|exact pu1|exact a_sub rfl rfl (by omega) (by omega));exact rfl)|refine cd ?_|(apply c4 0;exact callK1 (θ := []) (hD := (within_ok _ _ _));exact rfl;exact rfl;exact rfl;refine dM ?_)|refine o_no rfl rfl rfl rfl ?_|(apply py3;exact rfl;exact rfl;(exact pu1);exact rfl;exact rfl)|(apply cy4 0;exact rfl;exact rfl;exact callK1 (θ := []) (hD := (validSide_ok _ _ preB3 preB3 preB3));exact rfl;exact rfl;exact rfl;exact rfl;refine dM ?_)|((refine o_gs rfl rfl (fun hc => ?_) (fun hc => ?_)) <;> (try simp only [dcB] at hc) <;> (try first|contradiction|(exfalso;omega)))|fail
  all_goals
    repeat refine cr ?_
    refine ends_id ?_
    refine endK [] (h2 := ?_) (h3 := ?_) (nd := ?_)
    all_goals (repeat' first|exact ce0|refine ce ?_|refine ce2 ?_ ?_|exact SVLe.refl|refine ceb ?_)
    all_goals first | exact (show nodupB _ = true from rfl) | exact Or.inr rfl | ((unfold vConf; first | (simp [*]; done) | (rw [decide_eq_false] <;> first | rfl | omega | (simp; done)) | (rw [decide_eq_true] <;> first | rfl | omega | (simp [*]; done)) | (simp_all; done) | (simp_all; omega)))
theorem ValidConfig_ok (m : Mach) (c : Conf) (hm : (m.ru.length : Int) ≤ 16777216) (hx : (c.le.length : Int) ≤ 16777216) (hy : (c.ri.length : Int) ≤ 16777216) : Does Tryz.prog 50 [.agg (maC m),.agg (coC c)] [] (.one (boo (vMach m && vConf m c))) [] := by
  refine does_of (k := 0) Tryz.func50 rfl Tryz.ntmps50 rfl rfl fun w F0 S0 ρ0 => ?_
  dsimp only [argT,argH]
  repeat' first|(apply n3;exact a_new (gb := .bx _) rfl;exact rfl;refine dA ?_)|(apply p3;(exact pu1);exact rfl)|refine cd ?_|(apply c4 0;exact callK1 (θ := []) (hD := (ValidMachine_ok _ preB3));exact rfl;exact rfl;exact rfl;refine dM ?_)|refine o_no rfl rfl rfl rfl ?_|(apply py3;exact rfl;exact rfl;(exact pu1);exact rfl;exact rfl)|(apply cy4 0;exact rfl;exact rfl;exact callK1 (θ := []) (hD := (configOf_ok _ _ preB3 preB3 preB3 preB3 preB3 preB3));exact rfl;exact rfl;exact rfl;exact rfl;refine dM ?_)|((refine o_gs rfl rfl (fun hc => ?_) (fun hc => ?_)) <;> (try simp only [dcB] at hc) <;> (try first|contradiction|(exfalso;omega)))|fail
  all_goals
    repeat refine cr ?_
    refine ends_id ?_
    refine endK [] (h2 := ?_) (h3 := ?_) (nd := ?_)
    all_goals (repeat' first|exact ce0|refine ce ?_|refine ce2 ?_ ?_|exact SVLe.refl|refine ceb ?_)
    all_goals first | exact (show nodupB _ = true from rfl) | exact Or.inr rfl | ((simp [*]))
@[irreducible] def askC (m : Mach) (c : Conf) (b : Int) : Int := if vMach m = true ∧ vConf m c = true then if 1 ≤ b ∧ b ≤ 20000 then 0 else 2 else 1
theorem runCode_ok (m : Mach) (c : Conf) (b : Int) (hm : (m.ru.length : Int) ≤ 16777216) (hx : (c.le.length : Int) ≤ 16777216) (hy : (c.ri.length : Int) ≤ 16777216) : Does Tryz.prog 41 [.agg (maC m),.agg (coC c),.one (int b)] [] (.one (int (askC m c b))) [] := by
  refine does_of (k := 0) Tryz.func41 rfl Tryz.ntmps41 rfl rfl fun w F0 S0 ρ0 => ?_
  dsimp only [argT,argH]
  repeat' first|(apply n3;exact a_new (gb := .bx _) rfl;exact rfl;refine dA ?_)|(apply p3;(exact pu1);exact rfl)|refine cd ?_|(apply c4 0;exact callK1 (θ := []) (hD := (ValidConfig_ok _ _ preB3 preB3 preB3));exact rfl;exact rfl;exact rfl;refine dM ?_)|(apply c4 0;exact callK1 (θ := []) (hD := (budgetOk_ok _));exact rfl;exact rfl;exact rfl;refine dM ?_)|((refine g_cond rfl (fun hc => ?_) (fun hc => ?_)) <;> (try simp only [dcB] at hc) <;> (try first|contradiction|(exfalso;omega)))|fail
  all_goals
    repeat refine cr ?_
    refine ends_id ?_
    refine endK [] (h2 := ?_) (h3 := ?_) (nd := ?_)
    all_goals (repeat' first|exact ce0|refine ce ?_|refine ce2 ?_ ?_|exact SVLe.refl|refine ceb ?_)
    all_goals first | exact (show nodupB _ = true from rfl) | exact Or.inr rfl | ((unfold askC; simp_all))
theorem l20Ask_ok (m : Mach) (c : Conf) (b : Int) (hm : (m.ru.length : Int) ≤ 16777216) (hx : (c.le.length : Int) ≤ 16777216) (hy : (c.ri.length : Int) ≤ 16777216) : Does Tryz.prog 32 [.one (maB m),.one (coB c),.one (int b)] [] (.one (int (askC m c b))) [] := by
  refine does_of (k := 0) Tryz.func32 rfl Tryz.ntmps32 rfl rfl fun w F0 S0 ρ0 => ?_
  dsimp only [argT,argH]
  repeat' first|(apply p3;exact pu1;exact rfl)|refine cd ?_|(apply c4 0;exact callK1 (θ := []) (hD := (l05Is_ok _ preB3));exact rfl;exact rfl;exact rfl;refine dM ?_)|(apply c4 0;exact callK1 (θ := []) (hD := (l05Budget_ok _));exact rfl;exact rfl;exact rfl;refine dM ?_)|refine o_no rfl rfl rfl rfl ?_|(apply py3;exact rfl;exact rfl;exact pu1;exact rfl;exact rfl)|(apply cy4 0;exact rfl;exact rfl;exact callK1 (θ := []) (hD := (l05Good_ok _ _ preB3 preB3 preB3 preB3 preB3 preB3));exact rfl;exact rfl;exact rfl;exact rfl;refine dM ?_)|((first|refine o_gs rfl rfl (fun hc => ?_) (fun hc => ?_)|refine g_cond rfl (fun hc => ?_) (fun hc => ?_)) <;> (try simp only [dcB] at hc) <;> (try first|contradiction|(exfalso;omega)))|fail
  all_goals
    repeat refine cr ?_
    refine ends_id ?_
    refine endK [] (h2 := ?_) (h3 := ?_) (nd := ?_)
    all_goals (repeat' first|exact ce0|refine ce ?_|refine ce2 ?_ ?_|exact SVLe.refl|refine ceb ?_)
    all_goals first | exact (show nodupB _ = true from rfl) | exact Or.inr rfl | ((unfold askC; simp_all))
end Go.Proofs.YtegpggobfdcafaaGreat
end
section
set_option linter.unusedVariables false
set_option linter.unusedSimpArgs false
set_option maxRecDepth 100000
set_option maxHeartbeats 4000000
namespace Go.Proofs.YtegpggobfdcafaaGreat
open Go Foot
abbrev ruBx (m : Mach) (s : Int) (a b : Nat) : GB := .bx [int m.sy,int m.st,shR m.ru,int s,.gv a,.gv b]
theorem preB4 {p : Prop} (h : p := by first | with_reducible assumption | omega | (simp only [List.length_append,List.length_cons,List.length_nil,List.length_set,List.length_replicate,List.length_take,List.length_drop,List.length_tail,List.length_dropLast,List.length_reverse] at *; omega) | exact mem_len (by assumption) (by omega) | (with_reducible refine Int.le_trans (Int.ofNat_le.2 (trimR_len _)) ?_; simp only [List.length_cons,List.length_tail]; omega) | (have := vMach_bd (by assumption); omega) | trivial) : p := h
theorem runnerOf_ok (m : Mach) (c : Conf) (hx : (c.le.length : Int) ≤ 16777216) (hy : (c.ri.length : Int) ≤ 16777216) : Does Tryz.prog 52 [.agg (maC m),.agg (coC c)] [] (.one (.gv 0)) [ruBx m c.st 1 2,roI c.le.reverse,roI c.ri.reverse] := by
  refine does_of (k := 0) Tryz.func52 rfl Tryz.ntmps52 rfl rfl fun w F0 S0 ρ0 => ?_
  dsimp only [argT,argH]
  repeat' first|(apply n3;exact a_new (gb := .bx _) rfl;exact rfl;refine dA ?_)|(apply p3;exact pu1;exact rfl)|refine cd ?_|(apply g_drN (id := 1) okM [[],[],[1],[],[3],[3,4],[],[6],[3,4,5,6,7],[0,1,2,3,4,5,6,7,8],[0,1,2,3,4,5,6,7,8,9],[0,1,2,3,4,5,6,7,8,9,10]] [([],[]),([],[]),([],[]),([],[]),([],[]),([0],[]),([],[]),([],[]),([1],[]),([],[]),([2],[]),([],[])] 3;(focus (refine dp 0 0 [6,7,8,9,10,11,12,13] [(true,0),(true,1)] puL ?_;refine dp 1 0 [5,8,9,10,11,12,13] [(true,0),(true,1)] (a_pure (sv := .one _) rfl) ?_;refine dp 2 1 [5,8,9,10,11,12,13] [(true,0),(true,1)] puL ?_;refine dp 3 0 [5,6,7,11,12] [] (a_pure (sv := .one _) rfl) ?_;refine dp 4 1 [5,6,7,11,12] [] puL ?_;refine duN 5 3 [5,6,7,11,12] [] (callD1 (n := _) 0 (θ := []) (hD := (reversed_ok _ preB4))) (by exact rfl) (by exact rfl) ?_;refine dp 6 0 [5,6,7,8,9,10] [(true,0)] (a_pure (sv := .one _) rfl) ?_;refine dp 7 1 [5,6,7,8,9,10] [(true,0)] puL ?_;refine duN 8 31 [5,6,7] [] (callD1 (n := _) 1 (θ := []) (hD := (reversed_ok _ preB4))) (by exact rfl) (by exact rfl) ?_;refine dp 9 511 [] [] (a_pure (sv := .agg _) rfl) ?_;refine duE 10 1023 [] [] (atN 2 (fun _ => a_new (gb := .bx _) rfl)) (by exact rfl) (by exact rfl) ?_;refine dp 11 2047 [] [] pu1 ?_;(refine d_nil ?_;refine dN ?_)));any_goals kernel_rfl)|fail
  repeat refine cr ?_
  refine ends_id ?_
  refine endK [?_,?_,?_] (h2 := ?_) (h3 := ?_) (nd := ?_)
  rotate_left 3
  all_goals (repeat' first|exact ce0|refine ce ?_|refine ce2 ?_ ?_|(refine Or.inr (bx_eq rfl rfl ?_);(try dsimp only [C.ren,C.ren.all]);(try exact rfl))|exact SVLe.refl|refine ceb ?_)
  all_goals first | exact (show nodupB _ = true from rfl) | exact Or.inr rfl | (rfl)
theorem nearest_ok (l : List Int) (hx : (l.length : Int) ≤ 16777216) : Does Tryz.prog 161 [.one (shI l)] [] (.one (int (l.getLastD 0))) [] := by
  refine does_of (k := 0) Tryz.func161 rfl Tryz.ntmps161 rfl rfl fun w F0 S0 ρ0 => ?_
  dsimp only [argT,argH]
  repeat' first|(apply p3;(first|exact pu1|exact puN|exact puC|exact a_sub rfl rfl (by omega) (by omega)|exact puI);exact rfl)|refine cd ?_|((refine g_cond rfl (fun hc => ?_) (fun hc => ?_)) <;> (try simp only [dcB] at hc) <;> (try first|contradiction|(exfalso;omega)))|fail
  · repeat refine cr ?_
    refine ends_id ?_
    refine endK [] (h2 := ?_) (h3 := ?_) (nd := ?_)
    all_goals (repeat' first|exact ce0|refine ce ?_|refine ce2 ?_ ?_|exact SVLe.refl|refine ceb ?_)
    all_goals first | exact (show nodupB _ = true from rfl) | exact Or.inr rfl | ((have : l = [] := List.eq_nil_of_length_eq_zero (by omega); subst this; rfl))
  · repeat refine cr ?_
    refine ends_id ?_
    refine endK [] (h2 := ?_) (h3 := ?_) (nd := ?_)
    all_goals (repeat' first|exact ce0|refine ce ?_|refine ce2 ?_ ?_|exact SVLe.refl|refine ceb ?_)
    all_goals first | exact (show nodupB _ = true from rfl) | exact Or.inr rfl | (exact (getLastD_at l 0 (by omega)).symm)
theorem pop_ok (l : List Int) (hx : (l.length : Int) ≤ 16777216) : Does Tryz.prog 159 [.one (.gv 0)] [roI l] (.one (.gv 1)) [.dead,roI l.dropLast] := by
  refine does_of (k := 1) Tryz.func159 rfl Tryz.ntmps159 rfl rfl fun w F0 S0 ρ0 => ?_
  dsimp only [argT,argH]
  repeat' first|(apply n3;exact a_nilO eI rfl;exact rfl)|(apply p3;(first|exact pu1|exact puN|exact a_sub rfl rfl (by omega) (by omega)|exact a_max rfl rfl);exact rfl)|refine cd ?_|(apply s3;exact a_slHO rfl rfl rfl (fS rfl) (by omega) (by omega) (by exact rfl) (by decide);exact rfl;exact rfl)|fail
  repeat refine cr ?_
  refine ends_id ?_
  refine endK [?_] (h2 := ?_) (h3 := ?_) (nd := ?_)
  rotate_left 1
  all_goals (repeat' first|exact ce0|refine ce ?_|refine ce2 ?_ ?_|exact SVLe.refl|refine ceb ?_)
  all_goals first | exact (show nodupB _ = true from rfl) | exact Or.inr rfl | ((rw [List.dropLast_eq_take]; congr 1; split <;> omega))
@[irreducible] def pushL (l : List Int) (x : Int) : List Int := if x = 0 ∧ l = [] then l else l ++ [x]
theorem push_ok (l : List Int) (x : Int) (hx : (l.length : Int) ≤ 16777216) : Does Tryz.prog 160 [.one (.gv 0),.one (int x)] [roI l] (.one (.gv 1)) [.dead,roI (pushL l x)] := by
  refine does_of (k := 1) Tryz.func160 rfl Tryz.ntmps160 rfl rfl fun w F0 S0 ρ0 => ?_
  dsimp only [argT,argH]
  repeat' first|(apply n3;(exact a_litE eI [_] rfl rfl rfl rfl rfl rfl rfl rfl);exact rfl;refine dA ?_)|(apply p3;(first|exact pu1|exact puC);exact rfl)|refine cd ?_|(apply s3;exact a_appE (fP rfl) rfl rfl rfl rfl nowR (by (simp <;> omega)) (by decide) (by decide) (by exact rfl);exact rfl;exact rfl)|refine o_no rfl rfl rfl rfl ?_|(apply py3;exact rfl;exact rfl;(first|exact pu1|exact puC|exact puN);exact rfl;exact rfl)|((first|refine o_gs rfl rfl (fun hc => ?_) (fun hc => ?_)|refine g_cond rfl (fun hc => ?_) (fun hc => ?_)) <;> (try simp only [dcB] at hc) <;> (try first|contradiction|(exfalso;omega)))|fail
  · repeat refine cr ?_
    refine ends_id ?_
    refine endK [?_] (h2 := ?_) (h3 := ?_) (nd := ?_)
    rotate_left 1
    all_goals (repeat' first|exact ce0|refine ce ?_|refine ce2 ?_ ?_|(refine Or.inr (bx_eq rfl rfl ?_);(try dsimp only [C.ren,C.ren.all]);(try exact rfl))|exact SVLe.refl|refine ceb ?_)
    all_goals first | exact (show nodupB _ = true from rfl) | exact Or.inr rfl | ((have : l = [] := List.eq_nil_of_length_eq_zero (by omega); subst this; unfold pushL; simp [*]))
  · repeat refine cr ?_
    refine ends_id ?_
    refine endK [?_] (h2 := ?_) (h3 := ?_) (nd := ?_)
    rotate_left 1
    all_goals (repeat' first|exact ce0|refine ce ?_|refine ce2 ?_ ?_|(refine Or.inr (bx_eq rfl rfl ?_);(try dsimp only [C.ren,C.ren.all]);(try exact rfl))|exact SVLe.refl|refine ceb ?_)
    all_goals first | exact (show nodupB _ = true from rfl) | exact Or.inr rfl | ((unfold pushL; rw [if_neg]; rintro ⟨_,rfl⟩; simp at hc))
  · repeat refine cr ?_
    refine ends_id ?_
    refine endK [?_] (h2 := ?_) (h3 := ?_) (nd := ?_)
    rotate_left 1
    all_goals (repeat' first|exact ce0|refine ce ?_|refine ce2 ?_ ?_|(refine Or.inr (bx_eq rfl rfl ?_);(try dsimp only [C.ren,C.ren.all]);(try exact rfl))|exact SVLe.refl|refine ceb ?_)
    all_goals first | exact (show nodupB _ = true from rfl) | exact Or.inr rfl | ((unfold pushL; rw [if_neg]; rintro ⟨h,_⟩; exact hc h))
abbrev ruD (m : Mach) (s : Int) (l r : List Int) : C := .d (.bx false [.sc (.int .i64 m.sy),.sc (.int .i64 m.st),.sl false 3 (rows eR m.ru),.sc (.int .i64 s),.sl false 1 (rows eI l),.sl false 1 (rows eI r)])
theorem symbol_ok (m : Mach) (s : Int) (l r : List Int) (hx : (r.length : Int) ≤ 16777216) : Does Tryz.prog 210 [.one (ruD m s l r)] [] (.one (int (r.getLastD 0))) [] := by
  refine does_of (k := 0) Tryz.func210 rfl Tryz.ntmps210 rfl rfl fun w F0 S0 ρ0 => ?_
  dsimp only [argT,argH]
  repeat' first|(apply p3;(exact pu1);exact rfl)|refine cd ?_|(apply c4 0;exact callK1 (θ := []) (hD := (nearest_ok _ preB4));exact rfl;exact rfl;exact rfl;refine dM ?_)|fail
  repeat refine cr ?_
  refine ends_id ?_
  refine endK [] (h2 := ?_) (h3 := ?_) (nd := ?_)
  all_goals (repeat' first|exact ce0|refine ce ?_|refine ce2 ?_ ?_|exact SVLe.refl|refine ceb ?_)
  all_goals first | exact (show nodupB _ = true from rfl) | exact Or.inr rfl | (rfl)
theorem at_ok (m : Mach) (s : Int) (l r : List Int) (hx : (r.length : Int) ≤ 16777216) (h1 : -9223372036854775808 ≤ s * m.sy) (h2 : s * m.sy < 9223372036854775808) (h3 : -9223372036854775808 ≤ s * m.sy + r.getLastD 0) (h4 : s * m.sy + r.getLastD 0 < 9223372036854775808) : Does Tryz.prog 158 [.one (ruD m s l r)] [] (.one (int (s * m.sy + r.getLastD 0))) [] := by
  refine does_of (k := 0) Tryz.func158 rfl Tryz.ntmps158 rfl rfl fun w F0 S0 ρ0 => ?_
  dsimp only [argT,argH]
  repeat' first|(apply p3;exact a_pure (sv := .one _) rfl;exact rfl)|refine cd ?_|(apply g_drN (id := 1) okM [[],[0],[0,1],[0,1,2],[],[4],[4,5],[4,5,6],[4,5,6,7],[0,1,2,3,4,5,6,7,8],[],[10],[0,1,2,3,4,5,6,7,8,9,10,11],[0,1,2,3,4,5,6,7,8,9,10,11,12]] [([],[]),([],[]),([],[]),([],[]),([],[]),([],[]),([],[]),([],[]),([],[]),([],[]),([],[]),([],[]),([],[]),([],[])] 0;(focus (refine dp 0 0 [7,8,9,10,11,13,14] [] pu1 ?_;refine dp 1 1 [7,8,9,10,11,13,14] [] (a_pure (sv := .one _) rfl) ?_;refine dp 2 3 [7,8,9,10,11,13,14] [] (a_pure (sv := .one _) rfl) ?_;refine dp 3 7 [7,8,9,10,11,13,14] [] puL ?_;refine dp 4 0 [3,4,5,6,13,14] [] pu1 ?_;refine dp 5 1 [3,4,5,6,13,14] [] (a_pure (sv := .one _) rfl) ?_;refine dp 6 3 [3,4,5,6,13,14] [] (a_pure (sv := .one _) rfl) ?_;refine dp 7 7 [3,4,5,6,13,14] [] (a_pure (sv := .one _) rfl) ?_;refine dp 8 15 [3,4,5,6,13,14] [] puL ?_;refine dp 9 511 [13,14] [] (by exact a_mul rfl rfl (by first|omega|assumption) (by first|omega|assumption)) ?_;refine dp 10 0 [3,4,5,6,7,8,9,10,11,12] [] pu1 ?_;refine dp 11 1 [3,4,5,6,7,8,9,10,11,12] [] (callD1 (n := _) 0 (θ := []) (hD := (symbol_ok _ _ _ _ preB4))) ?_;refine dp 12 4095 [] [] (a_add rfl rfl (by omega) (by omega)) ?_;refine dp 13 8191 [] [] pu1 ?_;(refine d_nil ?_;refine dN ?_)));any_goals kernel_rfl)|fail
  repeat refine cr ?_
  refine ends_id ?_
  refine endK [] (h2 := ?_) (h3 := ?_) (nd := ?_)
  all_goals (repeat' first|exact ce0|refine ce ?_|refine ce2 ?_ ?_|exact SVLe.refl|refine ceb ?_)
  all_goals first | exact (show nodupB _ = true from rfl) | exact Or.inr rfl | (rfl)
theorem rule_ok (m : Mach) (s : Int) (l r : List Int) (hx : (r.length : Int) ≤ 16777216) (h1 : 0 ≤ s * m.sy) (h2 : s * m.sy < 9223372036854775) (h3 : 0 ≤ r.getLastD 0) (h4 : r.getLastD 0 < 9223372036854775) (h5 : s * m.sy + r.getLastD 0 < m.ru.length) : Does Tryz.prog 99 [.one (ruD m s l r)] [] (.agg (ruC (m.ru[(s * m.sy + r.getLastD 0).toNat]'(by omega)))) [] := by
  refine does_of (k := 0) Tryz.func99 rfl Tryz.ntmps99 rfl rfl fun w F0 S0 ρ0 => ?_
  dsimp only [argT,argH]
  repeat' first|(apply n3;exact a_new (gb := .bx _) rfl;exact rfl;refine dA ?_)|refine cd ?_|(apply g_drN (id := 1) okM [[],[0],[0,1],[0,1,2],[0,1,2,3],[],[5],[0,1,2,3,4,5,6],[0,1,2,3,4,5,6,7],[0,1,2,3,4,5,6,7,8]] [([],[]),([],[]),([],[]),([],[]),([],[]),([],[]),([],[]),([],[]),([],[]),([],[0])] 0;(focus (refine dp 0 0 [8,9] [] pu1 ?_;refine dp 1 1 [8,9] [] (a_pure (sv := .one _) rfl) ?_;refine dp 2 3 [8,9] [] (a_pure (sv := .one _) rfl) ?_;refine dp 3 7 [8,9] [] (a_pure (sv := .one _) rfl) ?_;refine dp 4 15 [8,9] [] puL ?_;refine dp 5 0 [3,4,5,6,7] [] pu1 ?_;refine dp 6 1 [3,4,5,6,7] [] (callD1 (n := _) 0 (θ := []) (hD := (at_ok _ _ _ _ preB4 preB4 preB4 preB4 preB4))) ?_;refine dp 7 127 [] [] puI ?_;refine dp 8 255 [] [] puL ?_;refine duE 9 511 [] [] (by exact a_st_bx rfl rfl rfl rfl (fN rfl rfl) (Nat.le_of_ble_eq_true rfl) rfl) (by exact rfl) (by exact rfl) ?_;(refine d_nil ?_;refine dN ?_)));any_goals kernel_rfl)|fail
  repeat refine cr ?_
  refine ends_id ?_
  refine endK [] (h2 := ?_) (h3 := ?_) (nd := ?_)
  all_goals (repeat' first|exact ce0|refine ce ?_|refine ce2 ?_ ?_|exact SVLe.refl|refine ceb ?_)
  all_goals first | exact (show nodupB _ = true from rfl) | exact Or.inr rfl | (rfl)
theorem halts_ok (m : Mach) (s : Int) (l r : List Int) (hx : (r.length : Int) ≤ 16777216) (h1 : 0 ≤ s * m.sy) (h2 : s * m.sy < 9223372036854775) (h3 : 0 ≤ r.getLastD 0) (h4 : r.getLastD 0 < 9223372036854775) (h5 : s * m.sy + r.getLastD 0 < m.ru.length) : Does Tryz.prog 98 [.one (ruD m s l r)] [] (.one (boo (decide (m.ru[(s * m.sy + r.getLastD 0).toNat]'(by omega) = ⟨0,0,-1⟩)))) [] := by
  refine does_of (k := 0) Tryz.func98 rfl Tryz.ntmps98 rfl rfl fun w F0 S0 ρ0 => ?_
  dsimp only [argT,argH]
  repeat' first|(apply p3;exact pu1;exact rfl)|refine cd ?_|(apply c4 0;exact callK1 (θ := []) (hD := (rule_ok _ _ _ _ preB4 preB4 preB4 preB4 preB4 preB4));exact rfl;exact rfl;exact rfl;refine dM ?_)|(apply c4 0;exact callK1 (θ := []) (hD := (isRule_ok _));exact rfl;exact rfl;exact rfl;refine dM ?_)|fail
  repeat refine cr ?_
  refine ends_id ?_
  refine endK [] (h2 := ?_) (h3 := ?_) (nd := ?_)
  all_goals (repeat' first|exact ce0|refine ce ?_|refine ce2 ?_ ?_|exact SVLe.refl|refine ceb ?_)
  all_goals first | exact (show nodupB _ = true from rfl) | exact Or.inr rfl | (simp)
end Go.Proofs.YtegpggobfdcafaaGreat
end
section
set_option linter.unusedVariables false
set_option linter.unusedSimpArgs false
set_option maxRecDepth 100000
namespace Go.Proofs.YtegpggobfdcafaaGreat
open Go Foot
abbrev eVv : Enc Value := ⟨1,fun v => [.sc v],fun _ => rfl,by decide⟩
abbrev eO1 : Enc (List Int) := ⟨1,fun l => [.sl true 1 (rows eI l)],fun _ => rfl,by decide⟩
structure Back (w : World) (S Z G : Foot) (ps : List (List Int)) (vs : List Value) : Prop where
  r : Reps w no (rows eO1 ps) vs G
  s : le G S
  z : Foot.dis G Z
  t : ∀ t ∈ tabs,∀ o,¬ G t.1 o
theorem Back.keep {w w' : World} {S S' Z G : Foot} {ps : List (List Int)} {vs : List Value} (h : Back w S Z G ps vs) (hS : Agree w w' S) (hle : le S S') : Back w' S' Z G ps vs :=
  ⟨h.r.keep (hS.le h.s) Agree.no (le_refl _) (le_refl _),h.s.trans hle,h.z,h.t⟩
theorem eO_len (ps : List (List Int)) : (rows eO1 ps).length = ps.length := by rw [rows_len]; simp
theorem Back.len {w : World} {S Z G : Foot} {ps : List (List Int)} {vs : List Value} (h : Back w S Z G ps vs) : vs.length = ps.length := by
  have := h.r.length
  rwa [eO_len] at this
theorem lkG_cons (d : Nat) (gb : GB) (h : List (Nat × GB)) (i : Nat) : lkG ((d,gb) :: h) i = if i = d then gb else lkG h i := by
  simp only [lkG]
  by_cases hi : i = d
  · subst hi; simp
  · simp [beq_ne hi,hi]
section
variable {P : Program} {g : Gh} {t : List (Nat × SV)} {h0 : List (Nat × GB)} {n i j q r : Nat} {a : Act} {w : World} {S Z : Foot} {ρ : Env} {F : Nat → Foot} {ps : List (List Int)} {vs : List Value} {Q : Exit → St → Prop}
theorem rel_root {gb : GB} (h : Rel g ⟨t,h0,n⟩ a w S ρ F) (hr : gb = .dead ∨ ∃ v,ρ i = some v ∧ RepG w S ρ gb v (F i)) : Rel g ⟨t,(i,gb) :: h0,n⟩ a w S ρ F := by
  refine ⟨h.size,h.defers,h.slot,fun j => ?_,h.dis,h.disS,h.own,h.ex,h.exS,h.old,h.inS,h.newS,h.pin,h.tab,h.fin⟩
  simp only [lkG_cons]
  split
  · rename_i e; subst e; exact hr
  · exact h.root j
theorem rel_rowT {z : Nat} {xs : List D} (h : Rel g ⟨t,h0,n⟩ a w S ρ F) (hg : lkG h0 r = .row z xs) : ∃ v,ρ r = some v ∧ Rep w S (.sl true z xs) v (F r) := by
  rcases h.root r with h1 | ⟨u,r1,r2⟩
  · simp only [hg] at h1; cases h1
  · simp only [hg] at r2
    exact ⟨u,r1,r2⟩
theorem nbeq {i j : Nat} (h : Nat.beq i j = false) : i ≠ j := fun e => by rw [e] at h; simp at h
end
end Go.Proofs.YtegpggobfdcafaaGreat
end
section
set_option linter.unusedVariables false
set_option linter.unusedSimpArgs false
namespace Go.Proofs.YtegpggobfdcafaaGreat
open Go Foot
structure BackD (w : World) (S Z G : Foot) (ds : List D) (vs : List Value) : Prop where
  r : Reps w no ds vs G
  s : le G S
  z : Foot.dis G Z
  t : ∀ t ∈ tabs,∀ o,¬ G t.1 o
theorem BackD.keep {w w' : World} {S S' Z G : Foot} {ds : List D} {vs : List Value} (h : BackD w S Z G ds vs) (hS : Agree w w' S) (hle : le S S') : BackD w' S' Z G ds vs :=
  ⟨h.r.keep (hS.le h.s) Agree.no (le_refl _) (le_refl _),h.s.trans hle,h.z,h.t⟩
section
variable {P : Program} {g : Gh} {t : List (Nat × SV)} {h0 : List (Nat × GB)} {n q r i j : Nat} {a : Act} {w : World} {S Z : Foot} {ρ : Env} {F : Nat → Foot} {ds : List D} {vs : List Value} {Q : Exit → St → Prop}
theorem rel_isv {v : Value} (h : Rel g ⟨t,h0,n⟩ a w S ρ F) (hi : lkG h0 i = .isv v) : ρ i = some v := by
  rcases h.root i with h1 | ⟨u,r1,r2⟩
  · simp only [hi] at h1; cases h1
  · simp only [hi] at r2
    rw [r1]
    exact congrArg some r2
end
end Go.Proofs.YtegpggobfdcafaaGreat
end
