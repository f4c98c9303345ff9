/- Parts of the proof (13 of 21). -/
import Derived.Maps.RangeRun
import Derived.Test.YtjifedbidnmapaaQ12
section
set_option linter.unusedVariables false
set_option linter.unusedSimpArgs false
set_option maxRecDepth 100000
namespace Go.Proofs.Ytjifedbidnmapaa
open Go Foot MapKept
section
variable {P : Program} {g : Gh} {t : List (Nat × SV)} {h : List (Nat × GB)} {n : Nat} {Q : Exit → St → Prop} {ops : Array Oper} {l : List Oper}
variable {ty : TypeId} {pos : String} {after : Array Edge} {x : Operand} {T kt et : TypeId} {α β : Type}
variable {st : St} {dst : Option Tmp} {guard : Option (Nat × Bool)}
end
end Go.Proofs.Ytjifedbidnmapaa
end
section
set_option linter.unusedVariables false
set_option linter.unusedSimpArgs false
set_option maxRecDepth 100000
set_option maxHeartbeats 4000000
namespace Go.Proofs.Ytjifedbidnmapaa
open Go Foot
end Go.Proofs.Ytjifedbidnmapaa
end
section
set_option linter.unusedVariables false
set_option linter.unusedSimpArgs false
set_option maxRecDepth 100000
set_option maxHeartbeats 4000000
namespace Go.Proofs.Ytjifedbidnmapaa
open Go Foot
@[irreducible] def tgWord (n : Int) (l : List Int) : Bool := inAll 0 (n - 1) l && decide ((l.length : Int) ≤ 1000)
@[irreducible] def vTag (t : Tg) : Bool := decide (1 ≤ t.de ∧ t.de ≤ 4) && decide (1 ≤ (t.wo.length : Int) ∧ (t.wo.length : Int) ≤ 200) && (risesL t.ha && inAll 0 ((t.wo.length : Int) - 1) t.ha) && t.wo.all (tgWord t.wo.length)
@[irreducible] def tgHalts (t : Tg) (w : List Int) : Bool := decide ((w.length : Int) < t.de) || decide (w.headD 0 ∈ t.ha)
@[irreducible] def tgOut (t : Tg) (w : List Int) : List Int := w ++ t.wo.getD (w.headD 0).toNat []
@[irreducible] def tgStep (t : Tg) (w : List Int) : List Int := (tgOut t w).drop t.de.toNat
@[irreducible] def tgOver (t : Tg) (w : List Int) : Bool := !decide (((tgOut t w).length : Int) ≤ 1000)
theorem vTag_bd {t : Tg} (h : vTag t = true) : (1 ≤ t.de ∧ t.de ≤ 4) ∧ 1 ≤ (t.wo.length : Int) ∧ (t.wo.length : Int) ≤ 200 := by
  unfold vTag at h
  simp only [Bool.and_eq_true,decide_eq_true_eq] at h
  omega
theorem vTag_w {t : Tg} (h : vTag t = true) {x : List Int} (hx : x ∈ t.wo) : (x.length : Int) ≤ 1000 ∧ ∀ y ∈ x,0 ≤ y ∧ y < t.wo.length := by
  unfold vTag at h
  simp only [Bool.and_eq_true,List.all_eq_true] at h
  have := h.2 x hx
  unfold tgWord inAll at this
  simp only [Bool.and_eq_true,List.all_eq_true,decide_eq_true_eq] at this
  exact ⟨this.2,fun y hy => by have := this.1 y hy; omega⟩
structure Gd (t : Tg) (q : List Int) : Prop where
  wd : ∀ y ∈ q,0 ≤ y ∧ y < t.wo.length
  le : (q.length : Int) ≤ 1000
theorem tgHalts_no {t : Tg} {q : List Int} (h : tgHalts t q = false) : t.de ≤ q.length := by
  unfold tgHalts at h
  simp at h
  omega
theorem tgHead {t : Tg} {q : List Int} (hv : vTag t = true) (hg : Gd t q) (h : tgHalts t q = false) : 0 ≤ q.headD 0 ∧ q.headD 0 < t.wo.length := by
  have h1 := tgHalts_no h
  have h2 := vTag_bd hv
  cases q with
  | nil => simp at h1; omega
  | cons a q => exact hg.wd a (by simp)
theorem tgStep_gd {t : Tg} {q : List Int} (hv : vTag t = true) (hg : Gd t q) (h : tgHalts t q = false) (ho : tgOver t q = false) : Gd t (tgStep t q) := by
  obtain ⟨h1,h2⟩ := tgHead hv hg h
  have hlt : (q.headD 0).toNat < t.wo.length := by omega
  have hout : tgOut t q = q ++ t.wo[(q.headD 0).toNat] := by unfold tgOut; rw [List.getD_eq_getElem?_getD,List.getElem?_eq_getElem hlt]; rfl
  refine ⟨fun y hy => ?_,?_⟩
  · unfold tgStep at hy
    have := List.mem_of_mem_drop hy
    rw [hout] at this
    rcases List.mem_append.1 this with hy | hy
    · exact hg.wd y hy
    · exact (vTag_w hv (List.getElem_mem hlt)).2 y hy
  · unfold tgOver at ho
    unfold tgStep
    simp at ho
    rw [List.length_drop]
    omega
section
variable {α : Type} {f : α → α} {h o : α → Bool} {x : α} {k : Nat}
end
section
variable {α : Type} [DecidableEq α] {f : α → α} {h o : α → Bool} {x y : α} {k p l : Nat}
end
end Go.Proofs.Ytjifedbidnmapaa
end
section
set_option linter.unusedVariables false
set_option linter.unusedSimpArgs false
set_option maxRecDepth 100000
set_option maxHeartbeats 4000000
namespace Go.Proofs.Ytjifedbidnmapaa
open Go Foot
end Go.Proofs.Ytjifedbidnmapaa
end
section
set_option linter.unusedVariables false
set_option linter.unusedSimpArgs false
set_option maxRecDepth 100000
set_option maxHeartbeats 4000000
namespace Go.Proofs.Ytjifedbidnmapaa
open Go Foot
theorem preB46 {p : Prop} (h : p := by first | with_reducible assumption | omega | (simp only [List.length_append,List.length_cons,List.length_nil,List.length_set,List.length_replicate,List.length_take,List.length_drop,List.length_tail,List.length_dropLast,List.length_reverse] at *; omega) | exact mem_len (by assumption) (by omega) | (with_reducible refine Int.le_trans (Int.ofNat_le.2 (trimR_len _)) ?_; simp only [List.length_cons,List.length_tail]; omega) | (exact (ruAt_ok (by assumption) (by assumption) (by assumption)).2.1) | (exact (ruAt_ok (by assumption) (by assumption) (by assumption)).2.1) | (have := vMach_bd (by assumption); omega) | (simp only [mC_ch,mC_tu]; omega) | (have := vTag_bd (by assumption); omega) | (have := (‹Gd _ _›).le; omega) | (exact tgHalts_no (by assumption)) | (exact tgHead (by assumption) (by assumption) (by assumption)) | (exact Int.le_trans (tgStep_gd (by assumption) (by assumption) (by assumption) (by assumption)).le (by decide)) | (with_reducible refine Int.le_trans (Int.ofNat_le.2 (pushL_len _ _)) ?_; simp only [List.length_dropLast]; omega) | exact (ask_ok (by assumption)).1 | exact (ask_ok (by assumption)).2.1 | exact (ask_ok (by assumption)).2.2.1 | exact (ask_ok (by assumption)).2.2.2 | trivial) : p := h
theorem isTagWord_ok (l : List Int) (n : Int) (hx : (l.length : Int) ≤ 16777216) (h1 : -1000 ≤ n) (h2 : n ≤ 16777216) : Does Try.prog 39 [.one (shI l),.one (int n)] [] (.one (boo (tgWord n l))) [] := by
  refine does_of (k := 0) Try.func39 rfl Try.ntmps39 rfl rfl fun w F0 S0 ρ0 => ?_
  dsimp only [argT,argH]
  repeat' first|(apply p3;(first|exact pu1|exact puN|exact puC);exact rfl)|refine cd ?_|refine o_no rfl rfl rfl rfl ?_|(apply py3;exact rfl;exact rfl;(first|exact pu1|exact a_sub rfl rfl (by omega) (by omega));exact rfl;exact rfl)|(apply cy4 0;exact rfl;exact rfl;exact callK1 (θ := []) (hD := (allWithin_ok _ _ _ preB46));exact rfl;exact rfl;exact rfl;exact rfl;refine dM ?_)|((refine o_gs rfl rfl (fun hc => ?_) (fun hc => ?_)) <;> (try simp only [dcB] at hc) <;> (try first|contradiction|(exfalso;omega)))|fail
  · repeat refine cr ?_
    refine ends_id ?_
    refine endK [] (h2 := ?_) (h3 := ?_) (nd := ?_)
    all_goals (repeat' first|exact ce0|refine ce ?_|refine ce2 ?_ ?_|exact SVLe.refl|refine ceb ?_)
    all_goals first | exact (show nodupB _ = true from rfl) | exact Or.inr rfl | ((unfold tgWord; simp_all))
  · repeat refine cr ?_
    refine ends_id ?_
    refine endK [] (h2 := ?_) (h3 := ?_) (nd := ?_)
    all_goals (repeat' first|exact ce0|refine ce ?_|refine ce2 ?_ ?_|exact SVLe.refl|refine ceb ?_)
    all_goals first | exact (show nodupB _ = true from rfl) | exact Or.inr rfl | ((unfold tgWord; simp_all))
theorem wordsOk1_ok (l : List Int) (n : Int) (hx : (l.length : Int) ≤ 16777216) (h1 : -1000 ≤ n) (h2 : n ≤ 16777216) : Does Try.prog 63 [.one (shI l),.one (.d (.bx false [.sc (.int .i64 n)]))] [] (.one (boo (!tgWord n l))) [] := by
  refine does_of (k := 0) Try.func63 rfl Try.ntmps63 rfl rfl fun w F0 S0 ρ0 => ?_
  dsimp only [argT,argH]
  repeat' first|(apply p3;(exact pu1);exact rfl)|refine cd ?_|(apply c4 0;exact callK1 (θ := []) (hD := (isTagWord_ok _ _ preB46 preB46 preB46));exact rfl;exact rfl;exact rfl;refine dM ?_)|fail
  repeat refine cr ?_
  refine ends_id ?_
  refine endK [] (h2 := ?_) (h3 := ?_) (nd := ?_)
  all_goals (repeat' first|exact ce0|refine ce ?_|refine ce2 ?_ ?_|exact SVLe.refl|refine ceb ?_)
  all_goals first | exact (show nodupB _ = true from rfl) | exact Or.inr rfl | (rfl)
theorem hasWT_ok (xs : List (List Int)) (n : Int) (hx : (xs.length : Int) ≤ 16777216) (hxs : ∀ x ∈ xs,(x.length : Int) ≤ 16777216) (h1 : -1000 ≤ n) (h2 : n ≤ 16777216) : Does Try.prog 62 [.one (shW xs),.one (.d (.fn (.func 63) [.bx false [.sc (.int .i64 n)]]))] [] (.one (boo (xs.any fun w => !tgWord n w))) [] := hasWd_ok xs _ (.bx false [.sc (.int .i64 n)]) (fun w => !tgWord n w) hx hxs (fQ rfl) fun r hr => wordsOk1_ok r n hr h1 h2
theorem wordsOk_ok (xs : List (List Int)) (n : Int) (hx : (xs.length : Int) ≤ 16777216) (hxs : ∀ x ∈ xs,(x.length : Int) ≤ 16777216) (h1 : -1000 ≤ n) (h2 : n ≤ 16777216) : Does Try.prog 43 [.one (shW xs),.one (int n)] [] (.one (boo (xs.all (tgWord n)))) [] := by
  refine does_of (k := 0) Try.func43 rfl Try.ntmps43 rfl rfl fun w F0 S0 ρ0 => ?_
  dsimp only [argT,argH]
  repeat' first|(apply n3;exact a_new (gb := .bx _) rfl;exact rfl;refine dA ?_)|(apply p3;exact pu1;exact rfl)|refine cd ?_|(apply c4 0;exact callK1 (θ := []) (hD := (hasWT_ok _ _ preB46 preB46 preB46 preB46));exact rfl;exact rfl;exact rfl;refine dM ?_)|fail
  repeat refine cr ?_
  refine ends_id ?_
  refine endK [] (h2 := ?_) (h3 := ?_) (nd := ?_)
  all_goals (repeat' first|exact ce0|refine ce ?_|refine ce2 ?_ ?_|exact SVLe.refl|refine ceb ?_)
  all_goals first | exact (show nodupB _ = true from rfl) | exact Or.inr rfl | (exact not_any_not _ _)
theorem ValidTag_ok (t : Tg) (hx : (t.ha.length : Int) ≤ 16777216) (hy : (t.wo.length : Int) ≤ 16777216) (hys : ∀ x ∈ t.wo,(x.length : Int) ≤ 16777216) : Does Try.prog 25 [.agg (tgC t)] [] (.one (boo (vTag t))) [] := by
  refine does_of (k := 0) Try.func25 rfl Try.ntmps25 rfl rfl fun w F0 S0 ρ0 => ?_
  dsimp only [argT,argH]
  repeat' first|(apply n3;exact a_new (gb := .bx _) rfl;exact rfl;refine dA ?_)|(apply p3;(exact pu1);exact rfl)|refine cd ?_|(apply c4 0;exact callK1 (θ := []) (hD := (sizeW_ok _ preB46));exact rfl;exact rfl;exact rfl;refine dM ?_)|(apply c4 0;exact callK1 (θ := []) (hD := (within_ok _ _ _));exact rfl;exact rfl;exact rfl;refine dM ?_)|refine o_no rfl rfl rfl rfl ?_|(apply py3;exact rfl;exact rfl;(first|exact pu1|exact a_sub rfl rfl (by omega) (by omega));exact rfl;exact rfl)|(apply cy4 0;exact rfl;exact rfl;exact callK1 (θ := []) (hD := (within_ok _ _ _));exact rfl;exact rfl;exact rfl;exact rfl;refine dM ?_)|(apply cy4 0;exact rfl;exact rfl;exact callK1 (θ := []) (hD := (wordsOk_ok _ _ preB46 preB46 preB46 preB46));exact rfl;exact rfl;exact rfl;exact rfl;refine dM ?_)|(apply cy4 0;exact rfl;exact rfl;exact callK1 (θ := []) (hD := (rising_ok _ preB46));exact rfl;exact rfl;exact rfl;exact rfl;refine dM ?_)|(apply cy4 0;exact rfl;exact rfl;exact callK1 (θ := []) (hD := (allWithin_ok _ _ _ preB46));exact rfl;exact rfl;exact rfl;exact rfl;refine dM ?_)|((refine o_gs rfl rfl (fun hc => ?_) (fun hc => ?_)) <;> (try simp only [dcB] at hc) <;> (try first|contradiction|(exfalso;omega)))|fail
  all_goals
    repeat refine cr ?_
    refine ends_id ?_
    refine endK [] (h2 := ?_) (h3 := ?_) (nd := ?_)
    all_goals (repeat' first|exact ce0|refine ce ?_|refine ce2 ?_ ?_|exact SVLe.refl|refine ceb ?_)
    all_goals first | exact (show nodupB _ = true from rfl) | exact Or.inr rfl | ((unfold vTag; first | (rw [decide_eq_false hc]; simp; done) | (simp_all; done)))
theorem tagCode_ok (t : Tg) (l : List Int) (hl : (l.length : Int) ≤ 16777216) (hx : (t.ha.length : Int) ≤ 16777216) (hy : (t.wo.length : Int) ≤ 16777216) (hys : ∀ x ∈ t.wo,(x.length : Int) ≤ 16777216) : Does Try.prog 16 [.agg (tgC t),.one (shI l)] [] (.one (int (bif vTag t && tgWord t.wo.length l then 0 else 1))) [] := by
  refine does_of (k := 0) Try.func16 rfl Try.ntmps16 rfl rfl fun w F0 S0 ρ0 => ?_
  dsimp only [argT,argH]
  repeat' first|(apply n3;exact a_new (gb := .bx _) rfl;exact rfl;refine dA ?_)|(apply p3;(exact pu1);exact rfl)|refine cd ?_|(apply c4 0;exact callK1 (θ := []) (hD := (ValidTag_ok _ preB46 preB46 preB46));exact rfl;exact rfl;exact rfl;refine dM ?_)|refine o_no rfl rfl rfl rfl ?_|(apply py3;exact rfl;exact rfl;(exact pu1);exact rfl;exact rfl)|(apply cy4 0;exact rfl;exact rfl;exact callK1 (θ := []) (hD := (sizeW_ok _ preB46));exact rfl;exact rfl;exact rfl;exact rfl;refine dM ?_)|(apply cy4 0;exact rfl;exact rfl;exact callK1 (θ := []) (hD := (isTagWord_ok _ _ preB46 preB46 preB46));exact rfl;exact rfl;exact rfl;exact rfl;refine dM ?_)|((first|refine o_gs rfl rfl (fun hc => ?_) (fun hc => ?_)|refine g_cond rfl (fun hc => ?_) (fun hc => ?_)) <;> (try simp only [dcB] at hc) <;> (try first|contradiction|(exfalso;omega)))|fail
  all_goals
    repeat refine cr ?_
    refine ends_id ?_
    refine endK [] (h2 := ?_) (h3 := ?_) (nd := ?_)
    all_goals (repeat' first|exact ce0|refine ce ?_|refine ce2 ?_ ?_|exact SVLe.refl|refine ceb ?_)
    all_goals first | exact (show nodupB _ = true from rfl) | exact Or.inr rfl | (simp_all)
abbrev tgR (t : Tg) (i : Nat) : List C := [int t.de,shW t.wo,shI t.ha,.gv i]
theorem tagRunOf_ok (t : Tg) (q : List Int) (hq : (q.length : Int) ≤ 16777216) : Does Try.prog 18 [.agg (tgC t),.one (shI q)] [] (.one (.gv 0)) [.bx (tgR t 1),.row 1 (rows eI q)] := by
  refine does_of (k := 0) Try.func18 rfl Try.ntmps18 rfl rfl fun w F0 S0 ρ0 => ?_
  dsimp only [argT,argH]
  repeat' first|(apply n3;exact a_new (gb := .bx _) rfl;exact rfl;refine dA ?_)|(apply p3;exact pu1;exact rfl)|refine cd ?_|(apply g_drN (id := 1) okM [[],[],[1],[0,1,2],[0,1,2,3],[0,1,2,3,4]] [([],[]),([],[]),([0],[]),([],[]),([1],[]),([],[])] 2;(focus (refine dp 0 0 [6,7] [(true,0)] puL ?_;refine dp 1 0 [5] [] pu1 ?_;refine duN 2 1 [5] [] (callD1 (n := _) 0 (θ := []) (hD := (clone_ok _ preB46))) (by exact rfl) (by exact rfl) ?_;refine dp 3 7 [] [] (a_pure (sv := .agg _) rfl) ?_;refine duE 4 15 [] [] (atN 1 (fun _ => a_new (gb := .bx _) rfl)) (by exact rfl) (by exact rfl) ?_;refine dp 5 31 [] [] pu1 ?_;(refine d_nil ?_;refine dN ?_)));any_goals kernel_rfl)|fail
  repeat refine cr ?_
  refine ends_id ?_
  refine endK [?_,?_] (h2 := ?_) (h3 := ?_) (nd := ?_)
  rotate_left 2
  all_goals (repeat' first|exact ce0|refine ce ?_|refine ce2 ?_ ?_|(refine Or.inr (bx_eq rfl rfl ?_);(try dsimp only [C.ren,C.ren.all]);(try exact rfl))|exact SVLe.refl|refine ceb ?_)
  all_goals first | exact (show nodupB _ = true from rfl) | exact Or.inr rfl | (rfl)
theorem tagWord_ok (t : Tg) (q : List Int) : Does Try.prog 93 [.one (.gv 0)] [.bx (tgR t 1),.row 1 (rows eI q)] (.one (.gv 1)) [.bx (tgR t 1),.row 1 (rows eI q)] := by
  refine does_of (k := 2) Try.func93 rfl Try.ntmps93 rfl rfl fun w F0 S0 ρ0 => ?_
  dsimp only [argT,argH]
  repeat' first|(apply p3;(exact pu1);exact rfl)|refine cd ?_|fail
  repeat refine cr ?_
  refine ends_id ?_
  refine endK [] (h2 := ?_) (h3 := ?_) (nd := ?_)
  all_goals (repeat' first|exact ce0|refine ce ?_|refine ce2 ?_ ?_|(refine Or.inr (bx_eq rfl rfl ?_);(try dsimp only [C.ren,C.ren.all]);(try exact rfl))|exact SVLe.refl|refine ceb ?_)
  all_goals first | exact (show nodupB _ = true from rfl) | exact Or.inr rfl | (rfl)
theorem isNaN_ok (a : Int) : Does Try.prog 98 [.one (int a)] [] (.one (boo false)) [] := by
  refine does_of (k := 0) Try.func98 rfl Try.ntmps98 rfl rfl fun w F0 S0 ρ0 => ?_
  dsimp only [argT,argH]
  repeat' first|(apply p3;(first|exact pu1|exact a_ne rfl rfl);exact rfl)|refine cd ?_|fail
  repeat refine cr ?_
  refine ends_id ?_
  refine endK [] (h2 := ?_) (h3 := ?_) (nd := ?_)
  all_goals (repeat' first|exact ce0|refine ce ?_|refine ce2 ?_ ?_|exact SVLe.refl|refine ceb ?_)
  all_goals first | exact (show nodupB _ = true from rfl) | exact Or.inr rfl | (simp)
theorem sNaN_ok (a : Int) : Does Try.prog 97 [.one (int a)] [] (.one (boo false)) [] := by
  refine does_of (k := 0) Try.func97 rfl Try.ntmps97 rfl rfl fun w F0 S0 ρ0 => ?_
  dsimp only [argT,argH]
  repeat' first|(apply p3;(first|exact pu1|exact a_ne rfl rfl);exact rfl)|refine cd ?_|fail
  repeat refine cr ?_
  refine ends_id ?_
  refine endK [] (h2 := ?_) (h3 := ?_) (nd := ?_)
  all_goals (repeat' first|exact ce0|refine ce ?_|refine ce2 ?_ ?_|exact SVLe.refl|refine ceb ?_)
  all_goals first | exact (show nodupB _ = true from rfl) | exact Or.inr rfl | (simp)
theorem cLess_ok (a b : Int) : Does Try.prog 96 [.one (int a),.one (int b)] [] (.one (boo (decide (a < b)))) [] := by
  refine does_of (k := 0) Try.func96 rfl Try.ntmps96 rfl rfl fun w F0 S0 ρ0 => ?_
  dsimp only [argT,argH]
  repeat' first|(apply p3;(exact pu1);exact rfl)|refine cd ?_|(apply c4 0;exact callK1 (θ := []) (hD := (isNaN_ok _));exact rfl;exact rfl;exact rfl;refine dM ?_)|refine o_no rfl rfl rfl rfl ?_|(apply py3;exact rfl;exact rfl;(first|exact pu1|exact puC);exact rfl;exact rfl)|fail
  repeat refine cr ?_
  refine ends_id ?_
  refine endK [] (h2 := ?_) (h3 := ?_) (nd := ?_)
  all_goals (repeat' first|exact ce0|refine ce ?_|refine ce2 ?_ ?_|exact SVLe.refl|refine ceb ?_)
  all_goals first | exact (show nodupB _ = true from rfl) | exact Or.inr rfl | (rfl)
@[irreducible] def lob (l : List Int) (x : Int) : Int := ((l.takeWhile fun y => decide (y < x)).length : Nat)
theorem lob_at {l : List Int} {x i : Int} (h0 : 0 ≤ i) (h1 : i ≤ l.length) (ha : ∀ k : Nat,(k : Int) < i → (h : k < l.length) → l[k] < x) (hb : ∀ k : Nat,i ≤ (k : Int) → (h : k < l.length) → x ≤ l[k]) : lob l x = i := by
  obtain ⟨n,rfl⟩ : ∃ n : Nat,i = n := ⟨i.toNat,by omega⟩
  unfold lob
  congr 1
  induction l generalizing n with
  | nil => simp at h1; simp; omega
  | cons y l ih =>
    cases n with
    | zero =>
      have := hb 0 (by omega) (by simp)
      simp at this
      simp [List.takeWhile_cons]
      omega
    | succ n =>
      have := ha 0 (by omega) (by simp)
      simp at this
      simp only [List.takeWhile_cons,decide_eq_true this,if_true,List.length_cons]
      simp at h1
      rw [ih n (by omega) (by omega) (fun k hk h => by have := ha (k + 1) (by omega) (by simpa using h); simpa using this) (fun k hk h => by have := hb (k + 1) (by omega) (by simpa using h); simpa using this)]
theorem rises_lt {l : List Int} (hr : risesL l = true) {i j : Nat} (hij : i < j) (hj : j < l.length) : l[i] < l[j] := by
  have key : ∀ d i,(h : i + d + 1 < l.length) → l[i]'(by omega) < l[i + d + 1] := by
    intro d
    induction d with
    | zero =>
      intro i h
      unfold risesL at hr
      rw [List.all_eq_true] at hr
      have := hr i (by rw [List.mem_range]; omega)
      rw [decide_eq_true_eq,← get_getD l 0 _ (by omega),← get_getD l 0 _ (by omega)] at this
      exact this
    | succ d ih =>
      intro i h
      have h1 := ih i (by omega)
      unfold risesL at hr
      rw [List.all_eq_true] at hr
      have := hr (i + d + 1) (by rw [List.mem_range]; omega)
      rw [decide_eq_true_eq,← get_getD l 0 _ (by omega),← get_getD l 0 _ (by omega)] at this
      have e : i + (d + 1) + 1 = i + d + 1 + 1 := by omega
      simp only [e]
      omega
  have := key (j - i - 1) i (by omega)
  have e : i + (j - i - 1) + 1 = j := by omega
  simp only [e] at this
  exact this
theorem BinarySearch_ok (l : List Int) (x : Int) (hx : (l.length : Int) ≤ 1048576) (hr : risesL l = true) : Does Try.prog 95 [.one (shI l),.one (int x)] [] (.tup [(false,[int (lob l x)]),(false,[boo (decide (x ∈ l))])]) [] := by
  refine does_of (k := 0) Try.func95 rfl Try.ntmps95 rfl rfl fun w F0 S0 ρ0 => ?_
  dsimp only [argT,argH]
  repeat' first|(apply p3;(first|exact pu1|exact puN);exact rfl)|refine cd ?_|fail
  refine g_loop_id ?_
  refine loopK [0,1,4,5,6] [] (fun z : Int × Int => 0 ≤ z.1 ∧ z.1 ≤ z.2 ∧ z.2 ≤ l.length ∧ (∀ k : Nat,(k : Int) < z.1 → (h : k < l.length) → l[k] < x) ∧ (∀ k : Nat,z.2 ≤ (k : Int) → (h : k < l.length) → x ≤ l[k])) (fun z => [(7,.one (int z.1)),(8,.one (int z.2))]) (fun _ => []) (fun z => (z.2 - z.1).toNat) ((0 : Int),(l.length : Int)) [] (hI := ?_) (hr := ?_)
  · dsimp only
    exact ⟨by omega,by omega,by omega,fun k h => by omega,fun k h h2 => by omega⟩
  · rintro ⟨i,j⟩ ⟨h0,h1,h2,h3,h4⟩
    dsimp only [List.cons_append,List.nil_append] at *
    try dsimp only [tgR]
    skip
    repeat' first|(apply p3;(first|exact pu1|exact puC|exact a_add rfl rfl (by omega) (by omega)|exact u_conv rfl Try.underlying3 Try.underlying93 bnd bnd|exact u_shr1 rfl rfl (by omega)|exact u_vnoc rfl Try.underlying93 Try.underlying3 bnd bnd|exact puI);exact rfl)|refine cd ?_|(apply c4 0;exact callK1 (θ := []) (hD := (cLess_ok _ _));exact rfl;exact rfl;exact rfl;refine dM ?_)|refine o_no rfl rfl rfl rfl ?_|(apply py3;exact rfl;exact rfl;(first|exact pu1|exact puC|exact puI);exact rfl;exact rfl)|(apply cy4 0;exact rfl;exact rfl;exact callK1 (θ := []) (hD := (sNaN_ok _));exact rfl;exact rfl;exact rfl;exact rfl;refine dM ?_)|((first|refine o_gs rfl rfl (fun hc => ?_) (fun hc => ?_)|refine g_cond rfl (fun hc => ?_) (fun hc => ?_)) <;> (try simp only [dcB] at hc) <;> (try first|contradiction|(exfalso;omega)))|fail
    · have m1 : i ≤ (i + j) / 2 := by omega
      have m2 : (i + j) / 2 < j := by omega
      refine q_again ((i + j) / 2 + 1,j) [] (by exact stk) ?_ ?_
      · dsimp only
        refine ⟨by omega,by omega,by omega,fun k hk h => ?_,h4⟩
        have e : l[((i + j) / 2).toNat]'(by omega) < x := hc
        by_cases ek : k = ((i + j) / 2).toNat
        · subst ek; exact e
        · have := rises_lt hr (show k < ((i + j) / 2).toNat by omega) (by omega)
          omega
      · dsimp only; omega
    · have m1 : i ≤ (i + j) / 2 := by omega
      have m2 : (i + j) / 2 < j := by omega
      refine q_again (i,(i + j) / 2) [] (by exact stk) ?_ ?_
      · dsimp only
        refine ⟨by omega,by omega,by omega,h3,fun k hk h => ?_⟩
        have e : ¬ l[((i + j) / 2).toNat]'(by omega) < x := hc
        by_cases ek : k = ((i + j) / 2).toNat
        · subst ek; omega
        · have := rises_lt hr (show ((i + j) / 2).toNat < k by omega) h
          omega
      · dsimp only; omega
    · have e1 := lob_at h0 (by omega) h3 (fun k hk h => h4 k (by omega) h)
      have e2 : x ∈ l := by rw [← hc]; exact List.getElem_mem _
      repeat refine cr ?_
      refine ends_id ?_
      refine endK [] (h2 := ?_) (h3 := ?_) (nd := ?_)
      all_goals (repeat' first|exact ce0|refine ce ?_|refine ce2 ?_ ?_|exact SVLe.refl|refine ceb ?_)
      all_goals first | exact (show nodupB _ = true from rfl) | exact Or.inr rfl | ((first | (rw [e1]; done) | (rw [decide_eq_true e2]; done)))
    · have e1 := lob_at h0 (by omega) h3 (fun k hk h => h4 k (by omega) h)
      have e2 : ¬ x ∈ l := by
        intro hm
        obtain ⟨k,hk,rfl⟩ := List.getElem_of_mem hm
        by_cases h5 : (k : Int) < i
        · have := h3 k h5 hk; omega
        · by_cases ek : k = i.toNat
          · subst ek; exact hc rfl
          · have := rises_lt hr (show i.toNat < k by omega) hk
            have := h4 i.toNat (by omega) (by omega)
            omega
      repeat refine cr ?_
      refine ends_id ?_
      refine endK [] (h2 := ?_) (h3 := ?_) (nd := ?_)
      all_goals (repeat' first|exact ce0|refine ce ?_|refine ce2 ?_ ?_|exact SVLe.refl|refine ceb ?_)
      all_goals first | exact (show nodupB _ = true from rfl) | exact Or.inr rfl | ((first | (rw [e1]; done) | (rw [decide_eq_false e2]; done)))
    · have e1 := lob_at h0 (by omega) h3 (fun k hk h => h4 k (by omega) h)
      have e2 : ¬ x ∈ l := by
        intro hm
        obtain ⟨k,hk,rfl⟩ := List.getElem_of_mem hm
        have := h3 k (by omega) hk
        omega
      repeat refine cr ?_
      refine ends_id ?_
      refine endK [] (h2 := ?_) (h3 := ?_) (nd := ?_)
      all_goals (repeat' first|exact ce0|refine ce ?_|refine ce2 ?_ ?_|exact SVLe.refl|refine ceb ?_)
      all_goals first | exact (show nodupB _ = true from rfl) | exact Or.inr rfl | ((first | (rw [e1]; done) | (rw [decide_eq_false e2]; done)))
theorem vTag_r {t : Tg} (h : vTag t = true) : risesL t.ha = true := by
  unfold vTag at h
  simp only [Bool.and_eq_true] at h
  exact h.1.2.1
theorem preB46_2 {p : Prop} (h : p := by first | with_reducible assumption | omega | (simp only [List.length_append,List.length_cons,List.length_nil,List.length_set,List.length_replicate,List.length_take,List.length_drop,List.length_tail,List.length_dropLast,List.length_reverse] at *; omega) | exact mem_len (by assumption) (by omega) | (with_reducible refine Int.le_trans (Int.ofNat_le.2 (trimR_len _)) ?_; simp only [List.length_cons,List.length_tail]; omega) | (exact (ruAt_ok (by assumption) (by assumption) (by assumption)).2.1) | (exact (ruAt_ok (by assumption) (by assumption) (by assumption)).2.1) | (have := vMach_bd (by assumption); omega) | (simp only [mC_ch,mC_tu]; omega) | (have := vTag_bd (by assumption); omega) | (have := (‹Gd _ _›).le; omega) | (exact tgHalts_no (by assumption)) | (exact tgHead (by assumption) (by assumption) (by assumption)) | (exact Int.le_trans (tgStep_gd (by assumption) (by assumption) (by assumption) (by assumption)).le (by decide)) | (with_reducible refine Int.le_trans (Int.ofNat_le.2 (pushL_len _ _)) ?_; simp only [List.length_dropLast]; omega) | exact (ask_ok (by assumption)).1 | exact (ask_ok (by assumption)).2.1 | exact (ask_ok (by assumption)).2.2.1 | exact (ask_ok (by assumption)).2.2.2 | (exact vTag_r (by assumption)) | trivial) : p := h
theorem tagHalts_ok (t : Tg) (q : List Int) (hv : vTag t = true) (hq : (q.length : Int) ≤ 1048576) (hx : (t.ha.length : Int) ≤ 1048576) : Does Try.prog 91 [.one (.gv 0)] [.bx (tgR t 1),.row 1 (rows eI q)] (.one (boo (tgHalts t q))) [.bx (tgR t 1),.row 1 (rows eI q)] := by
  have hb := vTag_bd hv
  refine does_of (k := 2) Try.func91 rfl Try.ntmps91 rfl rfl fun w F0 S0 ρ0 => ?_
  dsimp only [argT,argH]
  repeat' first|(apply p3;exact pu1;exact rfl)|refine cd ?_|(apply g_drN (id := 1) okM [[],[0],[0,1],[0,1,2],[0,1,2,3],[],[5],[5,6],[5,6,7],[5,6,7,8],[0,1,2,3,4,5,6,7,8,9]] [([],[]),([],[]),([],[]),([],[]),([],[]),([],[]),([],[]),([],[]),([],[]),([],[]),([],[])] 0;(focus (refine dp 0 0 [10,11,12,13,14] [] pu1 ?_;refine dp 1 1 [10,11,12,13,14] [] (a_pure (sv := .one _) rfl) ?_;refine dp 2 3 [10,11,12,13,14] [] (a_pure (sv := .one _) rfl) ?_;refine dp 3 7 [10,11,12,13,14] [] puL ?_;refine dp 4 15 [10,11,12,13,14] [] (callD1 (n := _) 0 (θ := []) (hD := (sizeI_ok _ preB46_2))) ?_;refine dp 5 0 [5,6,7,8,9] [] pu1 ?_;refine dp 6 1 [5,6,7,8,9] [] (a_pure (sv := .one _) rfl) ?_;refine dp 7 3 [5,6,7,8,9] [] (a_pure (sv := .one _) rfl) ?_;refine dp 8 7 [5,6,7,8,9] [] (a_pure (sv := .one _) rfl) ?_;refine dp 9 15 [5,6,7,8,9] [] puL ?_;refine dp 10 1023 [] [] puC ?_;(refine d_nil ?_;refine dN ?_)));any_goals kernel_rfl)|(apply g_drN (id := 3) okM [[],[0],[0,1],[0,1,2],[0,1,2,3],[],[5],[5,6],[5,6,7],[5,6,7,8],[5,6,7,8,9],[0,1,2,3,4,5,6,7,8,9,10],[0,1,2,3,4,5,6,7,8,9,10,11],[0,1,2,3,4,5,6,7,8,9,10,11,12],[0,1,2,3,4,5,6,7,8,9,10,11,12],[0,1,2,3,4,5,6,7,8,9,10,11,12,13],[0,1,2,3,4,5,6,7,8,9,10,11,12,13,14,15]] [([],[]),([],[]),([],[]),([],[]),([],[]),([],[]),([],[]),([],[]),([],[]),([],[]),([],[]),([],[]),([],[]),([],[]),([],[]),([],[]),([],[])] 0;(focus (refine dp 0 0 [22,23,24,25,26,27] [] pu1 ?_;refine dp 1 1 [22,23,24,25,26,27] [] (a_pure (sv := .one _) rfl) ?_;refine dp 2 3 [22,23,24,25,26,27] [] (a_pure (sv := .one _) rfl) ?_;refine dp 3 7 [22,23,24,25,26,27] [] (a_pure (sv := .one _) rfl) ?_;refine dp 4 15 [22,23,24,25,26,27] [] puL ?_;refine dp 5 0 [17,18,19,20,21] [] pu1 ?_;refine dp 6 1 [17,18,19,20,21] [] (a_pure (sv := .one _) rfl) ?_;refine dp 7 3 [17,18,19,20,21] [] (a_pure (sv := .one _) rfl) ?_;refine dp 8 7 [17,18,19,20,21] [] puL ?_;refine dp 9 15 [17,18,19,20,21] [] puI ?_;refine dp 10 31 [17,18,19,20,21] [] puL ?_;refine dp 11 2047 [] [] (callD1 (n := _) 0 (θ := []) (hD := (BinarySearch_ok _ _ preB46_2 preB46_2))) ?_;refine dp 12 4095 [] [] pu1 ?_;refine dp 13 8191 [30] [] pu2 ?_;refine dp 14 16382 [29,3] [] pu2 ?_;refine dp 15 32766 [30] [] pu1 ?_;refine dp 16 65535 [] [] pu1 ?_;(refine d_nil ?_;refine dN ?_)));any_goals kernel_rfl)|((refine g_cond rfl (fun hc => ?_) (fun hc => ?_)) <;> (try simp only [dcB] at hc) <;> (try first|contradiction|(exfalso;omega)))|fail
  · repeat refine cr ?_
    refine ends_id ?_
    refine endK [] (h2 := ?_) (h3 := ?_) (nd := ?_)
    all_goals (repeat' first|exact ce0|refine ce ?_|refine ce2 ?_ ?_|(refine Or.inr (bx_eq rfl rfl ?_);(try dsimp only [C.ren,C.ren.all]);(try exact rfl))|exact SVLe.refl|refine ceb ?_)
    all_goals first | exact (show nodupB _ = true from rfl) | exact Or.inr rfl | ((unfold tgHalts; simp_all))
  · repeat refine cr ?_
    refine ends_id ?_
    refine endK [] (h2 := ?_) (h3 := ?_) (nd := ?_)
    all_goals (repeat' first|exact ce0|refine ce ?_|refine ce2 ?_ ?_|(refine Or.inr (bx_eq rfl rfl ?_);(try dsimp only [C.ren,C.ren.all]);(try exact rfl))|exact SVLe.refl|refine ceb ?_)
    all_goals first | exact (show nodupB _ = true from rfl) | exact Or.inr rfl | ((unfold tgHalts; rw [← get0_headD (by show 0 < q.length; omega)]; simp_all))
theorem tagStep_ok (t : Tg) (q : List Int) (hv : vTag t = true) (h0 : t.de ≤ (q.length : Int)) (hi : 0 ≤ q.headD 0 ∧ q.headD 0 < t.wo.length) (hq : (q.length : Int) ≤ 1048576) (hx : (t.ha.length : Int) ≤ 1048576) : Does Try.prog 92 [.one (.gv 0)] [.bx (tgR t 1),.row 1 (rows eI q)] (.one (boo (!tgOver t q))) [.bx (tgR t 2),.dead,.row 1 (rows eI (tgStep t q))] := by
  have hb := vTag_bd hv
  have hq : Int.toNat 0 < q.length := by show 0 < q.length; omega
  have e := get0_headD hq
  rw [← e] at hi
  have h1 := (vTag_w hv (List.getElem_mem (show (q[Int.toNat 0]'hq).toNat < t.wo.length by omega))).1
  have h2 : ((q ++ t.wo[(q[Int.toNat 0]'hq).toNat]).length : Int) = q.length + (t.wo[(q[Int.toNat 0]'hq).toNat]).length := by simp
  have h3 : tgOut t q = q ++ t.wo[(q[Int.toNat 0]'hq).toNat] := by unfold tgOut; rw [← e,List.getD_eq_getElem?_getD,List.getElem?_eq_getElem (by omega)]; rfl
  refine does_of (k := 2) Try.func92 rfl Try.ntmps92 rfl rfl fun w F0 S0 ρ0 => ?_
  dsimp only [argT,argH]
  repeat' first|(apply p3;(first|exact pu1|exact puN|exact puC);exact rfl)|refine cd ?_|(apply g_drN (id := 1) okM [[],[],[1],[1,2],[1,2,3],[],[5],[5,6],[5,6,7],[5,6,7,8],[],[10],[10,11],[10,11,12],[10,11,12,13],[10,11,12,13,14],[5,6,7,8,9,10,11,12,13,14,15],[5,6,7,8,9,10,11,12,13,14,15,16],[1,2,3,4,5,6,7,8,9,10,11,12,13,14,15,16,17],[0,1,2,3,4,5,6,7,8,9,10,11,12,13,14,15,16,17,18],[0,1,2,3,4,5,6,7,8,9,10,11,12,13,14,15,16,17,18,19],[0,1,2,3,4,5,6,7,8,9,10,11,12,13,14,15,16,17,18,19,20]] [([],[]),([],[]),([],[]),([],[]),([],[]),([],[]),([],[]),([],[]),([],[]),([],[]),([],[]),([],[]),([],[]),([],[]),([],[]),([],[]),([],[]),([],[]),([0],[1]),([],[]),([],[]),([],[0])] 1;(focus (refine dp 0 0 [5,6,7,8,9,10,11,12,13,14,15,16,17,18,19,20,21,22] [(true,0),(false,1)] pu1 ?_;refine dp 1 0 [4,9,10,11,12,13,14,15,16,17,18,19,20,21] [] pu1 ?_;refine dp 2 1 [4,9,10,11,12,13,14,15,16,17,18,19,20,21] [] (a_pure (sv := .one _) rfl) ?_;refine dp 3 3 [4,9,10,11,12,13,14,15,16,17,18,19,20,21] [] (a_pure (sv := .one _) rfl) ?_;refine dp 4 7 [4,9,10,11,12,13,14,15,16,17,18,19,20,21] [] puL ?_;refine dp 5 0 [4,5,6,7,8,14,15,16,17,18,19] [] pu1 ?_;refine dp 6 1 [4,5,6,7,8,14,15,16,17,18,19] [] (a_pure (sv := .one _) rfl) ?_;refine dp 7 3 [4,5,6,7,8,14,15,16,17,18,19] [] (a_pure (sv := .one _) rfl) ?_;refine dp 8 7 [4,5,6,7,8,14,15,16,17,18,19] [] (a_pure (sv := .one _) rfl) ?_;refine dp 9 15 [4,5,6,7,8,14,15,16,17,18,19] [] puL ?_;refine dp 10 0 [4,5,6,7,8,9,10,11,12,13] [] pu1 ?_;refine dp 11 1 [4,5,6,7,8,9,10,11,12,13] [] (a_pure (sv := .one _) rfl) ?_;refine dp 12 3 [4,5,6,7,8,9,10,11,12,13] [] (a_pure (sv := .one _) rfl) ?_;refine dp 13 7 [4,5,6,7,8,9,10,11,12,13] [] puL ?_;refine dp 14 15 [4,5,6,7,8,9,10,11,12,13] [] puI ?_;refine dp 15 31 [4,5,6,7,8,9,10,11,12,13] [] puL ?_;refine dp 16 2047 [4,5,6,7,8] [] puI ?_;refine dp 17 4095 [4,5,6,7,8] [] puL ?_;refine duE 18 131071 [4] [] (atS 0 (fun _ hj => a_appE (fP rfl) rfl rfl rfl rfl nowR (by omega) (by decide) hj (by exact rfl)) (by decide)) (by exact rfl) (by exact rfl) ?_;refine dp 19 524287 [] [] (a_pure (sv := .one _) rfl) ?_;refine dp 20 1048575 [] [] (a_pure (sv := .one _) rfl) ?_;refine duE 21 2097151 [] [] (by exact a_st_bx rfl rfl rfl rfl (fN rfl rfl) (Nat.le_of_ble_eq_true rfl) rfl) (by exact rfl) (by exact rfl) ?_;(refine d_nil ?_;refine dN ?_)));any_goals kernel_rfl)|(apply g_drN (id := 3) okM [[],[],[1],[1,2],[1,2,3],[],[5],[5,6],[5,6,7],[5,6,7,8],[1,2,3,4,5,6,7,8,9],[0,1,2,3,4,5,6,7,8,9,10],[0,1,2,3,4,5,6,7,8,9,10,11],[0,1,2,3,4,5,6,7,8,9,10,11,12]] [([],[]),([],[]),([],[]),([],[]),([],[]),([],[]),([],[]),([],[]),([],[]),([],[]),([0],[2]),([],[]),([],[]),([],[0])] 1;(focus (refine dp 0 0 [32,33,34,35,36,37,38,39,40,41] [(true,0),(false,2)] pu1 ?_;refine dp 1 0 [31,36,37,38,39,40] [] pu1 ?_;refine dp 2 1 [31,36,37,38,39,40] [] (a_pure (sv := .one _) rfl) ?_;refine dp 3 3 [31,36,37,38,39,40] [] (a_pure (sv := .one _) rfl) ?_;refine dp 4 7 [31,36,37,38,39,40] [] puL ?_;refine dp 5 0 [31,32,33,34,35] [] pu1 ?_;refine dp 6 1 [31,32,33,34,35] [] (a_pure (sv := .one _) rfl) ?_;refine dp 7 3 [31,32,33,34,35] [] (a_pure (sv := .one _) rfl) ?_;refine dp 8 7 [31,32,33,34,35] [] (a_pure (sv := .one _) rfl) ?_;refine dp 9 15 [31,32,33,34,35] [] puL ?_;refine duE 10 511 [31] [] (atS 0 (fun _ hj => a_slTO rfl rfl rfl (fS rfl) (by omega) (by omega) (by exact rfl) hj) (by decide)) (by exact rfl) (by exact rfl) ?_;refine dp 11 2047 [] [] (a_pure (sv := .one _) rfl) ?_;refine dp 12 4095 [] [] (a_pure (sv := .one _) rfl) ?_;refine duE 13 8191 [] [] (by exact a_st_bx rfl rfl rfl rfl (fN rfl rfl) (Nat.le_of_ble_eq_true rfl) rfl) (by exact rfl) (by exact rfl) ?_;(refine d_nil ?_;refine dN ?_)));any_goals kernel_rfl)|fail
  repeat refine cr ?_
  refine ends_id ?_
  refine endK [?_] (h2 := ?_) (h3 := ?_) (nd := ?_)
  rotate_left 1
  all_goals (repeat' first|exact ce0|refine ce ?_|refine ce2 ?_ ?_|(refine Or.inr (bx_eq rfl rfl ?_);(try dsimp only [C.ren,C.ren.all]);(try exact rfl))|exact SVLe.refl|refine ceb ?_)
  all_goals first | exact (show nodupB _ = true from rfl) | exact Or.inr rfl | ((first | (unfold tgStep; rw [h3]; done) | (rw [tgOver,h3,Bool.not_not]; done)))
end Go.Proofs.Ytjifedbidnmapaa
end
section
set_option linter.unusedVariables false
set_option linter.unusedSimpArgs false
set_option maxRecDepth 100000
set_option maxHeartbeats 4000000
namespace Go.Proofs.Ytjifedbidnmapaa
open Go Foot
def trR (t : Tg) : Nat → List (List Int) → List Int → (Int × Bool × Int) × List (List Int)
  | 0,l,w => (((l.length : Int),tgHalts t w,0),l ++ [w])
  | k + 1,l,w => bif tgHalts t w then (((l.length : Int),true,0),l ++ [w]) else bif tgOver t w then ((0,false,5),l ++ [w]) else trR t k (l ++ [w]) (tgStep t w)
theorem trR_0 {t : Tg} {l : List (List Int)} {w : List Int} : trR t 0 l w = (((l.length : Int),tgHalts t w,0),l ++ [w]) := by rw [trR]
theorem trR_h {t : Tg} {k : Nat} {l : List (List Int)} {w : List Int} (h : tgHalts t w = true) : trR t k l w = (((l.length : Int),true,0),l ++ [w]) := by
  cases k with
  | zero => rw [trR,h]
  | succ k => rw [trR,h]; rfl
theorem trR_o {t : Tg} {k : Nat} {l : List (List Int)} {w : List Int} (h : tgHalts t w = false) (o : tgOver t w = true) : trR t (k + 1) l w = ((0,false,5),l ++ [w]) := by
  rw [trR,h,o]; rfl
theorem trR_s {t : Tg} {k : Nat} {l : List (List Int)} {w : List Int} (h : tgHalts t w = false) (o : tgOver t w = false) : trR t (k + 1) l w = trR t k (l ++ [w]) (tgStep t w) := by
  rw [trR,h,o]; rfl
theorem trR_gd {t : Tg} (hv : vTag t = true) : ∀ (k : Nat) (l : List (List Int)) (w : List Int),(∀ y ∈ l,Gd t y) → Gd t w → (∀ y ∈ (trR t k l w).2,Gd t y) ∧ ((trR t k l w).2).length ≤ l.length + k + 1
  | 0,l,w,hl,hw => by
    rw [trR_0]
    refine ⟨fun y hy => ?_,by simp⟩
    rcases List.mem_append.1 hy with h | h
    · exact hl y h
    · simp at h; subst h; exact hw
  | k + 1,l,w,hl,hw => by
    have h2 : ∀ y ∈ l ++ [w],Gd t y := fun y hy => by
      rcases List.mem_append.1 hy with h | h
      · exact hl y h
      · simp at h; subst h; exact hw
    cases h : tgHalts t w with
    | true => rw [trR_h h]; exact ⟨h2,by simp only [List.length_append,List.length_cons,List.length_nil]; omega⟩
    | false =>
      cases o : tgOver t w with
      | true => rw [trR_o h o]; exact ⟨h2,by simp only [List.length_append,List.length_cons,List.length_nil]; omega⟩
      | false =>
        rw [trR_s h o]
        have := trR_gd hv k _ _ h2 (tgStep_gd hv hw h o)
        simp only [List.length_append,List.length_cons,List.length_nil] at this
        exact ⟨this.1,by omega⟩
end Go.Proofs.Ytjifedbidnmapaa
end
section
set_option linter.unusedVariables false
set_option linter.unusedSimpArgs false
set_option maxRecDepth 100000
set_option maxHeartbeats 4000000
namespace Go.Proofs.Ytjifedbidnmapaa
open Go Foot
def NoOv (t : Tg) : Nat → List Int → Prop
  | 0,_ => True
  | k + 1,w => tgHalts t w = true ∨ (tgHalts t w = false ∧ tgOver t w = false ∧ NoOv t k (tgStep t w))
def rnT (t : Tg) : Nat → List Int → List Int × Nat × Bool
  | 0,w => (w,0,tgHalts t w)
  | k + 1,w => bif tgHalts t w then (w,0,true) else ((rnT t k (tgStep t w)).1,(rnT t k (tgStep t w)).2.1 + 1,(rnT t k (tgStep t w)).2.2)
def wdL (t : Tg) : Nat → List Int → List (List Int)
  | 0,w => [w]
  | k + 1,w => bif tgHalts t w then [w] else w :: wdL t k (tgStep t w)
theorem rnT_h {t : Tg} {k : Nat} {w : List Int} (h : tgHalts t w = true) : rnT t k w = (w,0,true) := by
  cases k with
  | zero => rw [rnT,h]
  | succ k => rw [rnT,h]; rfl
theorem rnT_s {t : Tg} {k : Nat} {w : List Int} (h : tgHalts t w = false) : rnT t (k + 1) w = ((rnT t k (tgStep t w)).1,(rnT t k (tgStep t w)).2.1 + 1,(rnT t k (tgStep t w)).2.2) := by
  rw [rnT,h]; rfl
theorem wdL_h {t : Tg} {k : Nat} {w : List Int} (h : tgHalts t w = true) : wdL t k w = [w] := by
  cases k with
  | zero => rw [wdL]
  | succ k => rw [wdL,h]; rfl
theorem wdL_s {t : Tg} {k : Nat} {w : List Int} (h : tgHalts t w = false) : wdL t (k + 1) w = w :: wdL t k (tgStep t w) := by
  rw [wdL,h]; rfl
theorem trR_run {t : Tg} : ∀ (k : Nat) (l : List (List Int)) (w : List Int),NoOv t k w → trR t k l w = (((l.length : Int) + ((rnT t k w).2.1 : Nat),(rnT t k w).2.2,0),l ++ wdL t k w)
  | 0,l,w,_ => by rw [trR_0,rnT,wdL]; simp
  | k + 1,l,w,h => by
    rcases h with h | ⟨h,o,hn⟩
    · rw [trR_h h,rnT_h h,wdL_h h]; simp
    · rw [trR_s h o,trR_run k _ _ hn,rnT_s h,wdL_s h]
      simp only [List.length_append,List.length_cons,List.length_nil,List.append_assoc,List.cons_append,List.nil_append,Prod.mk.injEq,and_true]
      omega
theorem wdL_last {t : Tg} : ∀ (k : Nat) (w : List Int),(wdL t k w)[(rnT t k w).2.1]? = some (rnT t k w).1
  | 0,w => by rw [wdL,rnT]; rfl
  | k + 1,w => by
    cases h : tgHalts t w with
    | true => rw [wdL_h h,rnT_h h]; rfl
    | false =>
      rw [wdL_s h,rnT_s h]
      simp only [List.getElem?_cons_succ]
      exact wdL_last k _
theorem wdL_gd {t : Tg} (hv : vTag t = true) {k : Nat} {w : List Int} (h : NoOv t k w) (hg : Gd t w) : ∀ y ∈ wdL t k w,Gd t y := by
  have := (trR_gd hv k [] w (fun y hy => by cases hy) hg).1
  rw [trR_run k [] w h] at this
  simpa using this
theorem rnT_gd {t : Tg} (hv : vTag t = true) {k : Nat} {w : List Int} (h : NoOv t k w) (hg : Gd t w) : Gd t (rnT t k w).1 := by
  have := wdL_gd hv h hg
  have h2 := wdL_last (t := t) k w
  exact this _ (List.mem_of_getElem? h2)
theorem noOv_small {t : Tg} (hv : vTag t = true) (h3 : ∀ x ∈ t.wo,x.length ≤ 3) : ∀ (k : Nat) (w : List Int),Gd t w → w.length + 3 * k ≤ 1000 → NoOv t k w
  | 0,_,_,_ => trivial
  | k + 1,w,hg,hl => by
    cases h : tgHalts t w with
    | true => exact .inl h
    | false =>
      obtain ⟨h1,h2⟩ := tgHead hv hg h
      have hlt : (w.headD 0).toNat < t.wo.length := by omega
      have hout : tgOut t w = w ++ t.wo[(w.headD 0).toNat] := by unfold tgOut; rw [List.getD_eq_getElem?_getD,List.getElem?_eq_getElem hlt]; rfl
      have hle := h3 _ (List.getElem_mem hlt)
      have o : tgOver t w = false := by
        unfold tgOver
        rw [hout]
        simp only [List.length_append,Bool.not_eq_false',decide_eq_true_eq]
        omega
      have hst : (tgStep t w).length ≤ w.length + 3 := by
        unfold tgStep
        rw [hout,List.length_drop,List.length_append]
        omega
      exact .inr ⟨h,o,noOv_small hv h3 k _ (tgStep_gd hv hg h o) (by omega)⟩
end Go.Proofs.Ytjifedbidnmapaa
end
section
set_option linter.unusedVariables false
set_option linter.unusedSimpArgs false
set_option maxRecDepth 100000
set_option maxHeartbeats 1000000
namespace Go.Proofs.Ytjifedbidnmapaa
open Go Foot
@[irreducible] def bgn (w f : List Int) : Bool := decide (f.length ≤ w.length ∧ w.take f.length = f)
theorem bgn_iff {w f : List Int} : bgn w f = true ↔ ∃ z,w = f ++ z := by
  unfold bgn
  rw [decide_eq_true_eq]
  constructor
  · rintro ⟨h1,h2⟩
    exact ⟨w.drop f.length,by conv => lhs; rw [← List.take_append_drop f.length w,h2]⟩
  · rintro ⟨z,rfl⟩
    simp
def occF (f w : List Int) : Nat → Nat → Option Nat
  | _,0 => none
  | p,k + 1 => if bgn (w.drop p) f = true then some p else occF f w (p + 1) k
@[irreducible] def occ (f w : List Int) : Option Nat := occF f w 0 (w.length + 1)
theorem occF_some {f w : List Int} : ∀ {k p q : Nat},occF f w p k = some q → p ≤ q ∧ q < p + k ∧ bgn (w.drop q) f = true
  | k + 1,p,q,h => by
    rw [occF] at h
    split at h
    · next hb =>
      have e : p = q := Option.some.inj h
      subst e
      exact ⟨by omega,by omega,hb⟩
    · have := occF_some h
      exact ⟨by omega,by omega,this.2.2⟩
theorem occF_none {f w : List Int} : ∀ {k p : Nat},occF f w p k = none → ∀ q,p ≤ q → q < p + k → bgn (w.drop q) f = false
  | 0,p,_,q,h1,h2 => by omega
  | k + 1,p,h,q,h1,h2 => by
    rw [occF] at h
    split at h
    · cases h
    · next hb =>
      by_cases e : p = q
      · subst e; simpa using hb
      · exact occF_none h q (by omega) (by omega)
theorem occ_some {f w : List Int} {q : Nat} (h : occ f w = some q) : q ≤ w.length ∧ bgn (w.drop q) f = true := by
  unfold occ at h
  have := occF_some h
  exact ⟨by omega,this.2.2⟩
theorem occ_ne {f w : List Int} {q : Nat} (hq : q ≤ w.length) (h : bgn (w.drop q) f = true) : occ f w ≠ none := fun e => by
  unfold occ at e
  have := occF_none e q (by omega) (by omega)
  rw [h] at this
  cases this
abbrev Mk := List Int × List Int
abbrev repM (w : List Int) (p : Nat) (r : Mk) : List Int := w.take p ++ r.2 ++ w.drop (p + r.1.length)
def stepMk : List Mk → Nat → List Int → Option (Nat × List Int)
  | [],_,_ => none
  | r :: R,k,w => match occ r.1 w with
    | some p => some (k,repM w p r)
    | none => stepMk R (k + 1) w
def svM : List Mk → List Int → Option (List Int)
  | [],_ => none
  | r :: R,w => match occ r.1 w with
    | some p => some (repM w p r)
    | none => svM R w
theorem stepMk_sv : ∀ (R : List Mk) (k : Nat) (w : List Int),(stepMk R k w).map (·.2) = svM R w
  | [],_,_ => rfl
  | r :: R,k,w => by
    rw [stepMk,svM]
    cases occ r.1 w with
    | none => exact stepMk_sv R (k + 1) w
    | some p => rfl
theorem svM_app : ∀ (R Q : List Mk) (w : List Int),svM (R ++ Q) w = match svM R w with | some z => some z | none => svM Q w
  | [],Q,w => rfl
  | r :: R,Q,w => by
    rw [List.cons_append,svM,svM]
    cases occ r.1 w with
    | none => exact svM_app R Q w
    | some p => rfl
theorem svM_none : ∀ {R : List Mk} {w : List Int},(∀ r ∈ R,occ r.1 w = none) → svM R w = none
  | [],_,_ => rfl
  | r :: R,w,h => by
    rw [svM,h r (by simp)]
    exact svM_none fun q hq => h q (by simp [hq])
theorem svM_uniq : ∀ {R : List Mk} {w z : List Int},(∀ r ∈ R,∀ p,occ r.1 w = some p → repM w p r = z) → (∃ r ∈ R,occ r.1 w ≠ none) → svM R w = some z
  | [],_,_,_,⟨r,hr,_⟩ => by simp at hr
  | r :: R,w,z,h,⟨q,hq,hn⟩ => by
    rw [svM]
    cases e : occ r.1 w with
    | some p => exact congrArg some (h r (by simp) p e)
    | none =>
      refine svM_uniq (fun a ha => h a (by simp [ha])) ⟨q,?_,hn⟩
      rcases List.mem_cons.mp hq with h1 | h1
      · subst h1; exact absurd e hn
      · exact h1
theorem occ_in {C : Int → Prop} {U V g : List Int} {c a : Int} (hU : ∀ u ∈ U,¬ C u) (hV : ∀ v ∈ V,¬ C v) (ha : C a) {p : Nat} (h : occ (a :: g) (U ++ c :: V) = some p) : p = U.length ∧ a = c ∧ ∃ z,V = g ++ z := by
  obtain ⟨z,hz⟩ := bgn_iff.mp (occ_some h).2
  have e0 : (U ++ c :: V)[p]? = some a := by
    have := congrArg List.head? hz
    rw [List.head?_drop] at this
    simpa using this
  rcases Nat.lt_trichotomy p U.length with h1 | h1 | h1
  · rw [List.getElem?_append_left h1] at e0
    exact absurd ha (hU a (List.mem_of_getElem? e0))
  · subst h1
    rw [List.drop_left] at hz
    rw [List.cons_append] at hz
    exact ⟨rfl,(List.cons.inj hz).1.symm,z,(List.cons.inj hz).2⟩
  · rw [List.getElem?_append_right (by omega)] at e0
    have e1 : p - U.length = (p - U.length - 1) + 1 := by omega
    rw [e1,List.getElem?_cons_succ] at e0
    exact absurd ha (hV a (List.mem_of_getElem? e0))
theorem occ_at {U V g : List Int} {c : Int} (z : List Int) (h : V = g ++ z) : occ (c :: g) (U ++ c :: V) ≠ none := by
  refine occ_ne (q := U.length) (by simp) (bgn_iff.mpr ⟨z,?_⟩)
  rw [List.drop_left,h]
  rfl
theorem occ_out {C : Int → Prop} {W g : List Int} {a : Int} (hW : ∀ u ∈ W,¬ C u) (ha : C a) : occ (a :: g) W = none := by
  cases e : occ (a :: g) W with
  | none => rfl
  | some p =>
    obtain ⟨z,hz⟩ := bgn_iff.mp (occ_some e).2
    have e0 : W[p]? = some a := by
      have := congrArg List.head? hz
      rw [List.head?_drop] at this
      simpa using this
    exact absurd ha (hW a (List.mem_of_getElem? e0))
theorem repM_in (U V g t z : List Int) (c : Int) (h : V = g ++ z) : repM (U ++ c :: V) U.length (c :: g,t) = U ++ t ++ z := by
  show (U ++ c :: V).take U.length ++ t ++ (U ++ c :: V).drop (U.length + (c :: g).length) = _
  rw [List.take_left,List.drop_append,h]
  simp
def wov (n : Nat) : Nat → List (List Int)
  | 0 => [[]]
  | k + 1 => (wov n k).flatMap fun w => (List.range n).map fun (l : Nat) => w ++ [(l : Int)]
theorem mem_wov {n : Nat} : ∀ {k : Nat} {x : List Int},x ∈ wov n k ↔ x.length = k ∧ ∀ y ∈ x,0 ≤ y ∧ y < (n : Int)
  | 0,x => by
    rw [wov,List.mem_singleton]
    constructor
    · intro h; subst h; exact ⟨rfl,fun y hy => by simp at hy⟩
    · intro h; exact List.eq_nil_of_length_eq_zero h.1
  | k + 1,x => by
    rw [wov,List.mem_flatMap]
    constructor
    · rintro ⟨w,hw,hx⟩
      obtain ⟨l,hl,rfl⟩ := List.mem_map.mp hx
      obtain ⟨h1,h2⟩ := mem_wov.mp hw
      refine ⟨by simp [h1],fun y hy => ?_⟩
      rcases List.mem_append.mp hy with h | h
      · exact h2 y h
      · have e : y = (l : Int) := by simpa using h
        have := List.mem_range.mp hl
        omega
    · rintro ⟨h1,h2⟩
      have hne : x ≠ [] := by intro e; subst e; simp at h1
      have e := List.dropLast_concat_getLast hne
      refine ⟨x.dropLast,mem_wov.mpr ⟨by rw [List.length_dropLast]; omega,fun y hy => h2 y ((List.dropLast_sublist x).subset hy)⟩,?_⟩
      have hl := h2 _ (List.getLast_mem hne)
      refine List.mem_map.mpr ⟨(x.getLast hne).toNat,List.mem_range.mpr (by omega),?_⟩
      rw [show (((x.getLast hne).toNat : Nat) : Int) = x.getLast hne by omega]
      exact e
theorem wov_len {n : Nat} : ∀ k,(wov n k).length = n ^ k
  | 0 => rfl
  | k + 1 => by
    rw [wov,List.length_flatMap]
    simp only [List.length_map,List.length_range]
    rw [List.map_const',List.sum_replicate_nat,wov_len k,Nat.pow_succ]
end Go.Proofs.Ytjifedbidnmapaa
end
section
set_option linter.unusedVariables false
set_option linter.unusedSimpArgs false
set_option maxRecDepth 100000
set_option maxHeartbeats 1000000
namespace Go.Proofs.Ytjifedbidnmapaa
open Go Foot
abbrev CrN (n : Nat) (x : Int) : Prop := (n : Int) ≤ x ∧ x < 2 * (n : Int)
abbrev LtN (n : Nat) (l : List Int) : Prop := ∀ y ∈ l,0 ≤ y ∧ y < (n : Int)
@[irreducible] def grp1 (n : Nat) : List Mk := (List.range n).flatMap fun (i : Nat) => (List.range n).map fun (j : Nat) => ([(n : Int) + (i : Int),(j : Int)],[(j : Int),(n : Int) + (i : Int)])
@[irreducible] def grp2 (wo : List (List Int)) : List Mk := (List.range wo.length).map fun (i : Nat) => ([(wo.length : Int) + (i : Int)],wo.getD i [])
@[irreducible] def grp3 (n : Nat) (de : Nat) (ha : List Int) : List Mk := (List.range n).flatMap fun (i : Nat) => if (i : Int) ∈ ha then [] else (wov n (de - 1)).map fun x => ([2 * (n : Int),(i : Int)] ++ x,[2 * (n : Int),(n : Int) + (i : Int)])
@[irreducible] def mkR (t : Tg) : List Mk := grp1 t.wo.length ++ grp2 t.wo ++ grp3 t.wo.length t.de.toNat t.ha
theorem mem_grp1 {n : Nat} {r : Mk} : r ∈ grp1 n ↔ ∃ i j : Nat,i < n ∧ j < n ∧ r = ([(n : Int) + (i : Int),(j : Int)],[(j : Int),(n : Int) + (i : Int)]) := by
  unfold grp1
  simp only [List.mem_flatMap,List.mem_map,List.mem_range]
  constructor
  · rintro ⟨i,hi,j,hj,rfl⟩; exact ⟨i,j,hi,hj,rfl⟩
  · rintro ⟨i,j,hi,hj,rfl⟩; exact ⟨i,hi,j,hj,rfl⟩
theorem mem_grp2 {wo : List (List Int)} {r : Mk} : r ∈ grp2 wo ↔ ∃ i : Nat,i < wo.length ∧ r = ([(wo.length : Int) + (i : Int)],wo.getD i []) := by
  unfold grp2
  simp only [List.mem_map,List.mem_range]
  constructor
  · rintro ⟨i,hi,rfl⟩; exact ⟨i,hi,rfl⟩
  · rintro ⟨i,hi,rfl⟩; exact ⟨i,hi,rfl⟩
theorem mem_grp3 {n de : Nat} {ha : List Int} {r : Mk} : r ∈ grp3 n de ha ↔ ∃ (i : Nat) (x : List Int),i < n ∧ (i : Int) ∉ ha ∧ x.length = de - 1 ∧ LtN n x ∧ r = ([2 * (n : Int),(i : Int)] ++ x,[2 * (n : Int),(n : Int) + (i : Int)]) := by
  unfold grp3
  simp only [List.mem_flatMap,List.mem_range]
  constructor
  · rintro ⟨i,hi,hr⟩
    split at hr
    · simp at hr
    · next h =>
      obtain ⟨x,hx,rfl⟩ := List.mem_map.mp hr
      obtain ⟨h1,h2⟩ := mem_wov.mp hx
      exact ⟨i,x,hi,h,h1,h2,rfl⟩
  · rintro ⟨i,x,hi,h,h1,h2,rfl⟩
    refine ⟨i,hi,?_⟩
    rw [if_neg h]
    exact List.mem_map.mpr ⟨x,mem_wov.mpr ⟨h1,h2⟩,rfl⟩
theorem not_cr {n : Nat} {l : List Int} (h : LtN n l) : ∀ v ∈ l,¬ CrN n v := fun v hv q => by have := h v hv; have := q.1; omega
theorem front_cr {n : Nat} {u : List Int} (h : LtN n u) : ∀ v ∈ 2 * (n : Int) :: u,¬ CrN n v := fun v hv q => by
  rcases List.mem_cons.mp hv with e | e
  · have := q.2; omega
  · exact not_cr h v e q
theorem sv_g1_none {n : Nat} {U : List Int} {c : Int} (hU : ∀ v ∈ U,¬ CrN n v) : svM (grp1 n) (U ++ [c]) = none := by
  refine svM_none fun r hr => ?_
  obtain ⟨i,j,hi,hj,rfl⟩ := mem_grp1.mp hr
  cases e : occ [(n : Int) + (i : Int),(j : Int)] (U ++ [c]) with
  | none => rfl
  | some p =>
    obtain ⟨_,_,z,hz⟩ := occ_in (C := CrN n) (V := []) hU (fun v hv => by simp at hv) ⟨by omega,by omega⟩ e
    simp at hz
theorem sv_none_cr {n : Nat} {R : List Mk} {W : List Int} (hW : ∀ v ∈ W,¬ CrN n v) (hR : ∀ r ∈ R,∃ a g,r.1 = a :: g ∧ CrN n a) : svM R W = none :=
  svM_none fun r hr => by
    obtain ⟨a,g,e,ha⟩ := hR r hr
    rw [e]
    exact occ_out hW ha
theorem g1_cr {n : Nat} : ∀ r ∈ grp1 n,∃ a g,r.1 = a :: g ∧ CrN n a := fun r hr => by
  obtain ⟨i,j,hi,hj,rfl⟩ := mem_grp1.mp hr
  exact ⟨_,_,rfl,by omega,by omega⟩
theorem g2_cr {wo : List (List Int)} : ∀ r ∈ grp2 wo,∃ a g,r.1 = a :: g ∧ CrN wo.length a := fun r hr => by
  obtain ⟨i,hi,rfl⟩ := mem_grp2.mp hr
  exact ⟨_,_,rfl,by omega,by omega⟩
theorem sv_carry {t : Tg} {u v : List Int} {i j : Int} (hu : LtN t.wo.length u) (hv : LtN t.wo.length v) (hi : 0 ≤ i ∧ i < t.wo.length) (hj : 0 ≤ j ∧ j < t.wo.length) : svM (mkR t) (2 * (t.wo.length : Int) :: u ++ ((t.wo.length : Int) + i) :: j :: v) = some (2 * (t.wo.length : Int) :: (u ++ [j]) ++ ((t.wo.length : Int) + i) :: v) := by
  unfold mkR
  rw [List.append_assoc,svM_app]
  have hjv : LtN t.wo.length (j :: v) := fun y hy => by
    rcases List.mem_cons.mp hy with e | e
    · rw [e]; exact hj
    · exact hv y e
  rw [svM_uniq (z := 2 * (t.wo.length : Int) :: (u ++ [j]) ++ ((t.wo.length : Int) + i) :: v)]
  · intro r hr p hp
    obtain ⟨i',j',hi',hj',rfl⟩ := mem_grp1.mp hr
    obtain ⟨h1,h2,z,h3⟩ := occ_in (C := CrN t.wo.length) (front_cr hu) (not_cr hjv) ⟨by omega,by omega⟩ hp
    have h4 : j = (j' : Int) ∧ v = z := by simpa using h3
    rw [h1,h2,← h4.1,repM_in _ _ [j] _ z _ (by rw [← h4.2]; rfl),← h4.2]
    simp
  · refine ⟨([(t.wo.length : Int) + (i.toNat : Int),(j.toNat : Int)],[(j.toNat : Int),(t.wo.length : Int) + (i.toNat : Int)]),mem_grp1.mpr ⟨i.toNat,j.toNat,by omega,by omega,rfl⟩,?_⟩
    show occ [(t.wo.length : Int) + (i.toNat : Int),(j.toNat : Int)] _ ≠ none
    rw [show ((i.toNat : Nat) : Int) = i by omega,show ((j.toNat : Nat) : Int) = j by omega]
    exact occ_at (U := 2 * (t.wo.length : Int) :: u) (V := j :: v) (g := [j]) v rfl
theorem sv_out {t : Tg} {u : List Int} {i : Int} (hu : LtN t.wo.length u) (hi : 0 ≤ i ∧ i < t.wo.length) : svM (mkR t) (2 * (t.wo.length : Int) :: u ++ [(t.wo.length : Int) + i]) = some (2 * (t.wo.length : Int) :: u ++ t.wo.getD i.toNat []) := by
  unfold mkR
  rw [List.append_assoc,svM_app,sv_g1_none (front_cr hu),svM_app]
  rw [svM_uniq (z := 2 * (t.wo.length : Int) :: u ++ t.wo.getD i.toNat [])]
  · intro r hr p hp
    obtain ⟨i',hi',rfl⟩ := mem_grp2.mp hr
    obtain ⟨h1,h2,z,h3⟩ := occ_in (C := CrN t.wo.length) (V := []) (g := []) (front_cr hu) (fun v hv => by simp at hv) ⟨by omega,by omega⟩ hp
    rw [h1,h2,repM_in _ [] [] _ [] _ rfl,List.append_nil]
    congr 2
    omega
  · refine ⟨([(t.wo.length : Int) + (i.toNat : Int)],t.wo.getD i.toNat []),mem_grp2.mpr ⟨i.toNat,by omega,rfl⟩,?_⟩
    show occ [(t.wo.length : Int) + (i.toNat : Int)] _ ≠ none
    rw [show ((i.toNat : Nat) : Int) = i by omega]
    exact occ_at (U := 2 * (t.wo.length : Int) :: u) (V := []) (g := []) [] rfl
theorem sv_12 {t : Tg} {w : List Int} (hw : LtN t.wo.length w) : svM (mkR t) (2 * (t.wo.length : Int) :: w) = svM (grp3 t.wo.length t.de.toNat t.ha) (2 * (t.wo.length : Int) :: w) := by
  unfold mkR
  rw [List.append_assoc,svM_app,sv_none_cr (front_cr hw) g1_cr,svM_app,sv_none_cr (front_cr hw) g2_cr]
theorem sv_in {t : Tg} {x v : List Int} {i : Int} (hx : LtN t.wo.length x) (hv : LtN t.wo.length v) (hl : x.length = t.de.toNat - 1) (hi : 0 ≤ i ∧ i < t.wo.length) (hh : i ∉ t.ha) : svM (mkR t) (2 * (t.wo.length : Int) :: i :: (x ++ v)) = some (2 * (t.wo.length : Int) :: [] ++ ((t.wo.length : Int) + i) :: v) := by
  have hw : LtN t.wo.length (i :: (x ++ v)) := fun y hy => by
    rcases List.mem_cons.mp hy with e | e
    · rw [e]; exact hi
    · rcases List.mem_append.mp e with e | e
      · exact hx y e
      · exact hv y e
  rw [sv_12 hw]
  have hN : ∀ q ∈ i :: (x ++ v),¬ (q = 2 * (t.wo.length : Int)) := fun q hq e => by have := hw q hq; omega
  refine svM_uniq ?_ ?_
  · intro r hr p hp
    obtain ⟨i',x',hi',hn',hl',hx',rfl⟩ := mem_grp3.mp hr
    obtain ⟨h1,h2,z,h3⟩ := occ_in (C := fun q => q = 2 * (t.wo.length : Int)) (U := []) (g := (i' : Int) :: x') (fun v hv => by simp at hv) hN rfl hp
    have h4 : i = (i' : Int) ∧ x ++ v = x' ++ z := by simpa using h3
    have h5 := List.append_inj h4.2 (by rw [hl,hl'])
    have h6 := repM_in [] (i :: (x ++ v)) ((i' : Int) :: x') [2 * (t.wo.length : Int),(t.wo.length : Int) + (i' : Int)] z (2 * (t.wo.length : Int)) h3
    rw [h1]
    refine h6.trans ?_
    rw [← h4.1,← h5.2]
    rfl
  · refine ⟨([2 * (t.wo.length : Int),(i.toNat : Int)] ++ x,[2 * (t.wo.length : Int),(t.wo.length : Int) + (i.toNat : Int)]),mem_grp3.mpr ⟨i.toNat,x,by omega,by rw [show ((i.toNat : Nat) : Int) = i by omega]; exact hh,hl,hx,rfl⟩,?_⟩
    show occ (2 * (t.wo.length : Int) :: (i.toNat : Int) :: x) _ ≠ none
    rw [show ((i.toNat : Nat) : Int) = i by omega]
    exact occ_at (U := []) (V := i :: (x ++ v)) (g := i :: x) v rfl
theorem sv_halt {t : Tg} {w : List Int} (hd : 1 ≤ t.de) (hw : LtN t.wo.length w) (h : (w.length : Int) < t.de ∨ w.headD 0 ∈ t.ha) : svM (mkR t) (2 * (t.wo.length : Int) :: w) = none := by
  rw [sv_12 hw]
  have hN : ∀ q ∈ w,¬ (q = 2 * (t.wo.length : Int)) := fun q hq e => by have := hw q hq; omega
  refine svM_none fun r hr => ?_
  obtain ⟨i',x',hi',hn',hl',hx',rfl⟩ := mem_grp3.mp hr
  cases e : occ ([2 * (t.wo.length : Int),(i' : Int)] ++ x') (2 * (t.wo.length : Int) :: w) with
  | none => rfl
  | some p =>
    exfalso
    obtain ⟨h1,h2,z,h3⟩ := occ_in (C := fun q => q = 2 * (t.wo.length : Int)) (U := []) (g := (i' : Int) :: x') (fun v hv => by simp at hv) hN rfl e
    rcases h with h | h
    · have := congrArg List.length h3
      simp at this
      omega
    · rw [h3] at h
      exact hn' h
end Go.Proofs.Ytjifedbidnmapaa
end
section
set_option linter.unusedVariables false
set_option linter.unusedSimpArgs false
set_option maxRecDepth 100000
set_option maxHeartbeats 1000000
namespace Go.Proofs.Ytjifedbidnmapaa
open Go Foot
@[irreducible] def tgW (n : Nat) (w : List Int) : Option (List Int) := if w.headD 0 = 2 * (n : Int) ∧ inAll 0 ((n : Int) - 1) w.tail = true ∧ w ≠ [] then some w.tail else none
theorem tgW_y {n : Nat} {w : List Int} (h : LtN n w) : tgW n (2 * (n : Int) :: w) = some w := by
  have : inAll 0 ((n : Int) - 1) w = true := by
    unfold inAll
    rw [List.all_eq_true]
    intro y hy
    have := h y hy
    rw [decide_eq_true_eq]
    omega
  unfold tgW
  rw [if_pos ⟨rfl,this,by simp⟩]
  rfl
theorem tgW_n {n : Nat} {u v : List Int} {c : Int} (h : CrN n c) : tgW n (2 * (n : Int) :: u ++ c :: v) = none := by
  unfold tgW
  rw [if_neg]
  rintro ⟨_,h2,_⟩
  unfold inAll at h2
  rw [List.all_eq_true] at h2
  have := of_decide_eq_true (h2 c (by simp))
  have := h.1
  omega
def rmk (n : Nat) (R : List Mk) : Nat → Nat → List Int → List Int → List Int × Nat × Bool
  | 0,k,last,now => ((tgW n now).getD last,k,(stepMk R 0 now).isNone)
  | f + 1,k,last,now => match stepMk R 0 now with
    | none => ((tgW n now).getD last,k,true)
    | some (_,next) => rmk n R f (k + 1) ((tgW n now).getD last) next
theorem rmk_some {n : Nat} {R : List Mk} {f k : Nat} {last now next : List Int} (h : svM R now = some next) : rmk n R (f + 1) k last now = rmk n R f (k + 1) ((tgW n now).getD last) next := by
  rw [← stepMk_sv R 0] at h
  rw [rmk]
  cases e : stepMk R 0 now with
  | none => rw [e] at h; cases h
  | some p =>
    rw [e] at h
    obtain ⟨i,z⟩ := p
    have : z = next := Option.some.inj h
    subst this
    rfl
theorem rmk_none {n : Nat} {R : List Mk} {f k : Nat} {last now : List Int} (h : svM R now = none) : rmk n R f k last now = ((tgW n now).getD last,k,true) := by
  rw [← stepMk_sv R 0] at h
  have e : stepMk R 0 now = none := by
    cases e : stepMk R 0 now with
    | none => rfl
    | some p => rw [e] at h; cases h
  cases f with
  | zero => rw [rmk,e]; rfl
  | succ f => rw [rmk,e]
theorem rmk_carry {t : Tg} {i : Int} (hi : 0 ≤ i ∧ i < t.wo.length) : ∀ (v u : List Int) (f k : Nat) (last : List Int),LtN t.wo.length u → LtN t.wo.length v → rmk t.wo.length (mkR t) (f + (v.length + 1)) k last (2 * (t.wo.length : Int) :: u ++ ((t.wo.length : Int) + i) :: v) = rmk t.wo.length (mkR t) f (k + (v.length + 1)) last (2 * (t.wo.length : Int) :: (u ++ v) ++ t.wo.getD i.toNat [])
  | [],u,f,k,last,hu,hv => by
    have hc : CrN t.wo.length ((t.wo.length : Int) + i) := ⟨by omega,by omega⟩
    rw [List.length_nil,Nat.zero_add,rmk_some (sv_out hu hi),tgW_n hc,List.append_nil]
    rfl
  | j :: v,u,f,k,last,hu,hv => by
    have hc : CrN t.wo.length ((t.wo.length : Int) + i) := ⟨by omega,by omega⟩
    have hj := hv j (by simp)
    have hv2 : LtN t.wo.length v := fun y hy => hv y (by simp [hy])
    have hu2 : LtN t.wo.length (u ++ [j]) := fun y hy => by
      rcases List.mem_append.mp hy with h | h
      · exact hu y h
      · have : y = j := by simpa using h
        rw [this]; exact hj
    rw [List.length_cons,show f + (v.length + 1 + 1) = f + (v.length + 1) + 1 by omega,rmk_some (sv_carry hu hv2 hi hj),tgW_n hc,rmk_carry hi v (u ++ [j]) f (k + 1) _ hu2 hv2]
    rw [show k + 1 + (v.length + 1) = k + (v.length + 1 + 1) by omega,List.append_assoc u [j] v]
    rfl
theorem rmk_step {t : Tg} {w : List Int} (hd : 1 ≤ t.de) (hw : LtN t.wo.length w) (h : tgHalts t w = false) (f k : Nat) (last : List Int) : rmk t.wo.length (mkR t) (f + ((w.length - t.de.toNat) + 2)) k last (2 * (t.wo.length : Int) :: w) = rmk t.wo.length (mkR t) f (k + ((w.length - t.de.toNat) + 2)) w (2 * (t.wo.length : Int) :: tgStep t w) := by
  unfold tgHalts at h
  simp only [Bool.or_eq_false_iff,decide_eq_false_iff_not] at h
  cases w with
  | nil => simp at h; omega
  | cons i r =>
    have hi := hw i (by simp)
    have hr : LtN t.wo.length r := fun y hy => hw y (by simp [hy])
    have hl : t.de.toNat - 1 ≤ r.length := by have := h.1; simp only [List.length_cons] at this; omega
    have hx : LtN t.wo.length (r.take (t.de.toNat - 1)) := fun y hy => hr y (List.mem_of_mem_take hy)
    have hv : LtN t.wo.length (r.drop (t.de.toNat - 1)) := fun y hy => hr y (List.mem_of_mem_drop hy)
    have s1 := sv_in (t := t) (i := i) hx hv (by rw [List.length_take]; omega) hi (by simpa using h.2)
    rw [List.take_append_drop] at s1
    have e1 : (i :: r).length - t.de.toNat = (r.drop (t.de.toNat - 1)).length := by rw [List.length_drop,List.length_cons]; omega
    have e2 : tgStep t (i :: r) = r.drop (t.de.toNat - 1) ++ t.wo.getD i.toNat [] := by
      unfold tgStep tgOut
      rw [show t.de.toNat = (t.de.toNat - 1) + 1 by omega,List.cons_append,List.drop_succ_cons,List.drop_append_of_le_length (by omega)]
      rfl
    rw [e1,e2,show f + ((r.drop (t.de.toNat - 1)).length + 2) = f + ((r.drop (t.de.toNat - 1)).length + 1) + 1 by omega,rmk_some s1,tgW_y hw]
    have hc := rmk_carry (t := t) (i := i) hi (r.drop (t.de.toNat - 1)) [] f (k + 1) (i :: r) (fun y hy => by simp at hy) hv
    refine hc.trans ?_
    rw [show k + 1 + ((r.drop (t.de.toNat - 1)).length + 1) = k + ((r.drop (t.de.toNat - 1)).length + 2) by omega]
    rfl
theorem tgStep_lt {t : Tg} {w : List Int} (hv : vTag t = true) (hw : LtN t.wo.length w) : LtN t.wo.length (tgStep t w) := fun y hy => by
  unfold tgStep tgOut at hy
  rcases List.mem_append.mp (List.mem_of_mem_drop hy) with h | h
  · exact hw y h
  · by_cases q : (w.headD 0).toNat < t.wo.length
    · rw [List.getD_eq_getElem?_getD,List.getElem?_eq_getElem q] at h
      exact (vTag_w hv (List.getElem_mem q)).2 y h
    · rw [List.getD_eq_getElem?_getD,List.getElem?_eq_none (by omega)] at h
      simp at h
theorem tgStep_le {t : Tg} {w : List Int} (hd : 1 ≤ t.de) (hw : ∀ x ∈ t.wo,x.length ≤ 3) (h : tgHalts t w = false) : (tgStep t w).length ≤ w.length + 2 := by
  unfold tgStep tgOut
  rw [List.length_drop,List.length_append]
  have : (t.wo.getD (w.headD 0).toNat []).length ≤ 3 := by
    by_cases q : (w.headD 0).toNat < t.wo.length
    · rw [List.getD_eq_getElem?_getD,List.getElem?_eq_getElem q]
      exact hw _ (List.getElem_mem q)
    · rw [List.getD_eq_getElem?_getD,List.getElem?_eq_none (by omega)]
      simp
  omega
theorem rmk_run {t : Tg} (hv : vTag t = true) (hw3 : ∀ x ∈ t.wo,x.length ≤ 3) : ∀ (j : Nat) (w : List Int) (F k : Nat) (last : List Int),LtN t.wo.length w → (rnT t j w).2.2 = true → j * (w.length + 2 * j + 1) ≤ F → ∃ K,rmk t.wo.length (mkR t) F k last (2 * (t.wo.length : Int) :: w) = ((rnT t j w).1,K,true) ∧ k + (rnT t j w).2.1 ≤ K
  | j,w,F,k,last,hw,hh,hF => by
    have hb := vTag_bd hv
    cases h : tgHalts t w with
    | true =>
      rw [rnT_h h]
      have h2 := h
      unfold tgHalts at h2
      simp only [Bool.or_eq_true,decide_eq_true_eq] at h2
      refine ⟨k,?_,Nat.le_refl _⟩
      rw [rmk_none (sv_halt hb.1.1 hw h2),tgW_y hw]
      rfl
    | false =>
      cases j with
      | zero => rw [rnT,h] at hh; cases hh
      | succ j =>
        rw [rnT_s h] at hh ⊢
        have hl := tgStep_le hb.1.1 hw3 h
        have hm : (j + 1) * (w.length + 2 * (j + 1) + 1) = j * (w.length + 2 + 2 * j + 1) + (w.length + 2 * (j + 1) + 1) := by
          rw [Nat.add_mul,Nat.one_mul,show w.length + 2 * (j + 1) + 1 = w.length + 2 + 2 * j + 1 by omega]
        have hj : j * ((tgStep t w).length + 2 * j + 1) ≤ j * (w.length + 2 + 2 * j + 1) := Nat.mul_le_mul_left _ (by omega)
        obtain ⟨F2,rfl⟩ : ∃ F2,F = F2 + ((w.length - t.de.toNat) + 2) := ⟨F - ((w.length - t.de.toNat) + 2),by omega⟩
        obtain ⟨K,e,hK⟩ := rmk_run hv hw3 j (tgStep t w) F2 (k + ((w.length - t.de.toNat) + 2)) w (tgStep_lt hv hw) hh (by omega)
        refine ⟨K,?_,by dsimp only at hK ⊢; omega⟩
        rw [rmk_step hb.1.1 hw h,e]
end Go.Proofs.Ytjifedbidnmapaa
end
section
set_option linter.unusedVariables false
set_option linter.unusedSimpArgs false
set_option maxRecDepth 100000
namespace Go.Proofs.Ytjifedbidnmapaa
open Go Foot Go.Shelf Go.RowKit
end Go.Proofs.Ytjifedbidnmapaa
end
section

end
