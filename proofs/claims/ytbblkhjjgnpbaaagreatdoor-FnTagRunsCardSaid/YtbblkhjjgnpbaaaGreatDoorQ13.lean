/- Parts of the proof (13 of 21). -/
import Derived.Maps.RangeRun
import Derived.Test.YtbblkhjjgnpbaaaGreatDoorQ12
section
set_option linter.unusedVariables false
set_option linter.unusedSimpArgs false
set_option maxRecDepth 100000
namespace Go.Proofs.YtbblkhjjgnpbaaaGreatDoor
open Go Foot MapKept
section
variable {P : Program} {g : Gh} {t : List (Nat × SV)} {h : List (Nat × GB)} {n : Nat} {Q : Exit → St → Prop} {ops : Array Oper} {l : List Oper}
variable {ty : TypeId} {pos : String} {after : Array Edge} {x : Operand} {T kt et : TypeId} {α β : Type}
variable {st : St} {dst : Option Tmp} {guard : Option (Nat × Bool)}
end
end Go.Proofs.YtbblkhjjgnpbaaaGreatDoor
end
section
set_option linter.unusedVariables false
set_option linter.unusedSimpArgs false
set_option maxRecDepth 100000
set_option maxHeartbeats 4000000
namespace Go.Proofs.YtbblkhjjgnpbaaaGreatDoor
open Go Foot
end Go.Proofs.YtbblkhjjgnpbaaaGreatDoor
end
section
set_option linter.unusedVariables false
set_option linter.unusedSimpArgs false
set_option maxRecDepth 100000
set_option maxHeartbeats 4000000
namespace Go.Proofs.YtbblkhjjgnpbaaaGreatDoor
open Go Foot
@[irreducible] def tgWord (n : Int) (l : List Int) : Bool := inAll 0 (n - 1) l && decide ((l.length : Int) ≤ 1000)
@[irreducible] def vTag (t : Tg) : Bool := decide (1 ≤ t.de ∧ t.de ≤ 4) && decide (1 ≤ (t.wo.length : Int) ∧ (t.wo.length : Int) ≤ 200) && (risesL t.ha && inAll 0 ((t.wo.length : Int) - 1) t.ha) && t.wo.all (tgWord t.wo.length)
@[irreducible] def tgHalts (t : Tg) (w : List Int) : Bool := decide ((w.length : Int) < t.de) || decide (w.headD 0 ∈ t.ha)
@[irreducible] def tgOut (t : Tg) (w : List Int) : List Int := w ++ t.wo.getD (w.headD 0).toNat []
@[irreducible] def tgStep (t : Tg) (w : List Int) : List Int := (tgOut t w).drop t.de.toNat
@[irreducible] def tgOver (t : Tg) (w : List Int) : Bool := !decide (((tgOut t w).length : Int) ≤ 1000)
theorem vTag_bd {t : Tg} (h : vTag t = true) : (1 ≤ t.de ∧ t.de ≤ 4) ∧ 1 ≤ (t.wo.length : Int) ∧ (t.wo.length : Int) ≤ 200 := by
  unfold vTag at h
  simp only [Bool.and_eq_true,decide_eq_true_eq] at h
  omega
theorem vTag_w {t : Tg} (h : vTag t = true) {x : List Int} (hx : x ∈ t.wo) : (x.length : Int) ≤ 1000 ∧ ∀ y ∈ x,0 ≤ y ∧ y < t.wo.length := by
  unfold vTag at h
  simp only [Bool.and_eq_true,List.all_eq_true] at h
  have := h.2 x hx
  unfold tgWord inAll at this
  simp only [Bool.and_eq_true,List.all_eq_true,decide_eq_true_eq] at this
  exact ⟨this.2,fun y hy => by have := this.1 y hy; omega⟩
structure Gd (t : Tg) (q : List Int) : Prop where
  wd : ∀ y ∈ q,0 ≤ y ∧ y < t.wo.length
  le : (q.length : Int) ≤ 1000
theorem tgHalts_no {t : Tg} {q : List Int} (h : tgHalts t q = false) : t.de ≤ q.length := by
  unfold tgHalts at h
  simp at h
  omega
theorem tgHead {t : Tg} {q : List Int} (hv : vTag t = true) (hg : Gd t q) (h : tgHalts t q = false) : 0 ≤ q.headD 0 ∧ q.headD 0 < t.wo.length := by
  have h1 := tgHalts_no h
  have h2 := vTag_bd hv
  cases q with
  | nil => simp at h1; omega
  | cons a q => exact hg.wd a (by simp)
theorem tgStep_gd {t : Tg} {q : List Int} (hv : vTag t = true) (hg : Gd t q) (h : tgHalts t q = false) (ho : tgOver t q = false) : Gd t (tgStep t q) := by
  obtain ⟨h1,h2⟩ := tgHead hv hg h
  have hlt : (q.headD 0).toNat < t.wo.length := by omega
  have hout : tgOut t q = q ++ t.wo[(q.headD 0).toNat] := by unfold tgOut; rw [List.getD_eq_getElem?_getD,List.getElem?_eq_getElem hlt]; rfl
  refine ⟨fun y hy => ?_,?_⟩
  · unfold tgStep at hy
    have := List.mem_of_mem_drop hy
    rw [hout] at this
    rcases List.mem_append.1 this with hy | hy
    · exact hg.wd y hy
    · exact (vTag_w hv (List.getElem_mem hlt)).2 y hy
  · unfold tgOver at ho
    unfold tgStep
    simp at ho
    rw [List.length_drop]
    omega
section
variable {α : Type} {f : α → α} {h o : α → Bool} {x : α} {k : Nat}
end
section
variable {α : Type} [DecidableEq α] {f : α → α} {h o : α → Bool} {x y : α} {k p l : Nat}
end
end Go.Proofs.YtbblkhjjgnpbaaaGreatDoor
end
section
set_option linter.unusedVariables false
set_option linter.unusedSimpArgs false
set_option maxRecDepth 100000
set_option maxHeartbeats 4000000
namespace Go.Proofs.YtbblkhjjgnpbaaaGreatDoor
open Go Foot
end Go.Proofs.YtbblkhjjgnpbaaaGreatDoor
end
section
set_option linter.unusedVariables false
set_option linter.unusedSimpArgs false
set_option maxRecDepth 100000
set_option maxHeartbeats 4000000
namespace Go.Proofs.YtbblkhjjgnpbaaaGreatDoor
open Go Foot
theorem preB46 {p : Prop} (h : p := by first | with_reducible assumption | omega | (simp only [List.length_append,List.length_cons,List.length_nil,List.length_set,List.length_replicate,List.length_take,List.length_drop,List.length_tail,List.length_dropLast,List.length_reverse] at *; omega) | exact mem_len (by assumption) (by omega) | (with_reducible refine Int.le_trans (Int.ofNat_le.2 (trimR_len _)) ?_; simp only [List.length_cons,List.length_tail]; omega) | (exact (ruAt_ok (by assumption) (by assumption) (by assumption)).2.1) | (exact (ruAt_ok (by assumption) (by assumption) (by assumption)).2.1) | (have := vMach_bd (by assumption); omega) | (simp only [mC_ch,mC_tu]; omega) | (have := vTag_bd (by assumption); omega) | (have := (‹Gd _ _›).le; omega) | (exact tgHalts_no (by assumption)) | (exact tgHead (by assumption) (by assumption) (by assumption)) | (exact Int.le_trans (tgStep_gd (by assumption) (by assumption) (by assumption) (by assumption)).le (by decide)) | (with_reducible refine Int.le_trans (Int.ofNat_le.2 (pushL_len _ _)) ?_; simp only [List.length_dropLast]; omega) | exact (ask_ok (by assumption)).1 | exact (ask_ok (by assumption)).2.1 | exact (ask_ok (by assumption)).2.2.1 | exact (ask_ok (by assumption)).2.2.2 | trivial) : p := h
theorem isTagWord_ok (l : List Int) (n : Int) (hx : (l.length : Int) ≤ 16777216) (h1 : -1000 ≤ n) (h2 : n ≤ 16777216) : Does Tryz.prog 193 [.one (shI l),.one (int n)] [] (.one (boo (tgWord n l))) [] := by
  refine does_of (k := 0) Tryz.func193 rfl Tryz.ntmps193 rfl rfl fun w F0 S0 ρ0 => ?_
  dsimp only [argT,argH]
  repeat' first|(apply p3;(first|exact pu1|exact puN|exact puC);exact rfl)|refine cd ?_|refine o_no rfl rfl rfl rfl ?_|(apply py3;exact rfl;exact rfl;(first|exact pu1|exact a_sub rfl rfl (by omega) (by omega));exact rfl;exact rfl)|(apply cy4 0;exact rfl;exact rfl;exact callK1 (θ := []) (hD := (allWithin_ok _ _ _ preB46));exact rfl;exact rfl;exact rfl;exact rfl;refine dM ?_)|((refine o_gs rfl rfl (fun hc => ?_) (fun hc => ?_)) <;> (try simp only [dcB] at hc) <;> (try first|contradiction|(exfalso;omega)))
  · repeat refine cr ?_
    refine ends_id ?_
    refine endK [] (h2 := ?_) (h3 := ?_) (nd := ?_)
    all_goals (repeat' first|exact ce0|refine ce ?_|refine ce2 ?_ ?_|exact SVLe.refl|refine ceb ?_)
    all_goals first | exact (show nodupB _ = true from rfl) | exact Or.inr rfl | ((unfold tgWord; simp_all))
  · repeat refine cr ?_
    refine ends_id ?_
    refine endK [] (h2 := ?_) (h3 := ?_) (nd := ?_)
    all_goals (repeat' first|exact ce0|refine ce ?_|refine ce2 ?_ ?_|exact SVLe.refl|refine ceb ?_)
    all_goals first | exact (show nodupB _ = true from rfl) | exact Or.inr rfl | ((unfold tgWord; simp_all))
theorem wordsOk1_ok (l : List Int) (n : Int) (hx : (l.length : Int) ≤ 16777216) (h1 : -1000 ≤ n) (h2 : n ≤ 16777216) : Does Tryz.prog 302 [.one (shI l),.one (.d (.bx false [.sc (.int .i64 n)]))] [] (.one (boo (!tgWord n l))) [] := by
  refine does_of (k := 0) Tryz.func302 rfl Tryz.ntmps302 rfl rfl fun w F0 S0 ρ0 => ?_
  dsimp only [argT,argH]
  repeat' first|(apply p3;(exact pu1);exact rfl)|refine cd ?_|(apply c4 0;exact callK1 (θ := []) (hD := (isTagWord_ok _ _ preB46 preB46 preB46));exact rfl;exact rfl;exact rfl;refine dM ?_)
  repeat refine cr ?_
  refine ends_id ?_
  refine endK [] (h2 := ?_) (h3 := ?_) (nd := ?_)
  all_goals (repeat' first|exact ce0|refine ce ?_|refine ce2 ?_ ?_|exact SVLe.refl|refine ceb ?_)
  all_goals first | exact (show nodupB _ = true from rfl) | exact Or.inr rfl | (rfl)
theorem hasWT_ok (xs : List (List Int)) (n : Int) (hx : (xs.length : Int) ≤ 16777216) (hxs : ∀ x ∈ xs,(x.length : Int) ≤ 16777216) (h1 : -1000 ≤ n) (h2 : n ≤ 16777216) : Does Tryz.prog 221 [.one (shW xs),.one (.d (.fn (.func 302) [.bx false [.sc (.int .i64 n)]]))] [] (.one (boo (xs.any fun w => !tgWord n w))) [] := hasWd_ok xs _ (.bx false [.sc (.int .i64 n)]) (fun w => !tgWord n w) hx hxs (fQ rfl) fun r hr => wordsOk1_ok r n hr h1 h2
theorem wordsOk_ok (xs : List (List Int)) (n : Int) (hx : (xs.length : Int) ≤ 16777216) (hxs : ∀ x ∈ xs,(x.length : Int) ≤ 16777216) (h1 : -1000 ≤ n) (h2 : n ≤ 16777216) : Does Tryz.prog 190 [.one (shW xs),.one (int n)] [] (.one (boo (xs.all (tgWord n)))) [] := by
  refine does_of (k := 0) Tryz.func190 rfl Tryz.ntmps190 rfl rfl fun w F0 S0 ρ0 => ?_
  dsimp only [argT,argH]
  repeat' first|(apply n3;exact a_new (gb := .bx _) rfl;exact rfl;refine dA ?_)|(apply p3;exact pu1;exact rfl)|refine cd ?_|(apply c4 0;exact callK1 (θ := []) (hD := (hasWT_ok _ _ preB46 preB46 preB46 preB46));exact rfl;exact rfl;exact rfl;refine dM ?_)
  repeat refine cr ?_
  refine ends_id ?_
  refine endK [] (h2 := ?_) (h3 := ?_) (nd := ?_)
  all_goals (repeat' first|exact ce0|refine ce ?_|refine ce2 ?_ ?_|exact SVLe.refl|refine ceb ?_)
  all_goals first | exact (show nodupB _ = true from rfl) | exact Or.inr rfl | (exact not_any_not _ _)
theorem ValidTag_ok (t : Tg) (hx : (t.ha.length : Int) ≤ 16777216) (hy : (t.wo.length : Int) ≤ 16777216) (hys : ∀ x ∈ t.wo,(x.length : Int) ≤ 16777216) : Does Tryz.prog 86 [.agg (tgC t)] [] (.one (boo (vTag t))) [] := by
  refine does_of (k := 0) Tryz.func86 rfl Tryz.ntmps86 rfl rfl fun w F0 S0 ρ0 => ?_
  dsimp only [argT,argH]
  repeat' first|(apply n3;exact a_new (gb := .bx _) rfl;exact rfl;refine dA ?_)|(apply p3;(exact pu1);exact rfl)|refine cd ?_|(apply c4 0;exact callK1 (θ := []) (hD := (sizeW_ok _ preB46));exact rfl;exact rfl;exact rfl;refine dM ?_)|(apply c4 0;exact callK1 (θ := []) (hD := (within_ok _ _ _));exact rfl;exact rfl;exact rfl;refine dM ?_)|refine o_no rfl rfl rfl rfl ?_|(apply py3;exact rfl;exact rfl;(first|exact pu1|exact a_sub rfl rfl (by omega) (by omega));exact rfl;exact rfl)|(apply cy4 0;exact rfl;exact rfl;exact callK1 (θ := []) (hD := (within_ok _ _ _));exact rfl;exact rfl;exact rfl;exact rfl;refine dM ?_)|(apply cy4 0;exact rfl;exact rfl;exact callK1 (θ := []) (hD := (wordsOk_ok _ _ preB46 preB46 preB46 preB46));exact rfl;exact rfl;exact rfl;exact rfl;refine dM ?_)|(apply cy4 0;exact rfl;exact rfl;exact callK1 (θ := []) (hD := (rising_ok _ preB46));exact rfl;exact rfl;exact rfl;exact rfl;refine dM ?_)|(apply cy4 0;exact rfl;exact rfl;exact callK1 (θ := []) (hD := (allWithin_ok _ _ _ preB46));exact rfl;exact rfl;exact rfl;exact rfl;refine dM ?_)|((refine o_gs rfl rfl (fun hc => ?_) (fun hc => ?_)) <;> (try simp only [dcB] at hc) <;> (try first|contradiction|(exfalso;omega)))
  all_goals
    repeat refine cr ?_
    refine ends_id ?_
    refine endK [] (h2 := ?_) (h3 := ?_) (nd := ?_)
    all_goals (repeat' first|exact ce0|refine ce ?_|refine ce2 ?_ ?_|exact SVLe.refl|refine ceb ?_)
    all_goals first | exact (show nodupB _ = true from rfl) | exact Or.inr rfl | ((unfold vTag; first | (rw [decide_eq_false hc]; simp; done) | (simp_all; done)))
theorem tagCode_ok (t : Tg) (l : List Int) (hl : (l.length : Int) ≤ 16777216) (hx : (t.ha.length : Int) ≤ 16777216) (hy : (t.wo.length : Int) ≤ 16777216) (hys : ∀ x ∈ t.wo,(x.length : Int) ≤ 16777216) : Does Tryz.prog 90 [.agg (tgC t),.one (shI l)] [] (.one (int (bif vTag t && tgWord t.wo.length l then 0 else 1))) [] := by
  refine does_of (k := 0) Tryz.func90 rfl Tryz.ntmps90 rfl rfl fun w F0 S0 ρ0 => ?_
  dsimp only [argT,argH]
  repeat' first|(apply n3;exact a_new (gb := .bx _) rfl;exact rfl;refine dA ?_)|(apply p3;(exact pu1);exact rfl)|refine cd ?_|(apply c4 0;exact callK1 (θ := []) (hD := (ValidTag_ok _ preB46 preB46 preB46));exact rfl;exact rfl;exact rfl;refine dM ?_)|refine o_no rfl rfl rfl rfl ?_|(apply py3;exact rfl;exact rfl;(exact pu1);exact rfl;exact rfl)|(apply cy4 0;exact rfl;exact rfl;exact callK1 (θ := []) (hD := (sizeW_ok _ preB46));exact rfl;exact rfl;exact rfl;exact rfl;refine dM ?_)|(apply cy4 0;exact rfl;exact rfl;exact callK1 (θ := []) (hD := (isTagWord_ok _ _ preB46 preB46 preB46));exact rfl;exact rfl;exact rfl;exact rfl;refine dM ?_)|((first|refine o_gs rfl rfl (fun hc => ?_) (fun hc => ?_)|refine g_cond rfl (fun hc => ?_) (fun hc => ?_)) <;> (try simp only [dcB] at hc) <;> (try first|contradiction|(exfalso;omega)))
  all_goals
    repeat refine cr ?_
    refine ends_id ?_
    refine endK [] (h2 := ?_) (h3 := ?_) (nd := ?_)
    all_goals (repeat' first|exact ce0|refine ce ?_|refine ce2 ?_ ?_|exact SVLe.refl|refine ceb ?_)
    all_goals first | exact (show nodupB _ = true from rfl) | exact Or.inr rfl | (simp_all)
abbrev tgR (t : Tg) (i : Nat) : List C := [int t.de,shW t.wo,shI t.ha,.gv i]
theorem tagRunOf_ok (t : Tg) (q : List Int) (hq : (q.length : Int) ≤ 16777216) : Does Tryz.prog 93 [.agg (tgC t),.one (shI q)] [] (.one (.gv 0)) [.bx (tgR t 1),.row 1 (rows eI q)] := by
  refine does_of (k := 0) Tryz.func93 rfl Tryz.ntmps93 rfl rfl fun w F0 S0 ρ0 => ?_
  dsimp only [argT,argH]
  repeat' first|(apply n3;exact a_new (gb := .bx _) rfl;exact rfl;refine dA ?_)|(apply p3;exact pu1;exact rfl)|refine cd ?_|(apply g_drN (id := 1) okM [[],[],[1],[0,1,2],[0,1,2,3],[0,1,2,3,4]] [([],[]),([],[]),([0],[]),([],[]),([1],[]),([],[])] 2;(focus (refine dp 0 0 [6,7] [(true,0)] puL ?_;refine dp 1 0 [5] [] pu1 ?_;refine duN 2 1 [5] [] (callD1 (n := _) 0 (θ := []) (hD := (clone_ok _ preB46))) (by exact rfl) (by exact rfl) ?_;refine dp 3 7 [] [] (a_pure (sv := .agg _) rfl) ?_;refine duE 4 15 [] [] (atN 1 (fun _ => a_new (gb := .bx _) rfl)) (by exact rfl) (by exact rfl) ?_;refine dp 5 31 [] [] pu1 ?_;(refine d_nil ?_;refine dN ?_)));any_goals kernel_rfl)
  repeat refine cr ?_
  refine ends_id ?_
  refine endK [?_,?_] (h2 := ?_) (h3 := ?_) (nd := ?_)
  rotate_left 2
  all_goals (repeat' first|exact ce0|refine ce ?_|refine ce2 ?_ ?_|(refine Or.inr (bx_eq rfl rfl ?_);(try dsimp only [C.ren,C.ren.all]);(try exact rfl))|exact SVLe.refl|refine ceb ?_)
  all_goals first | exact (show nodupB _ = true from rfl) | exact Or.inr rfl | (rfl)
theorem tagWord_ok (t : Tg) (q : List Int) : Does Tryz.prog 455 [.one (.gv 0)] [.bx (tgR t 1),.row 1 (rows eI q)] (.one (.gv 1)) [.bx (tgR t 1),.row 1 (rows eI q)] := by
  refine does_of (k := 2) Tryz.func455 rfl Tryz.ntmps455 rfl rfl fun w F0 S0 ρ0 => ?_
  dsimp only [argT,argH]
  repeat' first|(apply p3;(exact pu1);exact rfl)|refine cd ?_
  repeat refine cr ?_
  refine ends_id ?_
  refine endK [] (h2 := ?_) (h3 := ?_) (nd := ?_)
  all_goals (repeat' first|exact ce0|refine ce ?_|refine ce2 ?_ ?_|(refine Or.inr (bx_eq rfl rfl ?_);(try dsimp only [C.ren,C.ren.all]);(try exact rfl))|exact SVLe.refl|refine ceb ?_)
  all_goals first | exact (show nodupB _ = true from rfl) | exact Or.inr rfl | (rfl)
theorem isNaN_ok (a : Int) : Does Tryz.prog 341 [.one (int a)] [] (.one (boo false)) [] := by
  refine does_of (k := 0) Tryz.func341 rfl Tryz.ntmps341 rfl rfl fun w F0 S0 ρ0 => ?_
  dsimp only [argT,argH]
  repeat' first|(apply p3;(first|exact pu1|exact a_ne rfl rfl);exact rfl)|refine cd ?_
  repeat refine cr ?_
  refine ends_id ?_
  refine endK [] (h2 := ?_) (h3 := ?_) (nd := ?_)
  all_goals (repeat' first|exact ce0|refine ce ?_|refine ce2 ?_ ?_|exact SVLe.refl|refine ceb ?_)
  all_goals first | exact (show nodupB _ = true from rfl) | exact Or.inr rfl | (simp)
theorem sNaN_ok (a : Int) : Does Tryz.prog 255 [.one (int a)] [] (.one (boo false)) [] := by
  refine does_of (k := 0) Tryz.func255 rfl Tryz.ntmps255 rfl rfl fun w F0 S0 ρ0 => ?_
  dsimp only [argT,argH]
  repeat' first|(apply p3;(first|exact pu1|exact a_ne rfl rfl);exact rfl)|refine cd ?_
  repeat refine cr ?_
  refine ends_id ?_
  refine endK [] (h2 := ?_) (h3 := ?_) (nd := ?_)
  all_goals (repeat' first|exact ce0|refine ce ?_|refine ce2 ?_ ?_|exact SVLe.refl|refine ceb ?_)
  all_goals first | exact (show nodupB _ = true from rfl) | exact Or.inr rfl | (simp)
theorem cLess_ok (a b : Int) : Does Tryz.prog 254 [.one (int a),.one (int b)] [] (.one (boo (decide (a < b)))) [] := by
  refine does_of (k := 0) Tryz.func254 rfl Tryz.ntmps254 rfl rfl fun w F0 S0 ρ0 => ?_
  dsimp only [argT,argH]
  repeat' first|(apply p3;(exact pu1);exact rfl)|refine cd ?_|(apply c4 0;exact callK1 (θ := []) (hD := (isNaN_ok _));exact rfl;exact rfl;exact rfl;refine dM ?_)|refine o_no rfl rfl rfl rfl ?_|(apply py3;exact rfl;exact rfl;(first|exact pu1|exact puC);exact rfl;exact rfl)
  repeat refine cr ?_
  refine ends_id ?_
  refine endK [] (h2 := ?_) (h3 := ?_) (nd := ?_)
  all_goals (repeat' first|exact ce0|refine ce ?_|refine ce2 ?_ ?_|exact SVLe.refl|refine ceb ?_)
  all_goals first | exact (show nodupB _ = true from rfl) | exact Or.inr rfl | (rfl)
@[irreducible] def lob (l : List Int) (x : Int) : Int := ((l.takeWhile fun y => decide (y < x)).length : Nat)
theorem lob_at {l : List Int} {x i : Int} (h0 : 0 ≤ i) (h1 : i ≤ l.length) (ha : ∀ k : Nat,(k : Int) < i → (h : k < l.length) → l[k] < x) (hb : ∀ k : Nat,i ≤ (k : Int) → (h : k < l.length) → x ≤ l[k]) : lob l x = i := by
  obtain ⟨n,rfl⟩ : ∃ n : Nat,i = n := ⟨i.toNat,by omega⟩
  unfold lob
  congr 1
  induction l generalizing n with
  | nil => simp at h1; simp; omega
  | cons y l ih =>
    cases n with
    | zero =>
      have := hb 0 (by omega) (by simp)
      simp at this
      simp [List.takeWhile_cons]
      omega
    | succ n =>
      have := ha 0 (by omega) (by simp)
      simp at this
      simp only [List.takeWhile_cons,decide_eq_true this,if_true,List.length_cons]
      simp at h1
      rw [ih n (by omega) (by omega) (fun k hk h => by have := ha (k + 1) (by omega) (by simpa using h); simpa using this) (fun k hk h => by have := hb (k + 1) (by omega) (by simpa using h); simpa using this)]
theorem rises_lt {l : List Int} (hr : risesL l = true) {i j : Nat} (hij : i < j) (hj : j < l.length) : l[i] < l[j] := by
  have key : ∀ d i,(h : i + d + 1 < l.length) → l[i]'(by omega) < l[i + d + 1] := by
    intro d
    induction d with
    | zero =>
      intro i h
      unfold risesL at hr
      rw [List.all_eq_true] at hr
      have := hr i (by rw [List.mem_range]; omega)
      rw [decide_eq_true_eq,← get_getD l 0 _ (by omega),← get_getD l 0 _ (by omega)] at this
      exact this
    | succ d ih =>
      intro i h
      have h1 := ih i (by omega)
      unfold risesL at hr
      rw [List.all_eq_true] at hr
      have := hr (i + d + 1) (by rw [List.mem_range]; omega)
      rw [decide_eq_true_eq,← get_getD l 0 _ (by omega),← get_getD l 0 _ (by omega)] at this
      have e : i + (d + 1) + 1 = i + d + 1 + 1 := by omega
      simp only [e]
      omega
  have := key (j - i - 1) i (by omega)
  have e : i + (j - i - 1) + 1 = j := by omega
  simp only [e] at this
  exact this
theorem BinarySearch_ok (l : List Int) (x : Int) (hx : (l.length : Int) ≤ 1048576) (hr : risesL l = true) : Does Tryz.prog 157 [.one (shI l),.one (int x)] [] (.tup [(false,[int (lob l x)]),(false,[boo (decide (x ∈ l))])]) [] := by
  refine does_of (k := 0) Tryz.func157 rfl Tryz.ntmps157 rfl rfl fun w F0 S0 ρ0 => ?_
  dsimp only [argT,argH]
  repeat' first|(apply p3;(first|exact pu1|exact puN);exact rfl)|refine cd ?_
  refine g_loop_id ?_
  refine loopK [0,1,4,5,6] [] (fun z : Int × Int => 0 ≤ z.1 ∧ z.1 ≤ z.2 ∧ z.2 ≤ l.length ∧ (∀ k : Nat,(k : Int) < z.1 → (h : k < l.length) → l[k] < x) ∧ (∀ k : Nat,z.2 ≤ (k : Int) → (h : k < l.length) → x ≤ l[k])) (fun z => [(7,.one (int z.1)),(8,.one (int z.2))]) (fun _ => []) (fun z => (z.2 - z.1).toNat) ((0 : Int),(l.length : Int)) [] (hI := ?_) (hr := ?_)
  · dsimp only
    exact ⟨by omega,by omega,by omega,fun k h => by omega,fun k h h2 => by omega⟩
  · rintro ⟨i,j⟩ ⟨h0,h1,h2,h3,h4⟩
    dsimp only [List.cons_append,List.nil_append] at *
    try dsimp only [tgR]
    skip
    repeat' first|(apply p3;(first|exact pu1|exact puC|exact a_add rfl rfl (by omega) (by omega)|exact u_conv rfl Tryz.underlying3 Tryz.underlying241 bnd bnd|exact u_shr1 rfl rfl (by omega)|exact u_vnoc rfl Tryz.underlying241 Tryz.underlying3 bnd bnd|exact puI);exact rfl)|refine cd ?_|(apply c4 0;exact callK1 (θ := []) (hD := (cLess_ok _ _));exact rfl;exact rfl;exact rfl;refine dM ?_)|refine o_no rfl rfl rfl rfl ?_|(apply py3;exact rfl;exact rfl;(first|exact pu1|exact puC|exact puI);exact rfl;exact rfl)|(apply cy4 0;exact rfl;exact rfl;exact callK1 (θ := []) (hD := (sNaN_ok _));exact rfl;exact rfl;exact rfl;exact rfl;refine dM ?_)|((first|refine o_gs rfl rfl (fun hc => ?_) (fun hc => ?_)|refine g_cond rfl (fun hc => ?_) (fun hc => ?_)) <;> (try simp only [dcB] at hc) <;> (try first|contradiction|(exfalso;omega)))
    · have m1 : i ≤ (i + j) / 2 := by omega
      have m2 : (i + j) / 2 < j := by omega
      refine q_again ((i + j) / 2 + 1,j) [] (by exact stk) ?_ ?_
      · dsimp only
        refine ⟨by omega,by omega,by omega,fun k hk h => ?_,h4⟩
        have e : l[((i + j) / 2).toNat]'(by omega) < x := hc
        by_cases ek : k = ((i + j) / 2).toNat
        · subst ek; exact e
        · have := rises_lt hr (show k < ((i + j) / 2).toNat by omega) (by omega)
          omega
      · dsimp only; omega
    · have m1 : i ≤ (i + j) / 2 := by omega
      have m2 : (i + j) / 2 < j := by omega
      refine q_again (i,(i + j) / 2) [] (by exact stk) ?_ ?_
      · dsimp only
        refine ⟨by omega,by omega,by omega,h3,fun k hk h => ?_⟩
        have e : ¬ l[((i + j) / 2).toNat]'(by omega) < x := hc
        by_cases ek : k = ((i + j) / 2).toNat
        · subst ek; omega
        · have := rises_lt hr (show ((i + j) / 2).toNat < k by omega) h
          omega
      · dsimp only; omega
    · have e1 := lob_at h0 (by omega) h3 (fun k hk h => h4 k (by omega) h)
      have e2 : x ∈ l := by rw [← hc]; exact List.getElem_mem _
      repeat refine cr ?_
      refine ends_id ?_
      refine endK [] (h2 := ?_) (h3 := ?_) (nd := ?_)
      all_goals (repeat' first|exact ce0|refine ce ?_|refine ce2 ?_ ?_|exact SVLe.refl|refine ceb ?_)
      all_goals first | exact (show nodupB _ = true from rfl) | exact Or.inr rfl | ((first | (rw [e1]; done) | (rw [decide_eq_true e2]; done)))
    · have e1 := lob_at h0 (by omega) h3 (fun k hk h => h4 k (by omega) h)
      have e2 : ¬ x ∈ l := by
        intro hm
        obtain ⟨k,hk,rfl⟩ := List.getElem_of_mem hm
        by_cases h5 : (k : Int) < i
        · have := h3 k h5 hk; omega
        · by_cases ek : k = i.toNat
          · subst ek; exact hc rfl
          · have := rises_lt hr (show i.toNat < k by omega) hk
            have := h4 i.toNat (by omega) (by omega)
            omega
      repeat refine cr ?_
      refine ends_id ?_
      refine endK [] (h2 := ?_) (h3 := ?_) (nd := ?_)
      all_goals (repeat' first|exact ce0|refine ce ?_|refine ce2 ?_ ?_|exact SVLe.refl|refine ceb ?_)
      all_goals first | exact (show nodupB _ = true from rfl) | exact Or.inr rfl | ((first | (rw [e1]; done) | (rw [decide_eq_false e2]; done)))
    · have e1 := lob_at h0 (by omega) h3 (fun k hk h => h4 k (by omega) h)
      have e2 : ¬ x ∈ l := by
        intro hm
        obtain ⟨k,hk,rfl⟩ := List.getElem_of_mem hm
        have := h3 k (by omega) hk
        omega
      repeat refine cr ?_
      refine ends_id ?_
      refine endK [] (h2 := ?_) (h3 := ?_) (nd := ?_)
      all_goals (repeat' first|exact ce0|refine ce ?_|refine ce2 ?_ ?_|exact SVLe.refl|refine ceb ?_)
      all_goals first | exact (show nodupB _ = true from rfl) | exact Or.inr rfl | ((first | (rw [e1]; done) | (rw [decide_eq_false e2]; done)))
theorem vTag_r {t : Tg} (h : vTag t = true) : risesL t.ha = true := by
  unfold vTag at h
  simp only [Bool.and_eq_true] at h
  exact h.1.2.1
theorem preB46_2 {p : Prop} (h : p := by first | with_reducible assumption | omega | (simp only [List.length_append,List.length_cons,List.length_nil,List.length_set,List.length_replicate,List.length_take,List.length_drop,List.length_tail,List.length_dropLast,List.length_reverse] at *; omega) | exact mem_len (by assumption) (by omega) | (with_reducible refine Int.le_trans (Int.ofNat_le.2 (trimR_len _)) ?_; simp only [List.length_cons,List.length_tail]; omega) | (exact (ruAt_ok (by assumption) (by assumption) (by assumption)).2.1) | (exact (ruAt_ok (by assumption) (by assumption) (by assumption)).2.1) | (have := vMach_bd (by assumption); omega) | (simp only [mC_ch,mC_tu]; omega) | (have := vTag_bd (by assumption); omega) | (have := (‹Gd _ _›).le; omega) | (exact tgHalts_no (by assumption)) | (exact tgHead (by assumption) (by assumption) (by assumption)) | (exact Int.le_trans (tgStep_gd (by assumption) (by assumption) (by assumption) (by assumption)).le (by decide)) | (with_reducible refine Int.le_trans (Int.ofNat_le.2 (pushL_len _ _)) ?_; simp only [List.length_dropLast]; omega) | exact (ask_ok (by assumption)).1 | exact (ask_ok (by assumption)).2.1 | exact (ask_ok (by assumption)).2.2.1 | exact (ask_ok (by assumption)).2.2.2 | (exact vTag_r (by assumption)) | trivial) : p := h
theorem tagHalts_ok (t : Tg) (q : List Int) (hv : vTag t = true) (hq : (q.length : Int) ≤ 1048576) (hx : (t.ha.length : Int) ≤ 1048576) : Does Tryz.prog 453 [.one (.gv 0)] [.bx (tgR t 1),.row 1 (rows eI q)] (.one (boo (tgHalts t q))) [.bx (tgR t 1),.row 1 (rows eI q)] := by
  have hb := vTag_bd hv
  refine does_of (k := 2) Tryz.func453 rfl Tryz.ntmps453 rfl rfl fun w F0 S0 ρ0 => ?_
  dsimp only [argT,argH]
  repeat' first|(apply p3;exact pu1;exact rfl)|refine cd ?_|(apply g_drN (id := 1) okM [[],[0],[0,1],[0,1,2],[0,1,2,3],[],[5],[5,6],[5,6,7],[5,6,7,8],[0,1,2,3,4,5,6,7,8,9]] [([],[]),([],[]),([],[]),([],[]),([],[]),([],[]),([],[]),([],[]),([],[]),([],[]),([],[])] 0;(focus (refine dp 0 0 [10,11,12,13,14] [] pu1 ?_;refine dp 1 1 [10,11,12,13,14] [] (a_pure (sv := .one _) rfl) ?_;refine dp 2 3 [10,11,12,13,14] [] (a_pure (sv := .one _) rfl) ?_;refine dp 3 7 [10,11,12,13,14] [] puL ?_;refine dp 4 15 [10,11,12,13,14] [] (callD1 (n := _) 0 (θ := []) (hD := (sizeI_ok _ preB46_2))) ?_;refine dp 5 0 [5,6,7,8,9] [] pu1 ?_;refine dp 6 1 [5,6,7,8,9] [] (a_pure (sv := .one _) rfl) ?_;refine dp 7 3 [5,6,7,8,9] [] (a_pure (sv := .one _) rfl) ?_;refine dp 8 7 [5,6,7,8,9] [] (a_pure (sv := .one _) rfl) ?_;refine dp 9 15 [5,6,7,8,9] [] puL ?_;refine dp 10 1023 [] [] puC ?_;(refine d_nil ?_;refine dN ?_)));any_goals kernel_rfl)|(apply g_drN (id := 3) okM [[],[0],[0,1],[0,1,2],[0,1,2,3],[],[5],[5,6],[5,6,7],[5,6,7,8],[5,6,7,8,9],[0,1,2,3,4,5,6,7,8,9,10],[0,1,2,3,4,5,6,7,8,9,10,11],[0,1,2,3,4,5,6,7,8,9,10,11,12],[0,1,2,3,4,5,6,7,8,9,10,11,12],[0,1,2,3,4,5,6,7,8,9,10,11,12,13],[0,1,2,3,4,5,6,7,8,9,10,11,12,13,14,15]] [([],[]),([],[]),([],[]),([],[]),([],[]),([],[]),([],[]),([],[]),([],[]),([],[]),([],[]),([],[]),([],[]),([],[]),([],[]),([],[]),([],[])] 0;(focus (refine dp 0 0 [22,23,24,25,26,27] [] pu1 ?_;refine dp 1 1 [22,23,24,25,26,27] [] (a_pure (sv := .one _) rfl) ?_;refine dp 2 3 [22,23,24,25,26,27] [] (a_pure (sv := .one _) rfl) ?_;refine dp 3 7 [22,23,24,25,26,27] [] (a_pure (sv := .one _) rfl) ?_;refine dp 4 15 [22,23,24,25,26,27] [] puL ?_;refine dp 5 0 [17,18,19,20,21] [] pu1 ?_;refine dp 6 1 [17,18,19,20,21] [] (a_pure (sv := .one _) rfl) ?_;refine dp 7 3 [17,18,19,20,21] [] (a_pure (sv := .one _) rfl) ?_;refine dp 8 7 [17,18,19,20,21] [] puL ?_;refine dp 9 15 [17,18,19,20,21] [] puI ?_;refine dp 10 31 [17,18,19,20,21] [] puL ?_;refine dp 11 2047 [] [] (callD1 (n := _) 0 (θ := []) (hD := (BinarySearch_ok _ _ preB46_2 preB46_2))) ?_;refine dp 12 4095 [] [] pu1 ?_;refine dp 13 8191 [30] [] pu2 ?_;refine dp 14 16382 [29,3] [] pu2 ?_;refine dp 15 32766 [30] [] pu1 ?_;refine dp 16 65535 [] [] pu1 ?_;(refine d_nil ?_;refine dN ?_)));any_goals kernel_rfl)|((refine g_cond rfl (fun hc => ?_) (fun hc => ?_)) <;> (try simp only [dcB] at hc) <;> (try first|contradiction|(exfalso;omega)))
  · repeat refine cr ?_
    refine ends_id ?_
    refine endK [] (h2 := ?_) (h3 := ?_) (nd := ?_)
    all_goals (repeat' first|exact ce0|refine ce ?_|refine ce2 ?_ ?_|(refine Or.inr (bx_eq rfl rfl ?_);(try dsimp only [C.ren,C.ren.all]);(try exact rfl))|exact SVLe.refl|refine ceb ?_)
    all_goals first | exact (show nodupB _ = true from rfl) | exact Or.inr rfl | ((unfold tgHalts; simp_all))
  · repeat refine cr ?_
    refine ends_id ?_
    refine endK [] (h2 := ?_) (h3 := ?_) (nd := ?_)
    all_goals (repeat' first|exact ce0|refine ce ?_|refine ce2 ?_ ?_|(refine Or.inr (bx_eq rfl rfl ?_);(try dsimp only [C.ren,C.ren.all]);(try exact rfl))|exact SVLe.refl|refine ceb ?_)
    all_goals first | exact (show nodupB _ = true from rfl) | exact Or.inr rfl | ((unfold tgHalts; rw [← get0_headD (by show 0 < q.length; omega)]; simp_all))
theorem tagStep_ok (t : Tg) (q : List Int) (hv : vTag t = true) (h0 : t.de ≤ (q.length : Int)) (hi : 0 ≤ q.headD 0 ∧ q.headD 0 < t.wo.length) (hq : (q.length : Int) ≤ 1048576) (hx : (t.ha.length : Int) ≤ 1048576) : Does Tryz.prog 454 [.one (.gv 0)] [.bx (tgR t 1),.row 1 (rows eI q)] (.one (boo (!tgOver t q))) [.bx (tgR t 2),.dead,.row 1 (rows eI (tgStep t q))] := by
  have hb := vTag_bd hv
  have hq : Int.toNat 0 < q.length := by show 0 < q.length; omega
  have e := get0_headD hq
  rw [← e] at hi
  have h1 := (vTag_w hv (List.getElem_mem (show (q[Int.toNat 0]'hq).toNat < t.wo.length by omega))).1
  have h2 : ((q ++ t.wo[(q[Int.toNat 0]'hq).toNat]).length : Int) = q.length + (t.wo[(q[Int.toNat 0]'hq).toNat]).length := by simp
  have h3 : tgOut t q = q ++ t.wo[(q[Int.toNat 0]'hq).toNat] := by unfold tgOut; rw [← e,List.getD_eq_getElem?_getD,List.getElem?_eq_getElem (by omega)]; rfl
  refine does_of (k := 2) Tryz.func454 rfl Tryz.ntmps454 rfl rfl fun w F0 S0 ρ0 => ?_
  dsimp only [argT,argH]
  repeat' first|(apply p3;(first|exact pu1|exact puN|exact puC);exact rfl)|refine cd ?_|(apply g_drN (id := 1) okM [[],[],[1],[1,2],[1,2,3],[],[5],[5,6],[5,6,7],[5,6,7,8],[],[10],[10,11],[10,11,12],[10,11,12,13],[10,11,12,13,14],[5,6,7,8,9,10,11,12,13,14,15],[5,6,7,8,9,10,11,12,13,14,15,16],[1,2,3,4,5,6,7,8,9,10,11,12,13,14,15,16,17],[0,1,2,3,4,5,6,7,8,9,10,11,12,13,14,15,16,17,18],[0,1,2,3,4,5,6,7,8,9,10,11,12,13,14,15,16,17,18,19],[0,1,2,3,4,5,6,7,8,9,10,11,12,13,14,15,16,17,18,19,20]] [([],[]),([],[]),([],[]),([],[]),([],[]),([],[]),([],[]),([],[]),([],[]),([],[]),([],[]),([],[]),([],[]),([],[]),([],[]),([],[]),([],[]),([],[]),([0],[1]),([],[]),([],[]),([],[0])] 1;(focus (refine dp 0 0 [5,6,7,8,9,10,11,12,13,14,15,16,17,18,19,20,21,22] [(true,0),(false,1)] pu1 ?_;refine dp 1 0 [4,9,10,11,12,13,14,15,16,17,18,19,20,21] [] pu1 ?_;refine dp 2 1 [4,9,10,11,12,13,14,15,16,17,18,19,20,21] [] (a_pure (sv := .one _) rfl) ?_;refine dp 3 3 [4,9,10,11,12,13,14,15,16,17,18,19,20,21] [] (a_pure (sv := .one _) rfl) ?_;refine dp 4 7 [4,9,10,11,12,13,14,15,16,17,18,19,20,21] [] puL ?_;refine dp 5 0 [4,5,6,7,8,14,15,16,17,18,19] [] pu1 ?_;refine dp 6 1 [4,5,6,7,8,14,15,16,17,18,19] [] (a_pure (sv := .one _) rfl) ?_;refine dp 7 3 [4,5,6,7,8,14,15,16,17,18,19] [] (a_pure (sv := .one _) rfl) ?_;refine dp 8 7 [4,5,6,7,8,14,15,16,17,18,19] [] (a_pure (sv := .one _) rfl) ?_;refine dp 9 15 [4,5,6,7,8,14,15,16,17,18,19] [] puL ?_;refine dp 10 0 [4,5,6,7,8,9,10,11,12,13] [] pu1 ?_;refine dp 11 1 [4,5,6,7,8,9,10,11,12,13] [] (a_pure (sv := .one _) rfl) ?_;refine dp 12 3 [4,5,6,7,8,9,10,11,12,13] [] (a_pure (sv := .one _) rfl) ?_;refine dp 13 7 [4,5,6,7,8,9,10,11,12,13] [] puL ?_;refine dp 14 15 [4,5,6,7,8,9,10,11,12,13] [] puI ?_;refine dp 15 31 [4,5,6,7,8,9,10,11,12,13] [] puL ?_;refine dp 16 2047 [4,5,6,7,8] [] puI ?_;refine dp 17 4095 [4,5,6,7,8] [] puL ?_;refine duE 18 131071 [4] [] (atS 0 (fun _ hj => a_appE (fP rfl) rfl rfl rfl rfl nowR (by omega) (by decide) hj (by exact rfl)) (by decide)) (by exact rfl) (by exact rfl) ?_;refine dp 19 524287 [] [] (a_pure (sv := .one _) rfl) ?_;refine dp 20 1048575 [] [] (a_pure (sv := .one _) rfl) ?_;refine duE 21 2097151 [] [] (by exact a_st_bx rfl rfl rfl rfl (fN rfl rfl) (Nat.le_of_ble_eq_true rfl) rfl) (by exact rfl) (by exact rfl) ?_;(refine d_nil ?_;refine dN ?_)));any_goals kernel_rfl)|(apply g_drN (id := 3) okM [[],[],[1],[1,2],[1,2,3],[],[5],[5,6],[5,6,7],[5,6,7,8],[1,2,3,4,5,6,7,8,9],[0,1,2,3,4,5,6,7,8,9,10],[0,1,2,3,4,5,6,7,8,9,10,11],[0,1,2,3,4,5,6,7,8,9,10,11,12]] [([],[]),([],[]),([],[]),([],[]),([],[]),([],[]),([],[]),([],[]),([],[]),([],[]),([0],[2]),([],[]),([],[]),([],[0])] 1;(focus (refine dp 0 0 [32,33,34,35,36,37,38,39,40,41] [(true,0),(false,2)] pu1 ?_;refine dp 1 0 [31,36,37,38,39,40] [] pu1 ?_;refine dp 2 1 [31,36,37,38,39,40] [] (a_pure (sv := .one _) rfl) ?_;refine dp 3 3 [31,36,37,38,39,40] [] (a_pure (sv := .one _) rfl) ?_;refine dp 4 7 [31,36,37,38,39,40] [] puL ?_;refine dp 5 0 [31,32,33,34,35] [] pu1 ?_;refine dp 6 1 [31,32,33,34,35] [] (a_pure (sv := .one _) rfl) ?_;refine dp 7 3 [31,32,33,34,35] [] (a_pure (sv := .one _) rfl) ?_;refine dp 8 7 [31,32,33,34,35] [] (a_pure (sv := .one _) rfl) ?_;refine dp 9 15 [31,32,33,34,35] [] puL ?_;refine duE 10 511 [31] [] (atS 0 (fun _ hj => a_slTO rfl rfl rfl (fS rfl) (by omega) (by omega) (by exact rfl) hj) (by decide)) (by exact rfl) (by exact rfl) ?_;refine dp 11 2047 [] [] (a_pure (sv := .one _) rfl) ?_;refine dp 12 4095 [] [] (a_pure (sv := .one _) rfl) ?_;refine duE 13 8191 [] [] (by exact a_st_bx rfl rfl rfl rfl (fN rfl rfl) (Nat.le_of_ble_eq_true rfl) rfl) (by exact rfl) (by exact rfl) ?_;(refine d_nil ?_;refine dN ?_)));any_goals kernel_rfl)
  repeat refine cr ?_
  refine ends_id ?_
  refine endK [?_] (h2 := ?_) (h3 := ?_) (nd := ?_)
  rotate_left 1
  all_goals (repeat' first|exact ce0|refine ce ?_|refine ce2 ?_ ?_|(refine Or.inr (bx_eq rfl rfl ?_);(try dsimp only [C.ren,C.ren.all]);(try exact rfl))|exact SVLe.refl|refine ceb ?_)
  all_goals first | exact (show nodupB _ = true from rfl) | exact Or.inr rfl | ((first | (unfold tgStep; rw [h3]; done) | (rw [tgOver,h3,Bool.not_not]; done)))
end Go.Proofs.YtbblkhjjgnpbaaaGreatDoor
end
section
set_option linter.unusedVariables false
set_option linter.unusedSimpArgs false
set_option maxRecDepth 100000
set_option maxHeartbeats 4000000
namespace Go.Proofs.YtbblkhjjgnpbaaaGreatDoor
open Go Foot
def trR (t : Tg) : Nat → List (List Int) → List Int → (Int × Bool × Int) × List (List Int)
  | 0,l,w => (((l.length : Int),tgHalts t w,0),l ++ [w])
  | k + 1,l,w => bif tgHalts t w then (((l.length : Int),true,0),l ++ [w]) else bif tgOver t w then ((0,false,5),l ++ [w]) else trR t k (l ++ [w]) (tgStep t w)
theorem trR_0 {t : Tg} {l : List (List Int)} {w : List Int} : trR t 0 l w = (((l.length : Int),tgHalts t w,0),l ++ [w]) := by rw [trR]
theorem trR_h {t : Tg} {k : Nat} {l : List (List Int)} {w : List Int} (h : tgHalts t w = true) : trR t k l w = (((l.length : Int),true,0),l ++ [w]) := by
  cases k with
  | zero => rw [trR,h]
  | succ k => rw [trR,h]; rfl
theorem trR_o {t : Tg} {k : Nat} {l : List (List Int)} {w : List Int} (h : tgHalts t w = false) (o : tgOver t w = true) : trR t (k + 1) l w = ((0,false,5),l ++ [w]) := by
  rw [trR,h,o]; rfl
theorem trR_s {t : Tg} {k : Nat} {l : List (List Int)} {w : List Int} (h : tgHalts t w = false) (o : tgOver t w = false) : trR t (k + 1) l w = trR t k (l ++ [w]) (tgStep t w) := by
  rw [trR,h,o]; rfl
theorem trR_gd {t : Tg} (hv : vTag t = true) : ∀ (k : Nat) (l : List (List Int)) (w : List Int),(∀ y ∈ l,Gd t y) → Gd t w → (∀ y ∈ (trR t k l w).2,Gd t y) ∧ ((trR t k l w).2).length ≤ l.length + k + 1
  | 0,l,w,hl,hw => by
    rw [trR_0]
    refine ⟨fun y hy => ?_,by simp⟩
    rcases List.mem_append.1 hy with h | h
    · exact hl y h
    · simp at h; subst h; exact hw
  | k + 1,l,w,hl,hw => by
    have h2 : ∀ y ∈ l ++ [w],Gd t y := fun y hy => by
      rcases List.mem_append.1 hy with h | h
      · exact hl y h
      · simp at h; subst h; exact hw
    cases h : tgHalts t w with
    | true => rw [trR_h h]; exact ⟨h2,by simp only [List.length_append,List.length_cons,List.length_nil]; omega⟩
    | false =>
      cases o : tgOver t w with
      | true => rw [trR_o h o]; exact ⟨h2,by simp only [List.length_append,List.length_cons,List.length_nil]; omega⟩
      | false =>
        rw [trR_s h o]
        have := trR_gd hv k _ _ h2 (tgStep_gd hv hw h o)
        simp only [List.length_append,List.length_cons,List.length_nil] at this
        exact ⟨this.1,by omega⟩
end Go.Proofs.YtbblkhjjgnpbaaaGreatDoor
end
section
set_option linter.unusedVariables false
set_option linter.unusedSimpArgs false
set_option maxRecDepth 100000
set_option maxHeartbeats 4000000
namespace Go.Proofs.YtbblkhjjgnpbaaaGreatDoor
open Go Foot
def NoOv (t : Tg) : Nat → List Int → Prop
  | 0,_ => True
  | k + 1,w => tgHalts t w = true ∨ (tgHalts t w = false ∧ tgOver t w = false ∧ NoOv t k (tgStep t w))
def rnT (t : Tg) : Nat → List Int → List Int × Nat × Bool
  | 0,w => (w,0,tgHalts t w)
  | k + 1,w => bif tgHalts t w then (w,0,true) else ((rnT t k (tgStep t w)).1,(rnT t k (tgStep t w)).2.1 + 1,(rnT t k (tgStep t w)).2.2)
def wdL (t : Tg) : Nat → List Int → List (List Int)
  | 0,w => [w]
  | k + 1,w => bif tgHalts t w then [w] else w :: wdL t k (tgStep t w)
theorem rnT_h {t : Tg} {k : Nat} {w : List Int} (h : tgHalts t w = true) : rnT t k w = (w,0,true) := by
  cases k with
  | zero => rw [rnT,h]
  | succ k => rw [rnT,h]; rfl
theorem rnT_s {t : Tg} {k : Nat} {w : List Int} (h : tgHalts t w = false) : rnT t (k + 1) w = ((rnT t k (tgStep t w)).1,(rnT t k (tgStep t w)).2.1 + 1,(rnT t k (tgStep t w)).2.2) := by
  rw [rnT,h]; rfl
theorem wdL_h {t : Tg} {k : Nat} {w : List Int} (h : tgHalts t w = true) : wdL t k w = [w] := by
  cases k with
  | zero => rw [wdL]
  | succ k => rw [wdL,h]; rfl
theorem wdL_s {t : Tg} {k : Nat} {w : List Int} (h : tgHalts t w = false) : wdL t (k + 1) w = w :: wdL t k (tgStep t w) := by
  rw [wdL,h]; rfl
theorem trR_run {t : Tg} : ∀ (k : Nat) (l : List (List Int)) (w : List Int),NoOv t k w → trR t k l w = (((l.length : Int) + ((rnT t k w).2.1 : Nat),(rnT t k w).2.2,0),l ++ wdL t k w)
  | 0,l,w,_ => by rw [trR_0,rnT,wdL]; simp
  | k + 1,l,w,h => by
    rcases h with h | ⟨h,o,hn⟩
    · rw [trR_h h,rnT_h h,wdL_h h]; simp
    · rw [trR_s h o,trR_run k _ _ hn,rnT_s h,wdL_s h]
      simp only [List.length_append,List.length_cons,List.length_nil,List.append_assoc,List.cons_append,List.nil_append,Prod.mk.injEq,and_true]
      omega
theorem wdL_len {t : Tg} : ∀ (k : Nat) (w : List Int),(wdL t k w).length = (rnT t k w).2.1 + 1
  | 0,w => by rw [wdL,rnT]; rfl
  | k + 1,w => by
    cases h : tgHalts t w with
    | true => rw [wdL_h h,rnT_h h]; rfl
    | false => rw [wdL_s h,rnT_s h,List.length_cons,wdL_len k]
theorem wdL_last {t : Tg} : ∀ (k : Nat) (w : List Int),(wdL t k w)[(rnT t k w).2.1]? = some (rnT t k w).1
  | 0,w => by rw [wdL,rnT]; rfl
  | k + 1,w => by
    cases h : tgHalts t w with
    | true => rw [wdL_h h,rnT_h h]; rfl
    | false =>
      rw [wdL_s h,rnT_s h]
      simp only [List.getElem?_cons_succ]
      exact wdL_last k _
theorem rnT_le {t : Tg} : ∀ (k : Nat) (w : List Int),(rnT t k w).2.1 ≤ k
  | 0,w => by rw [rnT]; exact Nat.le_refl 0
  | k + 1,w => by
    cases h : tgHalts t w with
    | true => rw [rnT_h h]; exact Nat.zero_le _
    | false => rw [rnT_s h]; have := rnT_le (t := t) k (tgStep t w); simp only; omega
theorem rnT_add {t : Tg} (b : Nat) : ∀ (a : Nat) (w : List Int),rnT t (a + b) w = ((rnT t b (rnT t a w).1).1,(rnT t a w).2.1 + (rnT t b (rnT t a w).1).2.1,(rnT t b (rnT t a w).1).2.2)
  | 0,w => by rw [rnT,Nat.zero_add]; simp
  | a + 1,w => by
    rw [show a + 1 + b = (a + b) + 1 by omega]
    cases h : tgHalts t w with
    | true => simp only [rnT_h h,Nat.add_zero]
    | false =>
      rw [rnT_s h,rnT_s h,rnT_add b a]
      simp only [Prod.mk.injEq,true_and,and_true]
      omega
theorem noOv_add {t : Tg} (b : Nat) : ∀ (a : Nat) (w : List Int),NoOv t (a + b) w → NoOv t a w ∧ NoOv t b (rnT t a w).1
  | 0,w,h => by rw [rnT]; rw [Nat.zero_add] at h; exact ⟨trivial,h⟩
  | a + 1,w,h => by
    rw [show a + 1 + b = (a + b) + 1 by omega] at h
    rcases h with h | ⟨h,o,hn⟩
    · refine ⟨.inl h,?_⟩
      rw [rnT_h h]
      cases b with
      | zero => trivial
      | succ b => exact .inl h
    · have := noOv_add b a _ hn
      rw [rnT_s h]
      exact ⟨.inr ⟨h,o,this.1⟩,this.2⟩
theorem wdL_gd {t : Tg} (hv : vTag t = true) {k : Nat} {w : List Int} (h : NoOv t k w) (hg : Gd t w) : ∀ y ∈ wdL t k w,Gd t y := by
  have := (trR_gd hv k [] w (fun y hy => by cases hy) hg).1
  rw [trR_run k [] w h] at this
  simpa using this
theorem rnT_gd {t : Tg} (hv : vTag t = true) {k : Nat} {w : List Int} (h : NoOv t k w) (hg : Gd t w) : Gd t (rnT t k w).1 := by
  have := wdL_gd hv h hg
  have h2 := wdL_last (t := t) k w
  exact this _ (List.mem_of_getElem? h2)
theorem noOv_small {t : Tg} (hv : vTag t = true) (h3 : ∀ x ∈ t.wo,x.length ≤ 3) : ∀ (k : Nat) (w : List Int),Gd t w → w.length + 3 * k ≤ 1000 → NoOv t k w
  | 0,_,_,_ => trivial
  | k + 1,w,hg,hl => by
    cases h : tgHalts t w with
    | true => exact .inl h
    | false =>
      obtain ⟨h1,h2⟩ := tgHead hv hg h
      have hlt : (w.headD 0).toNat < t.wo.length := by omega
      have hout : tgOut t w = w ++ t.wo[(w.headD 0).toNat] := by unfold tgOut; rw [List.getD_eq_getElem?_getD,List.getElem?_eq_getElem hlt]; rfl
      have hle := h3 _ (List.getElem_mem hlt)
      have o : tgOver t w = false := by
        unfold tgOver
        rw [hout]
        simp only [List.length_append,Bool.not_eq_false',decide_eq_true_eq]
        omega
      have hst : (tgStep t w).length ≤ w.length + 3 := by
        unfold tgStep
        rw [hout,List.length_drop,List.length_append]
        omega
      exact .inr ⟨h,o,noOv_small hv h3 k _ (tgStep_gd hv hg h o) (by omega)⟩
def lstL (m : Int) : List (List Int) → Int
  | [] => m
  | w :: l => lstL (min m w.length) l
def mstL (m : Int) : List (List Int) → Int
  | [] => m
  | w :: l => mstL (max m w.length) l
theorem lstL_snoc (w : List Int) : ∀ (l : List (List Int)) (m : Int),lstL m (l ++ [w]) = min (lstL m l) w.length
  | [],m => rfl
  | x :: l,m => by rw [List.cons_append,lstL,lstL_snoc w l]; rfl
theorem mstL_snoc (w : List Int) : ∀ (l : List (List Int)) (m : Int),mstL m (l ++ [w]) = max (mstL m l) w.length
  | [],m => rfl
  | x :: l,m => by rw [List.cons_append,mstL,mstL_snoc w l]; rfl
theorem lstL_le : ∀ (l : List (List Int)) (m : Int),lstL m l ≤ m ∧ ∀ w ∈ l,lstL m l ≤ w.length
  | [],m => ⟨Int.le_refl _,fun w hw => by cases hw⟩
  | x :: l,m => by
    obtain ⟨h1,h2⟩ := lstL_le l (min m x.length)
    rw [lstL]
    refine ⟨by omega,fun w hw => ?_⟩
    rcases List.mem_cons.1 hw with rfl | hw
    · omega
    · exact h2 w hw
theorem mstL_ge : ∀ (l : List (List Int)) (m : Int),m ≤ mstL m l ∧ ∀ w ∈ l,(w.length : Int) ≤ mstL m l
  | [],m => ⟨Int.le_refl _,fun w hw => by cases hw⟩
  | x :: l,m => by
    obtain ⟨h1,h2⟩ := mstL_ge l (max m x.length)
    rw [mstL]
    refine ⟨by omega,fun w hw => ?_⟩
    rcases List.mem_cons.1 hw with rfl | hw
    · omega
    · exact h2 w hw
end Go.Proofs.YtbblkhjjgnpbaaaGreatDoor
end
section
set_option linter.unusedVariables false
set_option linter.unusedSimpArgs false
set_option maxRecDepth 100000
set_option maxHeartbeats 1000000
namespace Go.Proofs.YtbblkhjjgnpbaaaGreatDoor
open Go Foot
theorem noOv_s {t : Tg} {k : Nat} {w : List Int} (h : NoOv t (k + 1) w) (hh : tgHalts t w = false) : tgOver t w = false ∧ NoOv t k (tgStep t w) := by
  rcases h with q | ⟨_,o,n⟩
  · rw [hh] at q; cases q
  · exact ⟨o,n⟩
theorem preB159 {p : Prop} (h : p := by first | with_reducible assumption | omega | (simp only [List.length_append,List.length_cons,List.length_nil,List.length_set,List.length_replicate,List.length_take,List.length_drop,List.length_tail,List.length_dropLast,List.length_reverse] at *; omega) | exact mem_len (by assumption) (by omega) | (with_reducible refine Int.le_trans (Int.ofNat_le.2 (trimR_len _)) ?_; simp only [List.length_cons,List.length_tail]; omega) | (exact (ruAt_ok (by assumption) (by assumption) (by assumption)).2.1) | (exact (ruAt_ok (by assumption) (by assumption) (by assumption)).2.1) | (have := vMach_bd (by assumption); omega) | (simp only [mC_ch,mC_tu]; omega) | (have := vTag_bd (by assumption); omega) | (have := (‹Gd _ _›).le; omega) | (exact tgHalts_no (by assumption)) | (exact tgHead (by assumption) (by assumption) (by assumption)) | (exact Int.le_trans (tgStep_gd (by assumption) (by assumption) (by assumption) (by assumption)).le (by decide)) | (exact vTag_r (by assumption)) | (with_reducible refine Int.le_trans (Int.ofNat_le.2 (pushL_len _ _)) ?_; simp only [List.length_dropLast]; omega) | exact ls_at (by assumption) (by omega) | exact pt_gd (by assumption) | exact lv_at (by assumption) (by omega) | exact pt_gd (lv_at (by assumption) (by omega)) | exact (ask_ok (by assumption)).1 | exact (ask_ok (by assumption)).2.1 | exact (ask_ok (by assumption)).2.2.1 | exact (ask_ok (by assumption)).2.2.2 | trivial) : p := h
theorem all_ok (u : List Int) : Does Tryz.prog 97 [.one (shI u)] [] (.one (boo true)) [] := by
  refine does_of (k := 0) Tryz.func97 rfl Tryz.ntmps97 rfl rfl fun w F0 S0 ρ0 => ?_
  dsimp only [argT,argH]
  repeat' first|(apply p3;exact a_pure (sv := .one _) rfl;exact rfl)|refine cd ?_
  repeat refine cr ?_
  refine ends_id ?_
  refine endK [] (h2 := ?_) (h3 := ?_) (nd := ?_)
  all_goals (repeat' first|exact ce0|refine ce ?_|refine ce2 ?_ ?_|exact SVLe.refl|refine ceb ?_)
  all_goals first | exact (show nodupB _ = true from rfl) | exact Or.inr rfl | (rfl)
theorem runSysA_ok (t : Tg) (q : List Int) (B : Int) (hv : vTag t = true) (hg : Gd t q) (hx : (t.ha.length : Int) ≤ 1048576) (h1 : 0 ≤ B) (h2 : B ≤ 20000) (hn : NoOv t B.toNat q) : Does Tryz.prog 92 [.one (.ifc 144 false [.gv 0]),.one (int B),.one (.d (.fn (.func 97) []))] [.bx (tgR t 1),.row 1 (rows eI q)] (.tup [(false,[int ((rnT t B.toNat q).2.1 : Nat)]),(false,[boo (rnT t B.toNat q).2.2]),(false,[int 0])]) [.bx (tgR t 2),.dead,.row 1 (rows eI (rnT t B.toNat q).1)] := by
  have hb := vTag_bd hv
  refine does_of (k := 2) Tryz.func92 rfl Tryz.ntmps92 rfl rfl fun w F0 S0 ρ0 => ?_
  dsimp only [argT,argH]
  refine g_conv (t_mvB (i := 1) (j := 0) (k := 3) rfl rfl rfl rfl rfl rfl) ?_
  try dsimp only [setRow,List.map_cons,List.map_nil,scC,List.set_cons_zero,List.set_cons_succ]
  repeat' first|(apply p3;(exact pu1);exact rfl)|refine cd ?_
  refine g_loop_id ?_
  refine loopK [0,1,2,6,7,8] [0,2] (fun x : Int × List Int => 0 ≤ x.1 ∧ x.1 ≤ B ∧ Gd t x.2 ∧ NoOv t (B - x.1).toNat x.2 ∧ rnT t B.toNat q = ((rnT t (B - x.1).toNat x.2).1,x.1.toNat + (rnT t (B - x.1).toNat x.2).2.1,(rnT t (B - x.1).toNat x.2).2.2)) (fun x => [(9,.one (int x.1))]) (fun x => [(0,.bx (tgR t 2)),(2,.row 1 (rows eI x.2))]) (fun x => (B - x.1).toNat) ((0 : Int),q) [0,1,2] (hI := ?_) (hr := ?_)
  · exact ⟨by simp,by simp; omega,hg,by simpa using hn,by simp⟩
  · rintro ⟨n,w⟩ ⟨k0,k1,k2,k3,k4⟩
    dsimp only [List.cons_append,List.nil_append] at *
    try dsimp only [tgR]
    skip
    have kl := k2.le
    repeat' first|(apply p3;(first|exact pu1|exact a_add rfl rfl (by omega) (by omega));exact rfl)|refine cd ?_|(apply c4 0;exact callM0 (dst := some 14) (θ := [0,2]) (hD := (tagWord_ok t _));exact rfl;exact rfl;exact rfl;refine dM ?_)|(apply c4 0;exact callK1 (θ := []) (hD := (all_ok _));exact rfl;exact rfl;exact rfl;refine dM ?_)|(apply c4 0;exact callM0 (dst := some 28) (θ := [0,2]) (hD := (tagHalts_ok t _ hv preB159 preB159));exact rfl;exact rfl;exact rfl;refine dM ?_)|(apply c4 1;exact callM0 (dst := some 30) (θ := [0,2]) (hD := (tagStep_ok t _ hv preB159 preB159 preB159 preB159));exact rfl;exact rfl;exact rfl;refine dM ?_)|refine o_no rfl rfl rfl rfl ?_|(apply py3;exact rfl;exact rfl;(first|exact pu1|exact puC);exact rfl;exact rfl)|(apply cy4 0;exact rfl;exact rfl;exact callM0 (dst := some 24) (θ := [0,2]) (hD := (tagHalts_ok t _ hv preB159 preB159));exact rfl;exact rfl;exact rfl;exact rfl;refine dM ?_)|((first|refine o_gs rfl rfl (fun hc => ?_) (fun hc => ?_)|refine g_cond rfl (fun hc => ?_) (fun hc => ?_)) <;> (try simp only [dcB] at hc) <;> (try first|contradiction|(exfalso;omega)))
    · have e : rnT t (B - n).toNat w = (w,0,tgHalts t w) := by rw [show (B - n).toNat = 0 by omega,rnT]
      rw [k4,e]
      repeat refine cr ?_
      refine ends_id ?_
      refine endK [?_] (h2 := ?_) (h3 := ?_) (nd := ?_)
      rotate_left 1
      all_goals (repeat' first|exact ce0|refine ce ?_|refine ce2 ?_ ?_|(refine Or.inr (bx_eq rfl rfl ?_);(try dsimp only [C.ren,C.ren.all]);(try exact rfl))|exact SVLe.refl|refine ceb ?_)
      all_goals first | exact (show nodupB _ = true from rfl) | exact Or.inr rfl | ((first | rfl | omega | (simp only [Nat.add_zero]; omega) | (simp; omega)))
    · have e : rnT t (B - n).toNat w = (w,0,true) := rnT_h hc
      rw [k4,e]
      simp only [hc]
      repeat refine cr ?_
      refine ends_id ?_
      refine endK [?_] (h2 := ?_) (h3 := ?_) (nd := ?_)
      rotate_left 1
      all_goals (repeat' first|exact ce0|refine ce ?_|refine ce2 ?_ ?_|(refine Or.inr (bx_eq rfl rfl ?_);(try dsimp only [C.ren,C.ren.all]);(try exact rfl))|exact SVLe.refl|refine ceb ?_)
      all_goals first | exact (show nodupB _ = true from rfl) | exact Or.inr rfl | ((first | rfl | omega | (simp only [Nat.add_zero]; omega) | (simp; omega)))
    · exfalso
      rw [show (B - n).toNat = (B - (n + 1)).toNat + 1 by omega] at k3
      have := (noOv_s k3 (by assumption)).1
      simp_all
    · have e0 : (B - n).toNat = (B - (n + 1)).toNat + 1 := by omega
      rw [e0] at k3 k4
      obtain ⟨o,no⟩ := noOv_s k3 (by assumption)
      refine q_again (n + 1,tgStep t w) [0,1,3] (by exact stk) ?_ ?_
      · dsimp only
        refine ⟨by omega,by omega,tgStep_gd hv k2 (by assumption) o,no,?_⟩
        rw [k4,rnT_s (by assumption)]
        simp only [Prod.mk.injEq,true_and,and_true]
        omega
      · dsimp only; omega
theorem trace1_ok (u : List Int) (l : List (List Int)) (hu : (u.length : Int) ≤ 1000) (hl : (l.length : Int) ≤ 100000) : Does Tryz.prog 94 [.one (.gv 2),.one (.gv 0)] [.bx [.gv 1],roW l,.row 1 (rows eI u)] (.one (boo true)) [.bx [.gv 3],.dead,.row 1 (rows eI u),roW (l ++ [u])] := by
  refine does_of (k := 3) Tryz.func94 rfl Tryz.ntmps94 rfl rfl fun w F0 S0 ρ0 => ?_
  dsimp only [argT,argH]
  repeat' first|(apply p3;exact a_pure (sv := .one _) rfl;exact rfl)|refine cd ?_|(apply g_drN (id := 1) okM [[],[],[1],[1,2],[0,1,2,3],[0,1,2,3,4]] [([],[]),([],[]),([],[]),([0],[]),([1],[_]),([],[0])] 2;(focus (refine dp 0 0 [5,6,7] [(true,0)] puL ?_;refine dp 1 0 [4] [] pu1 ?_;refine dp 2 1 [4] [] (callFD 0 (hD := (clone_ok _ preB159))) ?_;refine duE 3 3 [4] [] (atN 0 (fun _ => a_litE eW [_] rfl rfl rfl rfl rfl rfl rfl rfl)) (by exact rfl) (by exact rfl) ?_;refine duE 4 15 [] [] (atS 1 (fun _ hj => a_appE (fP rfl) rfl rfl rfl rfl nowR (by (simp;omega)) (by decide) hj (by exact rfl)) (by decide)) (by exact rfl) (by exact rfl) ?_;refine duE 5 31 [] [] (a_st_bx rfl rfl rfl rfl (fN rfl rfl) (Nat.le_of_ble_eq_true rfl) rfl) (by exact rfl) (by exact rfl) ?_;(refine d_nil ?_;refine dN ?_)));any_goals kernel_rfl)
  repeat refine cr ?_
  refine ends_id ?_
  refine endK [?_] (h2 := ?_) (h3 := ?_) (nd := ?_)
  rotate_left 1
  all_goals (repeat' first|exact ce0|refine ce ?_|refine ce2 ?_ ?_|(refine Or.inr (bx_eq rfl rfl ?_);(try dsimp only [C.ren,C.ren.all]);(try exact rfl))|exact SVLe.refl|refine ceb ?_)
  all_goals first | exact (show nodupB _ = true from rfl) | exact Or.inr rfl | (rfl)
theorem len1_ok (u : List Int) (a b : Int) (hu : (u.length : Int) ≤ 1000) : Does Tryz.prog 99 [.one (shI u),.one (.gv 0),.one (.gv 1)] [.bx [int a],.bx [int b]] (.one (boo true)) [.bx [int (min a u.length)],.bx [int (max b u.length)]] := by
  have e1 : min a (u.length : Int) = if (u.length : Int) < a then (u.length : Int) else a := by split <;> omega
  have e2 : max b (u.length : Int) = if (u.length : Int) > b then (u.length : Int) else b := by split <;> omega
  rw [e1,e2]
  refine does_of (k := 2) Tryz.func99 rfl Tryz.ntmps99 rfl rfl fun w F0 S0 ρ0 => ?_
  dsimp only [argT,argH]
  repeat' first|(apply p3;exact a_pure (sv := .one _) rfl;exact rfl)|refine cd ?_|(apply g_drN (id := 1) okM [[],[],[1],[0,1,2],[],[],[1,2,5],[1,2,4,5,6],[0,1,2,3,5,6],[0,1,2,3,4,5,6,7,8]] [([],[]),([],[]),([],[]),([],[]),([],[]),([],[]),([],[]),([],[]),([],[0]),([],[1])] 0;(focus (refine dp 0 0 [6,7,9,10,11,12] [] puL ?_;refine dp 1 0 [5,9,10] [] pu1 ?_;refine dp 2 1 [5,9,10] [] (by exact callD1 (n := _) 0 (θ := []) (hD := (sizeI_ok _ preB159))) ?_;refine dp 3 7 [9,10,11,12] [] (a_min rfl rfl) ?_;refine dp 4 0 [5,6,7,8,10,11] [(false,0)] puL ?_;refine dp 5 0 [5,6,7,8,9] [] pu1 ?_;refine dp 6 25 [5,8,9] [] (by exact callD1 (n := _) 0 (θ := []) (hD := (sizeI_ok _ preB159))) ?_;refine dp 7 55 [5,8] [(false,0)] (a_max rfl rfl) ?_;refine duE 8 246 [9,12] [] (by exact a_st_bx rfl rfl rfl rfl (fN rfl rfl) (Nat.le_of_ble_eq_true rfl) rfl) (by exact rfl) (by exact rfl) ?_;refine duE 9 511 [] [] (by exact a_st_bx rfl rfl rfl rfl (fN rfl rfl) (Nat.le_of_ble_eq_true rfl) rfl) (by exact rfl) (by exact rfl) ?_;(refine d_nil ?_;refine dN ?_)));any_goals kernel_rfl)
  repeat refine cr ?_
  refine ends_id ?_
  refine endK [] (h2 := ?_) (h3 := ?_) (nd := ?_)
  all_goals (repeat' first|exact ce0|refine ce ?_|refine ce2 ?_ ?_|(refine Or.inr (bx_eq rfl rfl ?_);(try dsimp only [C.ren,C.ren.all]);(try exact rfl))|exact SVLe.refl|refine ceb ?_)
  all_goals first | exact (show nodupB _ = true from rfl) | exact Or.inr rfl | (rfl)
theorem runSysT_ok (t : Tg) (q : List Int) (B : Int) (hv : vTag t = true) (hg : Gd t q) (hx : (t.ha.length : Int) ≤ 1048576) (h1 : 0 ≤ B) (h2 : B ≤ 599) : Does Tryz.prog 92 [.one (.ifc 144 false [.gv 0]),.one (int B),.one (.fn (.func 94) [.gv 2])] [.bx (tgR t 1),.row 1 (rows eI q),.bx [.gv 3],roW []] (.tup [(false,[int (trR t B.toNat [] q).1.1]),(false,[boo (trR t B.toNat [] q).1.2.1]),(false,[int (trR t B.toNat [] q).1.2.2])]) [.dead,.dead,.bx [.gv 4],.dead,roW (trR t B.toNat [] q).2] := by
  have hb := vTag_bd hv
  refine does_of (k := 4) Tryz.func92 rfl Tryz.ntmps92 rfl rfl fun w F0 S0 ρ0 => ?_
  dsimp only [argT,argH]
  refine g_conv (t_mvB (i := 1) (j := 0) (k := 3) rfl rfl rfl rfl rfl rfl) ?_
  try dsimp only [setRow,List.map_cons,List.map_nil,scC,List.set_cons_zero,List.set_cons_succ]
  refine g_conv (t_mvB (i := 3) (j := 2) (k := 0) rfl rfl rfl rfl rfl rfl) ?_
  try dsimp only [setRow,List.map_cons,List.map_nil,scC,List.set_cons_zero,List.set_cons_succ]
  repeat' first|(apply p3;(exact pu1);exact rfl)|refine cd ?_
  refine g_loop_id ?_
  refine loopK [0,1,2,6,7,8] [0,2,4,5] (fun x : Int × List Int × List (List Int) => Gd t x.2.1 ∧ (x.2.2.length : Int) ≤ B ∧ x.1 = x.2.2.length ∧ trR t (B - x.2.2.length).toNat x.2.2 x.2.1 = trR t B.toNat [] q) (fun x => [(9,.one (int x.1))]) (fun x => [(0,.bx (tgR t 4)),(4,.row 1 (rows eI x.2.1)),(2,.bx [.gv 5]),(5,roW x.2.2)]) (fun x => (B - x.1).toNat) ((0 : Int),q,[]) [0,1,2,3,4,5] (hI := ?_) (hr := ?_)
  · exact ⟨hg,by simp; omega,by simp,by simp⟩
  · rintro ⟨n,w,l⟩ ⟨k1,k3,k5,k4⟩
    dsimp only [List.cons_append,List.nil_append] at *
    try dsimp only [tgR]
    skip
    have kl := k1.le
    repeat' first|(apply p3;(first|exact pu1|exact a_add rfl rfl (by omega) (by omega));exact rfl)|refine cd ?_|(apply c4 0;exact callM0 (dst := some 14) (θ := [0,4]) (hD := (tagWord_ok t _));exact rfl;exact rfl;exact rfl;refine dM ?_)|(apply c4 1;exact callK0 (θ := [2,5,4]) (hD := (trace1_ok _ _ preB159 preB159));exact rfl;exact rfl;exact rfl;refine dM ?_)|(apply c4 0;exact callM0 (dst := some 28) (θ := [0,4]) (hD := (tagHalts_ok t _ hv preB159 preB159));exact rfl;exact rfl;exact rfl;refine dM ?_)|(apply c4 1;exact callM0 (dst := some 30) (θ := [0,4]) (hD := (tagStep_ok t _ hv preB159 preB159 preB159 preB159));exact rfl;exact rfl;exact rfl;refine dM ?_)|refine o_no rfl rfl rfl rfl ?_|(apply py3;exact rfl;exact rfl;(first|exact pu1|exact puC);exact rfl;exact rfl)|(apply cy4 0;exact rfl;exact rfl;exact callM0 (dst := some 24) (θ := [0,4]) (hD := (tagHalts_ok t _ hv preB159 preB159));exact rfl;exact rfl;exact rfl;exact rfl;refine dM ?_)|((first|refine o_gs rfl rfl (fun hc => ?_) (fun hc => ?_)|refine g_cond rfl (fun hc => ?_) (fun hc => ?_)) <;> (try simp only [dcB] at hc) <;> (try first|contradiction|(exfalso;omega)))
    · have e : trR t B.toNat [] q = (((l.length : Int),tgHalts t w,0),l ++ [w]) := by rw [← k4,show (B - l.length).toNat = 0 by omega,trR_0]
      rw [e]
      repeat refine cr ?_
      refine ends_id ?_
      refine endK [?_] (h2 := ?_) (h3 := ?_) (nd := ?_)
      rotate_left 1
      all_goals (repeat' first|exact ce0|refine ce ?_|refine ce2 ?_ ?_|(refine Or.inr (bx_eq rfl rfl ?_);(try dsimp only [C.ren,C.ren.all]);(try exact rfl))|exact SVLe.refl|refine ceb ?_)
      all_goals first | exact (show nodupB _ = true from rfl) | exact Or.inr rfl | ((first | rfl | omega))
    · have e : trR t B.toNat [] q = (((l.length : Int),tgHalts t w,0),l ++ [w]) := by rw [← k4,trR_h hc,hc]
      rw [e]
      repeat refine cr ?_
      refine ends_id ?_
      refine endK [?_] (h2 := ?_) (h3 := ?_) (nd := ?_)
      rotate_left 1
      all_goals (repeat' first|exact ce0|refine ce ?_|refine ce2 ?_ ?_|(refine Or.inr (bx_eq rfl rfl ?_);(try dsimp only [C.ren,C.ren.all]);(try exact rfl))|exact SVLe.refl|refine ceb ?_)
      all_goals first | exact (show nodupB _ = true from rfl) | exact Or.inr rfl | ((first | rfl | omega))
    · have e : trR t B.toNat [] q = ((0,false,5),l ++ [w]) := by
        obtain ⟨k,hk⟩ : ∃ k,(B - l.length).toNat = k + 1 := ⟨(B - l.length).toNat - 1,by omega⟩
        rw [← k4,hk,trR_o (by assumption) hc]
      rw [e]
      repeat refine cr ?_
      refine ends_id ?_
      refine endK [?_] (h2 := ?_) (h3 := ?_) (nd := ?_)
      rotate_left 1
      all_goals (repeat' first|exact ce0|refine ce ?_|refine ce2 ?_ ?_|(refine Or.inr (bx_eq rfl rfl ?_);(try dsimp only [C.ren,C.ren.all]);(try exact rfl))|exact SVLe.refl|refine ceb ?_)
      all_goals first | exact (show nodupB _ = true from rfl) | exact Or.inr rfl | (rfl)
    · have hst := tgStep_gd hv k1 (by assumption) hc
      have hlen : ((l ++ [w]).length : Int) = l.length + 1 := by simp
      refine q_again (n + 1,tgStep t w,l ++ [w]) [0,1,2,3,7,6] (by exact stk) ?_ ?_
      · dsimp only
        refine ⟨hst,by omega,by omega,?_⟩
        obtain ⟨k,hk⟩ : ∃ k,(B - l.length).toNat = k + 1 := ⟨(B - l.length).toNat - 1,by omega⟩
        rw [← k4,hk,trR_s (by assumption) hc,hlen,show (B - (l.length + 1 : Int)).toNat = k by omega]
      · dsimp only; omega
theorem runSysL_ok (t : Tg) (q : List Int) (B a b : Int) (hv : vTag t = true) (hg : Gd t q) (hx : (t.ha.length : Int) ≤ 1048576) (h1 : 0 ≤ B) (h2 : B ≤ 599) : Does Tryz.prog 92 [.one (.ifc 144 false [.gv 0]),.one (int B),.one (.fn (.func 99) [.gv 2,.gv 3])] [.bx (tgR t 1),.row 1 (rows eI q),.bx [int a],.bx [int b]] (.tup [(false,[int (trR t B.toNat [] q).1.1]),(false,[boo (trR t B.toNat [] q).1.2.1]),(false,[int (trR t B.toNat [] q).1.2.2])]) [.dead,.dead,.bx [int (lstL a (trR t B.toNat [] q).2)],.bx [int (mstL b (trR t B.toNat [] q).2)]] := by
  have hb := vTag_bd hv
  refine does_of (k := 4) Tryz.func92 rfl Tryz.ntmps92 rfl rfl fun w F0 S0 ρ0 => ?_
  dsimp only [argT,argH]
  refine g_conv (t_mvB (i := 1) (j := 0) (k := 3) rfl rfl rfl rfl rfl rfl) ?_
  try dsimp only [setRow,List.map_cons,List.map_nil,scC,List.set_cons_zero,List.set_cons_succ]
  repeat' first|(apply p3;(exact pu1);exact rfl)|refine cd ?_
  refine g_loop_id ?_
  refine loopK [0,1,2,6,7,8] [0,2,3,4] (fun x : Int × List Int × List (List Int) => Gd t x.2.1 ∧ (x.2.2.length : Int) ≤ B ∧ x.1 = x.2.2.length ∧ trR t (B - x.2.2.length).toNat x.2.2 x.2.1 = trR t B.toNat [] q) (fun x => [(9,.one (int x.1))]) (fun x => [(0,.bx (tgR t 4)),(4,.row 1 (rows eI x.2.1)),(2,.bx [int (lstL a x.2.2)]),(3,.bx [int (mstL b x.2.2)])]) (fun x => (B - x.1).toNat) ((0 : Int),q,[]) [0,1,2,3,4] (hI := ?_) (hr := ?_)
  · exact ⟨hg,by simp; omega,by simp,by simp⟩
  · rintro ⟨n,w,l⟩ ⟨k1,k3,k5,k4⟩
    dsimp only [List.cons_append,List.nil_append] at *
    try dsimp only [tgR]
    skip
    have kl := k1.le; have z1 := lstL_snoc w l a; have z2 := mstL_snoc w l b
    repeat' first|(apply p3;(first|exact pu1|exact a_add rfl rfl (by omega) (by omega));exact rfl)|refine cd ?_|(apply c4 0;exact callM0 (dst := some 14) (θ := [0,4]) (hD := (tagWord_ok t _));exact rfl;exact rfl;exact rfl;refine dM ?_)|(apply c4 0;exact callK1 (θ := [2,3]) (hD := (len1_ok _ _ _ preB159));exact rfl;exact rfl;exact rfl;refine dM ?_)|(apply c4 0;exact callM0 (dst := some 28) (θ := [0,4]) (hD := (tagHalts_ok t _ hv preB159 preB159));exact rfl;exact rfl;exact rfl;refine dM ?_)|(apply c4 1;exact callM0 (dst := some 30) (θ := [0,4]) (hD := (tagStep_ok t _ hv preB159 preB159 preB159 preB159));exact rfl;exact rfl;exact rfl;refine dM ?_)|refine o_no rfl rfl rfl rfl ?_|(apply py3;exact rfl;exact rfl;(first|exact pu1|exact puC);exact rfl;exact rfl)|(apply cy4 0;exact rfl;exact rfl;exact callM0 (dst := some 24) (θ := [0,4]) (hD := (tagHalts_ok t _ hv preB159 preB159));exact rfl;exact rfl;exact rfl;exact rfl;refine dM ?_)|((first|refine o_gs rfl rfl (fun hc => ?_) (fun hc => ?_)|refine g_cond rfl (fun hc => ?_) (fun hc => ?_)) <;> (try simp only [dcB] at hc) <;> (try first|contradiction|(exfalso;omega)))
    · have e : trR t B.toNat [] q = (((l.length : Int),tgHalts t w,0),l ++ [w]) := by rw [← k4,show (B - l.length).toNat = 0 by omega,trR_0]
      rw [e]
      simp only [z1,z2]
      repeat refine cr ?_
      refine ends_id ?_
      refine endK [] (h2 := ?_) (h3 := ?_) (nd := ?_)
      all_goals (repeat' first|exact ce0|refine ce ?_|refine ce2 ?_ ?_|(refine Or.inr (bx_eq rfl rfl ?_);(try dsimp only [C.ren,C.ren.all]);(try exact rfl))|exact SVLe.refl|refine ceb ?_)
      all_goals first | exact (show nodupB _ = true from rfl) | exact Or.inr rfl | ((first | rfl | omega))
    · have e : trR t B.toNat [] q = (((l.length : Int),tgHalts t w,0),l ++ [w]) := by rw [← k4,trR_h hc,hc]
      rw [e]
      simp only [z1,z2]
      repeat refine cr ?_
      refine ends_id ?_
      refine endK [] (h2 := ?_) (h3 := ?_) (nd := ?_)
      all_goals (repeat' first|exact ce0|refine ce ?_|refine ce2 ?_ ?_|(refine Or.inr (bx_eq rfl rfl ?_);(try dsimp only [C.ren,C.ren.all]);(try exact rfl))|exact SVLe.refl|refine ceb ?_)
      all_goals first | exact (show nodupB _ = true from rfl) | exact Or.inr rfl | ((first | rfl | omega))
    · have e : trR t B.toNat [] q = ((0,false,5),l ++ [w]) := by
        obtain ⟨k,hk⟩ : ∃ k,(B - l.length).toNat = k + 1 := ⟨(B - l.length).toNat - 1,by omega⟩
        rw [← k4,hk,trR_o (by assumption) hc]
      rw [e]
      simp only [z1,z2]
      repeat refine cr ?_
      refine ends_id ?_
      refine endK [] (h2 := ?_) (h3 := ?_) (nd := ?_)
      all_goals (repeat' first|exact ce0|refine ce ?_|refine ce2 ?_ ?_|(refine Or.inr (bx_eq rfl rfl ?_);(try dsimp only [C.ren,C.ren.all]);(try exact rfl))|exact SVLe.refl|refine ceb ?_)
      all_goals first | exact (show nodupB _ = true from rfl) | exact Or.inr rfl | (rfl)
    · have hst := tgStep_gd hv k1 (by assumption) hc
      have hlen : ((l ++ [w]).length : Int) = l.length + 1 := by simp
      rw [← z1,← z2]
      refine q_again (n + 1,tgStep t w,l ++ [w]) [0,1,2,3,5] (by exact stk) ?_ ?_
      · dsimp only
        refine ⟨hst,by omega,by omega,?_⟩
        obtain ⟨k,hk⟩ : ∃ k,(B - l.length).toNat = k + 1 := ⟨(B - l.length).toNat - 1,by omega⟩
        rw [← k4,hk,trR_s (by assumption) hc,hlen,show (B - (l.length + 1 : Int)).toNat = k by omega]
      · dsimp only; omega
end Go.Proofs.YtbblkhjjgnpbaaaGreatDoor
end
section
set_option linter.unusedVariables false
set_option linter.unusedSimpArgs false
set_option maxRecDepth 100000
set_option maxHeartbeats 1000000
namespace Go.Proofs.YtbblkhjjgnpbaaaGreatDoor
open Go Foot
theorem gd_word {t : Tg} {q : List Int} (h : Gd t q) : tgWord t.wo.length q = true := by
  unfold tgWord inAll
  rw [Bool.and_eq_true,List.all_eq_true,decide_eq_true_eq]
  exact ⟨fun x hx => by have := h.wd x hx; rw [decide_eq_true_eq]; omega,h.le⟩
structure RnOk (t : Tg) (q : List Int) (n : Int) : Prop where
  v : vTag t = true
  g : Gd t q
  ha : (t.ha.length : Int) ≤ 1048576
  wo : ∀ x ∈ t.wo,(x.length : Int) ≤ 16777216
  n : NoOv t n.toNat q
theorem preB163 {p : Prop} (h : p := by first | with_reducible assumption | omega | (simp only [List.length_append,List.length_cons,List.length_nil,List.length_set,List.length_replicate,List.length_take,List.length_drop,List.length_tail,List.length_dropLast,List.length_reverse] at *; omega) | exact mem_len (by assumption) (by omega) | (with_reducible refine Int.le_trans (Int.ofNat_le.2 (trimR_len _)) ?_; simp only [List.length_cons,List.length_tail]; omega) | (exact (ruAt_ok (by assumption) (by assumption) (by assumption)).2.1) | (exact (ruAt_ok (by assumption) (by assumption) (by assumption)).2.1) | (have := vMach_bd (by assumption); omega) | (simp only [mC_ch,mC_tu]; omega) | (have := vTag_bd (by assumption); omega) | (have := (‹Gd _ _›).le; omega) | (exact tgHalts_no (by assumption)) | (exact tgHead (by assumption) (by assumption) (by assumption)) | (exact Int.le_trans (tgStep_gd (by assumption) (by assumption) (by assumption) (by assumption)).le (by decide)) | (exact vTag_r (by assumption)) | (with_reducible refine Int.le_trans (Int.ofNat_le.2 (pushL_len _ _)) ?_; simp only [List.length_dropLast]; omega) | exact ls_at (by assumption) (by omega) | exact pt_gd (by assumption) | exact lv_at (by assumption) (by omega) | exact pt_gd (lv_at (by assumption) (by omega)) | exact (ask_ok (by assumption)).1 | exact (ask_ok (by assumption)).2.1 | exact (ask_ok (by assumption)).2.2.1 | exact (ask_ok (by assumption)).2.2.2 | trivial) : p := h
theorem RunTag_ok (t : Tg) (q : List Int) (n : Int) (g : RnOk t q n) (h1 : 1 ≤ n) (h2 : n ≤ 599) : Does Tryz.prog 22 [.agg (tgC t),.one (shI q),.one (int n)] [] (.tup [(false,[.gv 0]),(false,[int ((rnT t n.toNat q).2.1 : Nat)]),(false,[boo (rnT t n.toNat q).2.2]),(false,[int 0])]) [roI (rnT t n.toNat q).1] := by
  obtain ⟨hv,hg,hx,hys,hn⟩ := g
  have hb := vTag_bd hv
  have hw := gd_word hg
  have kv : (vTag t && tgWord t.wo.length q) = true := by rw [hv,hw]; rfl
  have hl := hg.le
  have hl2 := (rnT_gd hv hn hg).le
  refine does_of (k := 0) Tryz.func22 rfl Tryz.ntmps22 rfl rfl fun w F0 S0 ρ0 => ?_
  dsimp only [argT,argH]
  repeat' first|(apply n3;exact a_nilO eI rfl;exact rfl)|(apply n3;exact a_new (gb := .bx _) rfl;exact rfl;refine dA ?_)|(apply p3;(exact pu1);exact rfl)|refine cdn ?_|refine g_reg (id := 0) ?_|refine g_reg (id := 1) ?_|(apply c4 0;exact callK1 (θ := []) (hD := (tagCode_ok _ _ preB163 preB163 preB163 preB163));exact rfl;exact rfl;exact rfl;refine dM ?_)
  simp only [kv,cond_true]
  repeat' first|(apply p3;(first|exact pu1|exact a_ne rfl rfl);exact rfl)|refine cd ?_|(apply c4 0;exact callK1 (θ := []) (hD := (budgetOk_ok _));exact rfl;exact rfl;exact rfl;refine dM ?_)|(apply c4 2;exact callK0 (θ := []) (hD := (tagRunOf_ok _ _ preB163));exact rfl;exact rfl;exact rfl;refine dM ?_)|(apply c4 1;exact callK0 (θ := [_,_]) (hD := (runSysA_ok t q n hv hg hx (by omega) (by omega) hn));exact rfl;exact rfl;exact rfl;refine dM ?_)|(apply c4 1;exact callK1 (θ := []) (hD := (clone_ok _ preB163));exact rfl;exact rfl;exact rfl;refine dM ?_)|((refine g_cond rfl (fun hc => ?_) (fun hc => ?_)) <;> (try simp only [dcB] at hc) <;> (try first|contradiction|(exfalso;omega)))
  repeat refine cr ?_
  refine ends_id ?_
  refine endK [?_] (h2 := ?_) (h3 := ?_) (nd := ?_)
  rotate_left 1
  all_goals (repeat' first|exact ce0|refine ce ?_|refine ce2 ?_ ?_|(refine Or.inr (bx_eq rfl rfl ?_);(try dsimp only [C.ren,C.ren.all]);(try exact rfl))|exact SVLe.refl|refine ceb ?_)
  all_goals first | exact (show nodupB _ = true from rfl) | exact Or.inr rfl | (rfl)
theorem TraceTag_ok (t : Tg) (q : List Int) (n : Int) (g : RnOk t q n) (h1 : 1 ≤ n) (h2 : n ≤ 60) : Does Tryz.prog 21 [.agg (tgC t),.one (shI q),.one (int n)] [] (.tup [(false,[.gv 0]),(false,[int 0])]) [roW (wdL t n.toNat q)] := by
  obtain ⟨hv,hg,hx,hys,hn⟩ := g
  have hb := vTag_bd hv
  have hw := gd_word hg
  have kv : (vTag t && tgWord t.wo.length q) = true := by rw [hv,hw]; rfl
  have hl := hg.le
  have hr := trR_run n.toNat [] q hn
  refine does_of (k := 0) Tryz.func21 rfl Tryz.ntmps21 rfl rfl fun w F0 S0 ρ0 => ?_
  dsimp only [argT,argH]
  repeat' first|(apply n3;exact a_nilO eW rfl;exact rfl)|(apply n3;exact a_new (gb := .bx _) rfl;exact rfl;refine dA ?_)|(apply p3;(exact pu1);exact rfl)|refine cdn ?_|refine g_reg (id := 0) ?_|refine g_reg (id := 1) ?_|(apply c4 0;exact callK1 (θ := []) (hD := (tagCode_ok _ _ preB163 preB163 preB163 preB163));exact rfl;exact rfl;exact rfl;refine dM ?_)
  simp only [kv,cond_true]
  repeat' first|(apply n3;(first|exact a_new (gb := .bx _) rfl|exact a_litE eW [] rfl rfl rfl rfl rfl rfl rfl rfl);exact rfl;refine dA ?_)|(apply p3;(first|exact pu1|exact a_ne rfl rfl);exact rfl)|refine cdn ?_|refine g_reg (id := 2) ?_|refine g_reg (id := 4) ?_|refine g_reg (id := 6) ?_|refine g_reg (id := 7) ?_|(apply w3;exact a_st_bx rfl rfl rfl rfl (fN rfl rfl) (Nat.le_of_ble_eq_true rfl) rfl;exact rfl;refine dS ?_)|(apply c4 0;exact callK1 (θ := []) (hD := (within_ok _ _ _));exact rfl;exact rfl;exact rfl;refine dM ?_)|(apply c4 2;exact callK0 (θ := []) (hD := (tagRunOf_ok _ _ preB163));exact rfl;exact rfl;exact rfl;refine dM ?_)|(apply c4 1;exact callK0 (θ := [_,_,_,_]) (hD := (runSysT_ok _ _ _ preB163 preB163 preB163 preB163 preB163));exact rfl;exact rfl;exact rfl;refine dM ?_)|((refine g_cond rfl (fun hc => ?_) (fun hc => ?_)) <;> (try simp only [dcB] at hc) <;> (try first|contradiction|(exfalso;omega)))
  simp only [hr,List.nil_append]
  repeat' first|(apply p3;(first|exact pu1|exact a_ne rfl rfl);exact rfl)|refine cd ?_
  repeat refine cr ?_
  refine ends_id ?_
  refine endK [?_] (h2 := ?_) (h3 := ?_) (nd := ?_)
  rotate_left 1
  all_goals (repeat' first|exact ce0|refine ce ?_|refine ce2 ?_ ?_|(refine Or.inr (bx_eq rfl rfl ?_);(try dsimp only [C.ren,C.ren.all]);(try exact rfl))|exact SVLe.refl|refine ceb ?_)
  all_goals first | exact (show nodupB _ = true from rfl) | exact Or.inr rfl | (rfl)
theorem TagLengths_ok (t : Tg) (q : List Int) (n : Int) (g : RnOk t q n) (h1 : 1 ≤ n) (h2 : n ≤ 599) : Does Tryz.prog 23 [.agg (tgC t),.one (shI q),.one (int n)] [] (.tup [(false,[int (lstL q.length (wdL t n.toNat q))]),(false,[int (mstL q.length (wdL t n.toNat q))]),(false,[int 0])]) [] := by
  obtain ⟨hv,hg,hx,hys,hn⟩ := g
  have hb := vTag_bd hv
  have hw := gd_word hg
  have kv : (vTag t && tgWord t.wo.length q) = true := by rw [hv,hw]; rfl
  have hl := hg.le
  have hr := trR_run n.toNat [] q hn
  refine does_of (k := 0) Tryz.func23 rfl Tryz.ntmps23 rfl rfl fun w F0 S0 ρ0 => ?_
  dsimp only [argT,argH]
  repeat' first|(apply n3;exact a_new (gb := .bx _) rfl;exact rfl;refine dA ?_)|(apply p3;(exact pu1);exact rfl)|refine cdn ?_|refine g_reg (id := 0) ?_|refine g_reg (id := 1) ?_|(apply c4 0;exact callK1 (θ := []) (hD := (tagCode_ok _ _ preB163 preB163 preB163 preB163));exact rfl;exact rfl;exact rfl;refine dM ?_)
  simp only [kv,cond_true]
  repeat' first|(apply n3;exact a_new (gb := .bx _) rfl;exact rfl;refine dA ?_)|(apply p3;(first|exact pu1|exact a_ne rfl rfl);exact rfl)|refine cdn ?_|refine g_reg (id := 2) ?_|refine g_reg (id := 4) ?_|refine g_reg (id := 6) ?_|refine g_reg (id := 7) ?_|(apply w3;(exact a_st_bx rfl rfl rfl rfl (fN rfl rfl) (Nat.le_of_ble_eq_true rfl) rfl);exact rfl;refine dS ?_)|(apply c4 0;exact callK1 (θ := []) (hD := (budgetOk_ok _));exact rfl;exact rfl;exact rfl;refine dM ?_)|(apply c4 0;exact callK1 (θ := []) (hD := (sizeI_ok _ preB163));exact rfl;exact rfl;exact rfl;refine dM ?_)|(apply c4 2;exact callK0 (θ := []) (hD := (tagRunOf_ok _ _ preB163));exact rfl;exact rfl;exact rfl;refine dM ?_)|(apply c4 0;exact callK1 (θ := [_,_,_,_]) (hD := (runSysL_ok _ _ _ _ _ preB163 preB163 preB163 preB163 preB163));exact rfl;exact rfl;exact rfl;refine dM ?_)|((refine g_cond rfl (fun hc => ?_) (fun hc => ?_)) <;> (try simp only [dcB] at hc) <;> (try first|contradiction|(exfalso;omega)))
  simp only [hr,List.nil_append]
  repeat' first|(apply p3;(first|exact pu1|exact a_ne rfl rfl);exact rfl)|refine cd ?_|(apply g_drN (id := 10) okM [[],[],[0],[0,1,2],[0,1,2,3]] [([],[]),([],[]),([],[]),([],[]),([],[])] 0;(focus (refine dp 0 0 [43] [] puL ?_;refine dp 1 0 [42,6] [] puL ?_;refine dp 2 2 [43] [] pu1 ?_;refine dp 3 7 [] [] pu1 ?_;refine dp 4 15 [] [] (a_pure (sv := .one _) rfl) ?_;(refine d_nil ?_;refine dN ?_)));any_goals kernel_rfl)
  repeat refine cr ?_
  refine ends_id ?_
  refine endK [] (h2 := ?_) (h3 := ?_) (nd := ?_)
  all_goals (repeat' first|exact ce0|refine ce ?_|refine ce2 ?_ ?_|exact SVLe.refl|refine ceb ?_)
  all_goals first | exact (show nodupB _ = true from rfl) | exact Or.inr rfl | (rfl)
end Go.Proofs.YtbblkhjjgnpbaaaGreatDoor
end
section
set_option linter.unusedVariables false
set_option linter.unusedSimpArgs false
set_option maxRecDepth 100000
namespace Go.Proofs.YtbblkhjjgnpbaaaGreatDoor
open Go Foot Go.Shelf Go.RowKit
theorem bd_size : (Tryz.prog.info? 173).map (·.size) = some 2 := by kernel_rfl
theorem bd_lies : liesAt Tryz.prog Tryz.prog.depth 173 (2 / Tryz.prog.cellsOf 173) 0 173 1 = true := by kernel_rfl
theorem by_info : (Tryz.prog.info? 5).map (fun i => (i.zero,i.size,i.bytes)) = some (some (.int .u8 0),1,1) := by kernel_rfl
set_option maxHeartbeats 2000000 in
theorem bs_check {b e : Nat} {p v : Value} {xs : List Value} {w : World} (h : Bl w 173 e b p v xs) :
    Calls Tryz.prog 213 #[self b] w fun en w' => en = .returned (.tuple #[]) ∧ w'.heap.size = w.heap.size ∧ Bl w' 173 e b (self b) v xs ∧ Fr b none w w' := by
  obtain ⟨j,hj,hjs⟩ := Option.map_eq_some_iff.1 bd_size
  rcases h.adr with hp | hp
  · subst hp
    have h0 : w.cell? ⟨b,0,none⟩ = some (.pointer none) := by rw [Lib.cell_of_heap h.at_]; rfl
    have hfz : w.frozen? ⟨b,0,none⟩ = false := Lib.frozen_of_heap h.at_ 0
    have hsh : w.shape? b = some (173,2) := by simp [World.shape?,h.at_]
    have fin : Bl (w.setCell ⟨b,0,none⟩ (self b)) 173 e b (self b) v xs := by
      refine ⟨.inr rfl,?_,?_,h.ne⟩
      · simp [World.setCell,Array.getElem?_modify,h.at_]
      · exact h.own.kept (row := some b) ⟨rfl,rfl,rfl,by simp [World.setCell],fun k _ hk => Below.heap_setCell _ _ _ _ (fun e => hk (by simp [e]))⟩ (Or.inr h.ne)
    clear h
    refine Calls.mono (R := fun en w' => en = .returned (.tuple #[]) ∧ w' = w.setCell ⟨b,0,none⟩ (self b)) ?_ ?_
    · go_enter Tryz.func213,Tryz.ntmps213
      go_wp2
      rw [Lib.run_to_unsafe w ⟨b,0,none⟩ Tryz.underlying171 Tryz.underlying351 hj (by rw [hjs]; decide) hsh (Nat.zero_lt_succ 1)]
      simp only [Result.andThen]
      rw [Oper.upon_value]
      go_wp2
      rw [run_callFunc_extern Tryz.func310 (by kernel_rfl) (by kernel_rfl) (by kernel_rfl) (e := Extern.AbiNoEscape.same) (by kernel_rfl)]
      rw [Lib.run_noEscape]
      simp only [Result.andThen]
      rw [Oper.upon_value]
      go_wp2
      rw [Lib.run_from_unsafe w ⟨b,0,none⟩ Tryz.underlying351 Tryz.underlying171 hj hsh bd_lies]
      simp only [Result.andThen]
      rw [Oper.upon_value]
      go_wp2
      go_end0
      exact ⟨rfl,rfl⟩
    · rintro en w' ⟨rfl,rfl⟩
      exact ⟨rfl,by simp [World.setCell],fin,Fr.set _ _ _ _ _⟩
  · subst hp
    have h0 : w.cell? ⟨b,0,none⟩ = some (.pointer (some ⟨b,0,none⟩)) := by rw [Lib.cell_of_heap h.at_]; rfl
    have fin := h
    clear h
    refine Calls.mono (R := fun en w' => en = .returned (.tuple #[]) ∧ w' = w) ?_ ?_
    · go_enter Tryz.func213,Tryz.ntmps213
      go_wp2
      rw [Lib.run_neq_ptr_same w _ Tryz.underlying171 hj]
      go_wp2
      go_end0
      exact ⟨rfl,rfl⟩
    · rintro en w' ⟨rfl,rfl⟩
      exact ⟨rfl,rfl,fin,Fr.refl _ _ _⟩
set_option maxHeartbeats 2000000 in
theorem bs_WriteString {b : Nat} {p v : Value} {xs : List Value} {w : World} (h : Bl w 173 5 b p v xs) (s : ByteArray) (hlen : xs.length + s.size ≤ 140737488355328) :
    Calls Tryz.prog 123 #[self b,.string s] w fun e w' => e = .returned (.tuple #[.int .i64 s.size,.nilIface]) ∧ BlTo w w' 173 5 b v (xs ++ Lib.strCells s) := by
  obtain ⟨i0,hi,hz0,hz1,hz2⟩ := info_parts by_info
  have e240 : ∀ args w,(callFunc 213 args).run Tryz.prog w = .ok (.enter 213 args) w := enters_of Tryz.func213 (by kernel_rfl) rfl
  go_enter Tryz.func123,Tryz.ntmps123
  go_wp2_with (go_at_fn 213; refine (bs_check h).mono ?_)
  rintro e w1 ⟨rfl,-,h1,hf1⟩
  have hbk := h1.at_
  have hne := h1.ne
  have c0 : w1.cell? ⟨b,0,none⟩ = some (self b) := by rw [Lib.cell_of_heap hbk]; rfl
  have c1 : w1.cell? ⟨b,1,none⟩ = some v := by rw [Lib.cell_of_heap hbk]; rfl
  go_wp2_with (at_builtin; refine wpl_string rfl _ _ 31 9 rfl 5 i0 Tryz.underlying31 Tryz.underlying9 hi hz0 hz1 hz2 _ _ _ rfl h1.own s rfl ?c4 ?_)
  case c4 => omega
  intro v' w2 hown' hgrow hon
  have hlt : b < w1.heap.size := heap_lt hbk
  have hb2 : w2.heap[b]? = some (.cells #[self b,v] 173 (0,0)) := by
    rw [hgrow.block b hlt (fun e => hne e.symm)]
    exact hbk
  have d0 : w2.cell? ⟨b,0,none⟩ = some (self b) := by rw [Lib.cell_of_heap hb2]; rfl
  have d1 : w2.cell? ⟨b,1,none⟩ = some v := by rw [Lib.cell_of_heap hb2]; rfl
  have f1 : w2.frozen? ⟨b,1,none⟩ = false := Lib.frozen_of_heap hb2 1
  obtain ⟨ao,n',cap,rfl⟩ : ∃ ao n' cap,v' = .slice ao n' cap := by
    rcases hown'.2 with ⟨hv,_⟩ | ⟨g,cap,cur,fz,hv,_⟩
    · exact ⟨_,_,_,hv⟩
    · exact ⟨_,_,_,hv⟩
  go_wp2
  go_ret2
  obtain ⟨_,v2,k1,k2,k3⟩ := Lib.BuilderAtF.put (T := 173) (e := 5) (B := 0) (Nat.zero_le b) hb2 (bs' := xs ++ Lib.strCells s) (by simpa [Lib.strCells_length] using hown') (by decide)
  have hv2 : v2 = .slice ao n' cap := by
    have : (w2.setCell ⟨b,1,none⟩ (.slice ao n' cap)).cell? ⟨b,1,none⟩ = some v2 := by rw [Lib.cell_of_heap k1]; rfl
    rw [cell_set_same d1] at this
    exact (Option.some.inj this).symm
  subst hv2
  refine ⟨rfl,_,_,⟨.inr rfl,k1,k2,k3⟩,?_,(hf1.mono).trans ((Fr.of hgrow).trans (Fr.set _ _ none _ _) (by simp)) (fun k _ e => e)⟩
  rcases hon with e | e | ⟨g,e,hg⟩
  · exact .inl e
  · exact .inr (.inl e)
  · exact .inr (.inr ⟨g,e,by have := hf1.size; omega⟩)
end Go.Proofs.YtbblkhjjgnpbaaaGreatDoor
end
