/- Parts of the proof (13 of 21). -/
import Derived.Maps.RangeRun
import Derived.Test.YtnkeamihfiobdaaGreatDoorQ12
section
set_option linter.unusedVariables false
set_option linter.unusedSimpArgs false
set_option maxRecDepth 100000
namespace Go.Proofs.YtnkeamihfiobdaaGreatDoor
open Go Foot MapKept
section
variable {P : Program} {g : Gh} {t : List (Nat × SV)} {h : List (Nat × GB)} {n : Nat} {Q : Exit → St → Prop} {ops : Array Oper} {l : List Oper}
variable {ty : TypeId} {pos : String} {after : Array Edge} {x : Operand} {T kt et : TypeId} {α β : Type}
variable {st : St} {dst : Option Tmp} {guard : Option (Nat × Bool)}
end
end Go.Proofs.YtnkeamihfiobdaaGreatDoor
end
section
set_option linter.unusedVariables false
set_option linter.unusedSimpArgs false
set_option maxRecDepth 100000
set_option maxHeartbeats 4000000
namespace Go.Proofs.YtnkeamihfiobdaaGreatDoor
open Go Foot
end Go.Proofs.YtnkeamihfiobdaaGreatDoor
end
section
set_option linter.unusedVariables false
set_option linter.unusedSimpArgs false
set_option maxRecDepth 100000
set_option maxHeartbeats 4000000
namespace Go.Proofs.YtnkeamihfiobdaaGreatDoor
open Go Foot
@[irreducible] def tgWord (n : Int) (l : List Int) : Bool := inAll 0 (n - 1) l && decide ((l.length : Int) ≤ 1000)
@[irreducible] def vTag (t : Tg) : Bool := decide (1 ≤ t.de ∧ t.de ≤ 4) && decide (1 ≤ (t.wo.length : Int) ∧ (t.wo.length : Int) ≤ 200) && (risesL t.ha && inAll 0 ((t.wo.length : Int) - 1) t.ha) && t.wo.all (tgWord t.wo.length)
@[irreducible] def tgHalts (t : Tg) (w : List Int) : Bool := decide ((w.length : Int) < t.de) || decide (w.headD 0 ∈ t.ha)
@[irreducible] def tgOut (t : Tg) (w : List Int) : List Int := w ++ t.wo.getD (w.headD 0).toNat []
@[irreducible] def tgStep (t : Tg) (w : List Int) : List Int := (tgOut t w).drop t.de.toNat
@[irreducible] def tgOver (t : Tg) (w : List Int) : Bool := !decide (((tgOut t w).length : Int) ≤ 1000)
theorem vTag_bd {t : Tg} (h : vTag t = true) : (1 ≤ t.de ∧ t.de ≤ 4) ∧ 1 ≤ (t.wo.length : Int) ∧ (t.wo.length : Int) ≤ 200 := by
  unfold vTag at h
  simp only [Bool.and_eq_true,decide_eq_true_eq] at h
  omega
theorem vTag_w {t : Tg} (h : vTag t = true) {x : List Int} (hx : x ∈ t.wo) : (x.length : Int) ≤ 1000 ∧ ∀ y ∈ x,0 ≤ y ∧ y < t.wo.length := by
  unfold vTag at h
  simp only [Bool.and_eq_true,List.all_eq_true] at h
  have := h.2 x hx
  unfold tgWord inAll at this
  simp only [Bool.and_eq_true,List.all_eq_true,decide_eq_true_eq] at this
  exact ⟨this.2,fun y hy => by have := this.1 y hy; omega⟩
structure Gd (t : Tg) (q : List Int) : Prop where
  wd : ∀ y ∈ q,0 ≤ y ∧ y < t.wo.length
  le : (q.length : Int) ≤ 1000
theorem tgHalts_no {t : Tg} {q : List Int} (h : tgHalts t q = false) : t.de ≤ q.length := by
  unfold tgHalts at h
  simp at h
  omega
theorem tgHead {t : Tg} {q : List Int} (hv : vTag t = true) (hg : Gd t q) (h : tgHalts t q = false) : 0 ≤ q.headD 0 ∧ q.headD 0 < t.wo.length := by
  have h1 := tgHalts_no h
  have h2 := vTag_bd hv
  cases q with
  | nil => simp at h1; omega
  | cons a q => exact hg.wd a (by simp)
theorem tgStep_gd {t : Tg} {q : List Int} (hv : vTag t = true) (hg : Gd t q) (h : tgHalts t q = false) (ho : tgOver t q = false) : Gd t (tgStep t q) := by
  obtain ⟨h1,h2⟩ := tgHead hv hg h
  have hlt : (q.headD 0).toNat < t.wo.length := by omega
  have hout : tgOut t q = q ++ t.wo[(q.headD 0).toNat] := by unfold tgOut; rw [List.getD_eq_getElem?_getD,List.getElem?_eq_getElem hlt]; rfl
  refine ⟨fun y hy => ?_,?_⟩
  · unfold tgStep at hy
    have := List.mem_of_mem_drop hy
    rw [hout] at this
    rcases List.mem_append.1 this with hy | hy
    · exact hg.wd y hy
    · exact (vTag_w hv (List.getElem_mem hlt)).2 y hy
  · unfold tgOver at ho
    unfold tgStep
    simp at ho
    rw [List.length_drop]
    omega
section
variable {α : Type} {f : α → α} {h o : α → Bool} {x : α} {k : Nat}
end
section
variable {α : Type} [DecidableEq α] {f : α → α} {h o : α → Bool} {x y : α} {k p l : Nat}
end
end Go.Proofs.YtnkeamihfiobdaaGreatDoor
end
section
set_option linter.unusedVariables false
set_option linter.unusedSimpArgs false
set_option maxRecDepth 100000
set_option maxHeartbeats 4000000
namespace Go.Proofs.YtnkeamihfiobdaaGreatDoor
open Go Foot
end Go.Proofs.YtnkeamihfiobdaaGreatDoor
end
section
set_option linter.unusedVariables false
set_option linter.unusedSimpArgs false
set_option maxRecDepth 100000
set_option maxHeartbeats 4000000
namespace Go.Proofs.YtnkeamihfiobdaaGreatDoor
open Go Foot
abbrev tgR (t : Tg) (i : Nat) : List C := [int t.de,shW t.wo,shI t.ha,.gv i]
theorem preB46 {p : Prop} (h : p := by first | with_reducible assumption | omega | (simp only [List.length_append,List.length_cons,List.length_nil,List.length_set,List.length_replicate,List.length_take,List.length_drop,List.length_tail,List.length_dropLast,List.length_reverse] at *; omega) | exact mem_len (by assumption) (by omega) | (with_reducible refine Int.le_trans (Int.ofNat_le.2 (trimR_len _)) ?_; simp only [List.length_cons,List.length_tail]; omega) | (exact (ruAt_ok (by assumption) (by assumption) (by assumption)).2.1) | (exact (ruAt_ok (by assumption) (by assumption) (by assumption)).2.1) | (have := vMach_bd (by assumption); omega) | (simp only [mC_ch,mC_tu]; omega) | (have := vTag_bd (by assumption); omega) | (have := (‹Gd _ _›).le; omega) | (exact tgHalts_no (by assumption)) | (exact tgHead (by assumption) (by assumption) (by assumption)) | (exact Int.le_trans (tgStep_gd (by assumption) (by assumption) (by assumption) (by assumption)).le (by decide)) | (with_reducible refine Int.le_trans (Int.ofNat_le.2 (pushL_len _ _)) ?_; simp only [List.length_dropLast]; omega) | exact (ask_ok (by assumption)).1 | exact (ask_ok (by assumption)).2.1 | exact (ask_ok (by assumption)).2.2.1 | exact (ask_ok (by assumption)).2.2.2 | trivial) : p := h
theorem tagRunOf_ok (t : Tg) (q : List Int) (hq : (q.length : Int) ≤ 16777216) : Does Tryz.prog 56 [.agg (tgC t),.one (shI q)] [] (.one (.gv 0)) [.bx (tgR t 1),.row 1 (rows eI q)] := by
  refine does_of (k := 0) Tryz.func56 rfl Tryz.ntmps56 rfl rfl fun w F0 S0 ρ0 => ?_
  dsimp only [argT,argH]
  repeat' first|(apply n3;exact a_new (gb := .bx _) rfl;exact rfl;refine dA ?_)|(apply p3;exact pu1;exact rfl)|refine cd ?_|(apply g_drN (id := 1) okM [[],[],[1],[0,1,2],[0,1,2,3],[0,1,2,3,4]] [([],[]),([],[]),([0],[]),([],[]),([1],[]),([],[])] 2;(focus (refine dp 0 0 [6,7] [(true,0)] puL ?_;refine dp 1 0 [5] [] pu1 ?_;refine duN 2 1 [5] [] (callD1 (n := _) 0 (θ := []) (hD := (clone_ok _ preB46))) (by exact rfl) (by exact rfl) ?_;refine dp 3 7 [] [] (a_pure (sv := .agg _) rfl) ?_;refine duE 4 15 [] [] (atN 1 (fun _ => a_new (gb := .bx _) rfl)) (by exact rfl) (by exact rfl) ?_;refine dp 5 31 [] [] pu1 ?_;(refine d_nil ?_;refine dN ?_)));any_goals kernel_rfl)|fail
  repeat refine cr ?_
  refine ends_id ?_
  refine endK [?_,?_] (h2 := ?_) (h3 := ?_) (nd := ?_)
  rotate_left 2
  all_goals (repeat' first|exact ce0|refine ce ?_|refine ce2 ?_ ?_|(refine Or.inr (bx_eq rfl rfl ?_);(try dsimp only [C.ren,C.ren.all]);(try exact rfl))|exact SVLe.refl|refine ceb ?_)
  all_goals first | exact (show nodupB _ = true from rfl) | exact Or.inr rfl | (rfl)
theorem tagWord_ok (t : Tg) (q : List Int) : Does Tryz.prog 333 [.one (.gv 0)] [.bx (tgR t 1),.row 1 (rows eI q)] (.one (.gv 1)) [.bx (tgR t 1),.row 1 (rows eI q)] := by
  refine does_of (k := 2) Tryz.func333 rfl Tryz.ntmps333 rfl rfl fun w F0 S0 ρ0 => ?_
  dsimp only [argT,argH]
  repeat' first|(apply p3;(exact pu1);exact rfl)|refine cd ?_|fail
  repeat refine cr ?_
  refine ends_id ?_
  refine endK [] (h2 := ?_) (h3 := ?_) (nd := ?_)
  all_goals (repeat' first|exact ce0|refine ce ?_|refine ce2 ?_ ?_|(refine Or.inr (bx_eq rfl rfl ?_);(try dsimp only [C.ren,C.ren.all]);(try exact rfl))|exact SVLe.refl|refine ceb ?_)
  all_goals first | exact (show nodupB _ = true from rfl) | exact Or.inr rfl | (rfl)
theorem isNaN_ok (a : Int) : Does Tryz.prog 282 [.one (int a)] [] (.one (boo false)) [] := by
  refine does_of (k := 0) Tryz.func282 rfl Tryz.ntmps282 rfl rfl fun w F0 S0 ρ0 => ?_
  dsimp only [argT,argH]
  repeat' first|(apply p3;(first|exact pu1|exact a_ne rfl rfl);exact rfl)|refine cd ?_|fail
  repeat refine cr ?_
  refine ends_id ?_
  refine endK [] (h2 := ?_) (h3 := ?_) (nd := ?_)
  all_goals (repeat' first|exact ce0|refine ce ?_|refine ce2 ?_ ?_|exact SVLe.refl|refine ceb ?_)
  all_goals first | exact (show nodupB _ = true from rfl) | exact Or.inr rfl | (simp)
theorem sNaN_ok (a : Int) : Does Tryz.prog 335 [.one (int a)] [] (.one (boo false)) [] := by
  refine does_of (k := 0) Tryz.func335 rfl Tryz.ntmps335 rfl rfl fun w F0 S0 ρ0 => ?_
  dsimp only [argT,argH]
  repeat' first|(apply p3;(first|exact pu1|exact a_ne rfl rfl);exact rfl)|refine cd ?_|fail
  repeat refine cr ?_
  refine ends_id ?_
  refine endK [] (h2 := ?_) (h3 := ?_) (nd := ?_)
  all_goals (repeat' first|exact ce0|refine ce ?_|refine ce2 ?_ ?_|exact SVLe.refl|refine ceb ?_)
  all_goals first | exact (show nodupB _ = true from rfl) | exact Or.inr rfl | (simp)
theorem cLess_ok (a b : Int) : Does Tryz.prog 250 [.one (int a),.one (int b)] [] (.one (boo (decide (a < b)))) [] := by
  refine does_of (k := 0) Tryz.func250 rfl Tryz.ntmps250 rfl rfl fun w F0 S0 ρ0 => ?_
  dsimp only [argT,argH]
  repeat' first|(apply p3;(exact pu1);exact rfl)|refine cd ?_|(apply c4 0;exact callK1 (θ := []) (hD := (isNaN_ok _));exact rfl;exact rfl;exact rfl;refine dM ?_)|refine o_no rfl rfl rfl rfl ?_|(apply py3;exact rfl;exact rfl;(first|exact pu1|exact puC);exact rfl;exact rfl)|fail
  repeat refine cr ?_
  refine ends_id ?_
  refine endK [] (h2 := ?_) (h3 := ?_) (nd := ?_)
  all_goals (repeat' first|exact ce0|refine ce ?_|refine ce2 ?_ ?_|exact SVLe.refl|refine ceb ?_)
  all_goals first | exact (show nodupB _ = true from rfl) | exact Or.inr rfl | (rfl)
@[irreducible] def lob (l : List Int) (x : Int) : Int := ((l.takeWhile fun y => decide (y < x)).length : Nat)
theorem lob_at {l : List Int} {x i : Int} (h0 : 0 ≤ i) (h1 : i ≤ l.length) (ha : ∀ k : Nat,(k : Int) < i → (h : k < l.length) → l[k] < x) (hb : ∀ k : Nat,i ≤ (k : Int) → (h : k < l.length) → x ≤ l[k]) : lob l x = i := by
  obtain ⟨n,rfl⟩ : ∃ n : Nat,i = n := ⟨i.toNat,by omega⟩
  unfold lob
  congr 1
  induction l generalizing n with
  | nil => simp at h1; simp; omega
  | cons y l ih =>
    cases n with
    | zero =>
      have := hb 0 (by omega) (by simp)
      simp at this
      simp [List.takeWhile_cons]
      omega
    | succ n =>
      have := ha 0 (by omega) (by simp)
      simp at this
      simp only [List.takeWhile_cons,decide_eq_true this,if_true,List.length_cons]
      simp at h1
      rw [ih n (by omega) (by omega) (fun k hk h => by have := ha (k + 1) (by omega) (by simpa using h); simpa using this) (fun k hk h => by have := hb (k + 1) (by omega) (by simpa using h); simpa using this)]
theorem rises_lt {l : List Int} (hr : risesL l = true) {i j : Nat} (hij : i < j) (hj : j < l.length) : l[i] < l[j] := by
  have key : ∀ d i,(h : i + d + 1 < l.length) → l[i]'(by omega) < l[i + d + 1] := by
    intro d
    induction d with
    | zero =>
      intro i h
      unfold risesL at hr
      rw [List.all_eq_true] at hr
      have := hr i (by rw [List.mem_range]; omega)
      rw [decide_eq_true_eq,← get_getD l 0 _ (by omega),← get_getD l 0 _ (by omega)] at this
      exact this
    | succ d ih =>
      intro i h
      have h1 := ih i (by omega)
      unfold risesL at hr
      rw [List.all_eq_true] at hr
      have := hr (i + d + 1) (by rw [List.mem_range]; omega)
      rw [decide_eq_true_eq,← get_getD l 0 _ (by omega),← get_getD l 0 _ (by omega)] at this
      have e : i + (d + 1) + 1 = i + d + 1 + 1 := by omega
      simp only [e]
      omega
  have := key (j - i - 1) i (by omega)
  have e : i + (j - i - 1) + 1 = j := by omega
  simp only [e] at this
  exact this
theorem BinarySearch_ok (l : List Int) (x : Int) (hx : (l.length : Int) ≤ 1048576) (hr : risesL l = true) : Does Tryz.prog 334 [.one (shI l),.one (int x)] [] (.tup [(false,[int (lob l x)]),(false,[boo (decide (x ∈ l))])]) [] := by
  refine does_of (k := 0) Tryz.func334 rfl Tryz.ntmps334 rfl rfl fun w F0 S0 ρ0 => ?_
  dsimp only [argT,argH]
  repeat' first|(apply p3;(first|exact pu1|exact puN);exact rfl)|refine cd ?_|fail
  refine g_loop_id ?_
  refine loopK [0,1,4,5,6] [] (fun z : Int × Int => 0 ≤ z.1 ∧ z.1 ≤ z.2 ∧ z.2 ≤ l.length ∧ (∀ k : Nat,(k : Int) < z.1 → (h : k < l.length) → l[k] < x) ∧ (∀ k : Nat,z.2 ≤ (k : Int) → (h : k < l.length) → x ≤ l[k])) (fun z => [(7,.one (int z.1)),(8,.one (int z.2))]) (fun _ => []) (fun z => (z.2 - z.1).toNat) ((0 : Int),(l.length : Int)) [] (hI := ?_) (hr := ?_)
  · dsimp only
    exact ⟨by omega,by omega,by omega,fun k h => by omega,fun k h h2 => by omega⟩
  · rintro ⟨i,j⟩ ⟨h0,h1,h2,h3,h4⟩
    dsimp only [List.cons_append,List.nil_append] at *
    try dsimp only [tgR]
    skip
    repeat' first|(apply p3;(first|exact pu1|exact puC|exact a_add rfl rfl (by omega) (by omega)|exact u_conv rfl Tryz.underlying3 Tryz.underlying203 bnd bnd|exact u_shr1 rfl rfl (by omega)|exact u_vnoc rfl Tryz.underlying203 Tryz.underlying3 bnd bnd|exact puI);exact rfl)|refine cd ?_|(apply c4 0;exact callK1 (θ := []) (hD := (cLess_ok _ _));exact rfl;exact rfl;exact rfl;refine dM ?_)|refine o_no rfl rfl rfl rfl ?_|(apply py3;exact rfl;exact rfl;(first|exact pu1|exact puC|exact puI);exact rfl;exact rfl)|(apply cy4 0;exact rfl;exact rfl;exact callK1 (θ := []) (hD := (sNaN_ok _));exact rfl;exact rfl;exact rfl;exact rfl;refine dM ?_)|((first|refine o_gs rfl rfl (fun hc => ?_) (fun hc => ?_)|refine g_cond rfl (fun hc => ?_) (fun hc => ?_)) <;> (try simp only [dcB] at hc) <;> (try first|contradiction|(exfalso;omega)))|fail
    · have m1 : i ≤ (i + j) / 2 := by omega
      have m2 : (i + j) / 2 < j := by omega
      refine q_again ((i + j) / 2 + 1,j) [] (by exact stk) ?_ ?_
      · dsimp only
        refine ⟨by omega,by omega,by omega,fun k hk h => ?_,h4⟩
        have e : l[((i + j) / 2).toNat]'(by omega) < x := hc
        by_cases ek : k = ((i + j) / 2).toNat
        · subst ek; exact e
        · have := rises_lt hr (show k < ((i + j) / 2).toNat by omega) (by omega)
          omega
      · dsimp only; omega
    · have m1 : i ≤ (i + j) / 2 := by omega
      have m2 : (i + j) / 2 < j := by omega
      refine q_again (i,(i + j) / 2) [] (by exact stk) ?_ ?_
      · dsimp only
        refine ⟨by omega,by omega,by omega,h3,fun k hk h => ?_⟩
        have e : ¬ l[((i + j) / 2).toNat]'(by omega) < x := hc
        by_cases ek : k = ((i + j) / 2).toNat
        · subst ek; omega
        · have := rises_lt hr (show ((i + j) / 2).toNat < k by omega) h
          omega
      · dsimp only; omega
    · have e1 := lob_at h0 (by omega) h3 (fun k hk h => h4 k (by omega) h)
      have e2 : x ∈ l := by rw [← hc]; exact List.getElem_mem _
      repeat refine cr ?_
      refine ends_id ?_
      refine endK [] (h2 := ?_) (h3 := ?_) (nd := ?_)
      all_goals (repeat' first|exact ce0|refine ce ?_|refine ce2 ?_ ?_|exact SVLe.refl|refine ceb ?_)
      all_goals first | exact (show nodupB _ = true from rfl) | exact Or.inr rfl | ((first | (rw [e1]; done) | (rw [decide_eq_true e2]; done)))
    · have e1 := lob_at h0 (by omega) h3 (fun k hk h => h4 k (by omega) h)
      have e2 : ¬ x ∈ l := by
        intro hm
        obtain ⟨k,hk,rfl⟩ := List.getElem_of_mem hm
        by_cases h5 : (k : Int) < i
        · have := h3 k h5 hk; omega
        · by_cases ek : k = i.toNat
          · subst ek; exact hc rfl
          · have := rises_lt hr (show i.toNat < k by omega) hk
            have := h4 i.toNat (by omega) (by omega)
            omega
      repeat refine cr ?_
      refine ends_id ?_
      refine endK [] (h2 := ?_) (h3 := ?_) (nd := ?_)
      all_goals (repeat' first|exact ce0|refine ce ?_|refine ce2 ?_ ?_|exact SVLe.refl|refine ceb ?_)
      all_goals first | exact (show nodupB _ = true from rfl) | exact Or.inr rfl | ((first | (rw [e1]; done) | (rw [decide_eq_false e2]; done)))
    · have e1 := lob_at h0 (by omega) h3 (fun k hk h => h4 k (by omega) h)
      have e2 : ¬ x ∈ l := by
        intro hm
        obtain ⟨k,hk,rfl⟩ := List.getElem_of_mem hm
        have := h3 k (by omega) hk
        omega
      repeat refine cr ?_
      refine ends_id ?_
      refine endK [] (h2 := ?_) (h3 := ?_) (nd := ?_)
      all_goals (repeat' first|exact ce0|refine ce ?_|refine ce2 ?_ ?_|exact SVLe.refl|refine ceb ?_)
      all_goals first | exact (show nodupB _ = true from rfl) | exact Or.inr rfl | ((first | (rw [e1]; done) | (rw [decide_eq_false e2]; done)))
theorem vTag_r {t : Tg} (h : vTag t = true) : risesL t.ha = true := by
  unfold vTag at h
  simp only [Bool.and_eq_true] at h
  exact h.1.2.1
theorem preB46_2 {p : Prop} (h : p := by first | with_reducible assumption | omega | (simp only [List.length_append,List.length_cons,List.length_nil,List.length_set,List.length_replicate,List.length_take,List.length_drop,List.length_tail,List.length_dropLast,List.length_reverse] at *; omega) | exact mem_len (by assumption) (by omega) | (with_reducible refine Int.le_trans (Int.ofNat_le.2 (trimR_len _)) ?_; simp only [List.length_cons,List.length_tail]; omega) | (exact (ruAt_ok (by assumption) (by assumption) (by assumption)).2.1) | (exact (ruAt_ok (by assumption) (by assumption) (by assumption)).2.1) | (have := vMach_bd (by assumption); omega) | (simp only [mC_ch,mC_tu]; omega) | (have := vTag_bd (by assumption); omega) | (have := (‹Gd _ _›).le; omega) | (exact tgHalts_no (by assumption)) | (exact tgHead (by assumption) (by assumption) (by assumption)) | (exact Int.le_trans (tgStep_gd (by assumption) (by assumption) (by assumption) (by assumption)).le (by decide)) | (with_reducible refine Int.le_trans (Int.ofNat_le.2 (pushL_len _ _)) ?_; simp only [List.length_dropLast]; omega) | exact (ask_ok (by assumption)).1 | exact (ask_ok (by assumption)).2.1 | exact (ask_ok (by assumption)).2.2.1 | exact (ask_ok (by assumption)).2.2.2 | (exact vTag_r (by assumption)) | trivial) : p := h
theorem tagHalts_ok (t : Tg) (q : List Int) (hv : vTag t = true) (hq : (q.length : Int) ≤ 1048576) (hx : (t.ha.length : Int) ≤ 1048576) : Does Tryz.prog 331 [.one (.gv 0)] [.bx (tgR t 1),.row 1 (rows eI q)] (.one (boo (tgHalts t q))) [.bx (tgR t 1),.row 1 (rows eI q)] := by
  have hb := vTag_bd hv
  refine does_of (k := 2) Tryz.func331 rfl Tryz.ntmps331 rfl rfl fun w F0 S0 ρ0 => ?_
  dsimp only [argT,argH]
  repeat' first|(apply p3;exact pu1;exact rfl)|refine cd ?_|(apply g_drN (id := 1) okM [[],[0],[0,1],[0,1,2],[0,1,2,3],[],[5],[5,6],[5,6,7],[5,6,7,8],[0,1,2,3,4,5,6,7,8,9]] [([],[]),([],[]),([],[]),([],[]),([],[]),([],[]),([],[]),([],[]),([],[]),([],[]),([],[])] 0;(focus (refine dp 0 0 [10,11,12,13,14] [] pu1 ?_;refine dp 1 1 [10,11,12,13,14] [] (a_pure (sv := .one _) rfl) ?_;refine dp 2 3 [10,11,12,13,14] [] (a_pure (sv := .one _) rfl) ?_;refine dp 3 7 [10,11,12,13,14] [] puL ?_;refine dp 4 15 [10,11,12,13,14] [] (callD1 (n := _) 0 (θ := []) (hD := (sizeI_ok _ preB46_2))) ?_;refine dp 5 0 [5,6,7,8,9] [] pu1 ?_;refine dp 6 1 [5,6,7,8,9] [] (a_pure (sv := .one _) rfl) ?_;refine dp 7 3 [5,6,7,8,9] [] (a_pure (sv := .one _) rfl) ?_;refine dp 8 7 [5,6,7,8,9] [] (a_pure (sv := .one _) rfl) ?_;refine dp 9 15 [5,6,7,8,9] [] puL ?_;refine dp 10 1023 [] [] puC ?_;(refine d_nil ?_;refine dN ?_)));any_goals kernel_rfl)|(apply g_drN (id := 3) okM [[],[0],[0,1],[0,1,2],[0,1,2,3],[],[5],[5,6],[5,6,7],[5,6,7,8],[5,6,7,8,9],[0,1,2,3,4,5,6,7,8,9,10],[0,1,2,3,4,5,6,7,8,9,10,11],[0,1,2,3,4,5,6,7,8,9,10,11,12],[0,1,2,3,4,5,6,7,8,9,10,11,12],[0,1,2,3,4,5,6,7,8,9,10,11,12,13],[0,1,2,3,4,5,6,7,8,9,10,11,12,13,14,15]] [([],[]),([],[]),([],[]),([],[]),([],[]),([],[]),([],[]),([],[]),([],[]),([],[]),([],[]),([],[]),([],[]),([],[]),([],[]),([],[]),([],[])] 0;(focus (refine dp 0 0 [22,23,24,25,26,27] [] pu1 ?_;refine dp 1 1 [22,23,24,25,26,27] [] (a_pure (sv := .one _) rfl) ?_;refine dp 2 3 [22,23,24,25,26,27] [] (a_pure (sv := .one _) rfl) ?_;refine dp 3 7 [22,23,24,25,26,27] [] (a_pure (sv := .one _) rfl) ?_;refine dp 4 15 [22,23,24,25,26,27] [] puL ?_;refine dp 5 0 [17,18,19,20,21] [] pu1 ?_;refine dp 6 1 [17,18,19,20,21] [] (a_pure (sv := .one _) rfl) ?_;refine dp 7 3 [17,18,19,20,21] [] (a_pure (sv := .one _) rfl) ?_;refine dp 8 7 [17,18,19,20,21] [] puL ?_;refine dp 9 15 [17,18,19,20,21] [] puI ?_;refine dp 10 31 [17,18,19,20,21] [] puL ?_;refine dp 11 2047 [] [] (callD1 (n := _) 0 (θ := []) (hD := (BinarySearch_ok _ _ preB46_2 preB46_2))) ?_;refine dp 12 4095 [] [] pu1 ?_;refine dp 13 8191 [30] [] pu2 ?_;refine dp 14 16382 [29,3] [] pu2 ?_;refine dp 15 32766 [30] [] pu1 ?_;refine dp 16 65535 [] [] pu1 ?_;(refine d_nil ?_;refine dN ?_)));any_goals kernel_rfl)|((refine g_cond rfl (fun hc => ?_) (fun hc => ?_)) <;> (try simp only [dcB] at hc) <;> (try first|contradiction|(exfalso;omega)))|fail
  · repeat refine cr ?_
    refine ends_id ?_
    refine endK [] (h2 := ?_) (h3 := ?_) (nd := ?_)
    all_goals (repeat' first|exact ce0|refine ce ?_|refine ce2 ?_ ?_|(refine Or.inr (bx_eq rfl rfl ?_);(try dsimp only [C.ren,C.ren.all]);(try exact rfl))|exact SVLe.refl|refine ceb ?_)
    all_goals first | exact (show nodupB _ = true from rfl) | exact Or.inr rfl | ((unfold tgHalts; simp_all))
  · repeat refine cr ?_
    refine ends_id ?_
    refine endK [] (h2 := ?_) (h3 := ?_) (nd := ?_)
    all_goals (repeat' first|exact ce0|refine ce ?_|refine ce2 ?_ ?_|(refine Or.inr (bx_eq rfl rfl ?_);(try dsimp only [C.ren,C.ren.all]);(try exact rfl))|exact SVLe.refl|refine ceb ?_)
    all_goals first | exact (show nodupB _ = true from rfl) | exact Or.inr rfl | ((unfold tgHalts; rw [← get0_headD (by show 0 < q.length; omega)]; simp_all))
theorem tagStep_ok (t : Tg) (q : List Int) (hv : vTag t = true) (h0 : t.de ≤ (q.length : Int)) (hi : 0 ≤ q.headD 0 ∧ q.headD 0 < t.wo.length) (hq : (q.length : Int) ≤ 1048576) (hx : (t.ha.length : Int) ≤ 1048576) : Does Tryz.prog 332 [.one (.gv 0)] [.bx (tgR t 1),.row 1 (rows eI q)] (.one (boo (!tgOver t q))) [.bx (tgR t 2),.dead,.row 1 (rows eI (tgStep t q))] := by
  have hb := vTag_bd hv
  have hq : Int.toNat 0 < q.length := by show 0 < q.length; omega
  have e := get0_headD hq
  rw [← e] at hi
  have h1 := (vTag_w hv (List.getElem_mem (show (q[Int.toNat 0]'hq).toNat < t.wo.length by omega))).1
  have h2 : ((q ++ t.wo[(q[Int.toNat 0]'hq).toNat]).length : Int) = q.length + (t.wo[(q[Int.toNat 0]'hq).toNat]).length := by simp
  have h3 : tgOut t q = q ++ t.wo[(q[Int.toNat 0]'hq).toNat] := by unfold tgOut; rw [← e,List.getD_eq_getElem?_getD,List.getElem?_eq_getElem (by omega)]; rfl
  refine does_of (k := 2) Tryz.func332 rfl Tryz.ntmps332 rfl rfl fun w F0 S0 ρ0 => ?_
  dsimp only [argT,argH]
  repeat' first|(apply p3;(first|exact pu1|exact puN|exact puC);exact rfl)|refine cd ?_|(apply g_drN (id := 1) okM [[],[],[1],[1,2],[1,2,3],[],[5],[5,6],[5,6,7],[5,6,7,8],[],[10],[10,11],[10,11,12],[10,11,12,13],[10,11,12,13,14],[5,6,7,8,9,10,11,12,13,14,15],[5,6,7,8,9,10,11,12,13,14,15,16],[1,2,3,4,5,6,7,8,9,10,11,12,13,14,15,16,17],[0,1,2,3,4,5,6,7,8,9,10,11,12,13,14,15,16,17,18],[0,1,2,3,4,5,6,7,8,9,10,11,12,13,14,15,16,17,18,19],[0,1,2,3,4,5,6,7,8,9,10,11,12,13,14,15,16,17,18,19,20]] [([],[]),([],[]),([],[]),([],[]),([],[]),([],[]),([],[]),([],[]),([],[]),([],[]),([],[]),([],[]),([],[]),([],[]),([],[]),([],[]),([],[]),([],[]),([0],[1]),([],[]),([],[]),([],[0])] 1;(focus (refine dp 0 0 [5,6,7,8,9,10,11,12,13,14,15,16,17,18,19,20,21,22] [(true,0),(false,1)] pu1 ?_;refine dp 1 0 [4,9,10,11,12,13,14,15,16,17,18,19,20,21] [] pu1 ?_;refine dp 2 1 [4,9,10,11,12,13,14,15,16,17,18,19,20,21] [] (a_pure (sv := .one _) rfl) ?_;refine dp 3 3 [4,9,10,11,12,13,14,15,16,17,18,19,20,21] [] (a_pure (sv := .one _) rfl) ?_;refine dp 4 7 [4,9,10,11,12,13,14,15,16,17,18,19,20,21] [] puL ?_;refine dp 5 0 [4,5,6,7,8,14,15,16,17,18,19] [] pu1 ?_;refine dp 6 1 [4,5,6,7,8,14,15,16,17,18,19] [] (a_pure (sv := .one _) rfl) ?_;refine dp 7 3 [4,5,6,7,8,14,15,16,17,18,19] [] (a_pure (sv := .one _) rfl) ?_;refine dp 8 7 [4,5,6,7,8,14,15,16,17,18,19] [] (a_pure (sv := .one _) rfl) ?_;refine dp 9 15 [4,5,6,7,8,14,15,16,17,18,19] [] puL ?_;refine dp 10 0 [4,5,6,7,8,9,10,11,12,13] [] pu1 ?_;refine dp 11 1 [4,5,6,7,8,9,10,11,12,13] [] (a_pure (sv := .one _) rfl) ?_;refine dp 12 3 [4,5,6,7,8,9,10,11,12,13] [] (a_pure (sv := .one _) rfl) ?_;refine dp 13 7 [4,5,6,7,8,9,10,11,12,13] [] puL ?_;refine dp 14 15 [4,5,6,7,8,9,10,11,12,13] [] puI ?_;refine dp 15 31 [4,5,6,7,8,9,10,11,12,13] [] puL ?_;refine dp 16 2047 [4,5,6,7,8] [] puI ?_;refine dp 17 4095 [4,5,6,7,8] [] puL ?_;refine duE 18 131071 [4] [] (atS 0 (fun _ hj => a_appE (fP rfl) rfl rfl rfl rfl nowR (by omega) (by decide) hj (by exact rfl)) (by decide)) (by exact rfl) (by exact rfl) ?_;refine dp 19 524287 [] [] (a_pure (sv := .one _) rfl) ?_;refine dp 20 1048575 [] [] (a_pure (sv := .one _) rfl) ?_;refine duE 21 2097151 [] [] (by exact a_st_bx rfl rfl rfl rfl (fN rfl rfl) (Nat.le_of_ble_eq_true rfl) rfl) (by exact rfl) (by exact rfl) ?_;(refine d_nil ?_;refine dN ?_)));any_goals kernel_rfl)|(apply g_drN (id := 3) okM [[],[],[1],[1,2],[1,2,3],[],[5],[5,6],[5,6,7],[5,6,7,8],[1,2,3,4,5,6,7,8,9],[0,1,2,3,4,5,6,7,8,9,10],[0,1,2,3,4,5,6,7,8,9,10,11],[0,1,2,3,4,5,6,7,8,9,10,11,12]] [([],[]),([],[]),([],[]),([],[]),([],[]),([],[]),([],[]),([],[]),([],[]),([],[]),([0],[2]),([],[]),([],[]),([],[0])] 1;(focus (refine dp 0 0 [32,33,34,35,36,37,38,39,40,41] [(true,0),(false,2)] pu1 ?_;refine dp 1 0 [31,36,37,38,39,40] [] pu1 ?_;refine dp 2 1 [31,36,37,38,39,40] [] (a_pure (sv := .one _) rfl) ?_;refine dp 3 3 [31,36,37,38,39,40] [] (a_pure (sv := .one _) rfl) ?_;refine dp 4 7 [31,36,37,38,39,40] [] puL ?_;refine dp 5 0 [31,32,33,34,35] [] pu1 ?_;refine dp 6 1 [31,32,33,34,35] [] (a_pure (sv := .one _) rfl) ?_;refine dp 7 3 [31,32,33,34,35] [] (a_pure (sv := .one _) rfl) ?_;refine dp 8 7 [31,32,33,34,35] [] (a_pure (sv := .one _) rfl) ?_;refine dp 9 15 [31,32,33,34,35] [] puL ?_;refine duE 10 511 [31] [] (atS 0 (fun _ hj => a_slTO rfl rfl rfl (fS rfl) (by omega) (by omega) (by exact rfl) hj) (by decide)) (by exact rfl) (by exact rfl) ?_;refine dp 11 2047 [] [] (a_pure (sv := .one _) rfl) ?_;refine dp 12 4095 [] [] (a_pure (sv := .one _) rfl) ?_;refine duE 13 8191 [] [] (by exact a_st_bx rfl rfl rfl rfl (fN rfl rfl) (Nat.le_of_ble_eq_true rfl) rfl) (by exact rfl) (by exact rfl) ?_;(refine d_nil ?_;refine dN ?_)));any_goals kernel_rfl)|fail
  repeat refine cr ?_
  refine ends_id ?_
  refine endK [?_] (h2 := ?_) (h3 := ?_) (nd := ?_)
  rotate_left 1
  all_goals (repeat' first|exact ce0|refine ce ?_|refine ce2 ?_ ?_|(refine Or.inr (bx_eq rfl rfl ?_);(try dsimp only [C.ren,C.ren.all]);(try exact rfl))|exact SVLe.refl|refine ceb ?_)
  all_goals first | exact (show nodupB _ = true from rfl) | exact Or.inr rfl | ((first | (unfold tgStep; rw [h3]; done) | (rw [tgOver,h3,Bool.not_not]; done)))
end Go.Proofs.YtnkeamihfiobdaaGreatDoor
end
section
set_option linter.unusedVariables false
set_option linter.unusedSimpArgs false
set_option maxRecDepth 100000
set_option maxHeartbeats 4000000
namespace Go.Proofs.YtnkeamihfiobdaaGreatDoor
open Go Foot
def trA (t : Tg) : Nat → List (List Int) → List Int → List (List Int) × Bool
  | 0,l,w => (l ++ [w],true)
  | k + 1,l,w => bif tgHalts t w then (l ++ [w],true) else bif tgOver t w then ([],false) else trA t k (l ++ [w]) (tgStep t w)
def trR (t : Tg) : Nat → List (List Int) → List Int → (Int × Bool × Int) × List (List Int)
  | 0,l,w => (((l.length : Int),tgHalts t w,0),l ++ [w])
  | k + 1,l,w => bif tgHalts t w then (((l.length : Int),true,0),l ++ [w]) else bif tgOver t w then ((0,false,5),l ++ [w]) else trR t k (l ++ [w]) (tgStep t w)
theorem trA_0 {t : Tg} {l : List (List Int)} {w : List Int} : trA t 0 l w = (l ++ [w],true) := by rw [trA]
theorem trA_h {t : Tg} {k : Nat} {l : List (List Int)} {w : List Int} (h : tgHalts t w = true) : trA t k l w = (l ++ [w],true) := by
  cases k with
  | zero => rw [trA]
  | succ k => rw [trA,h]; rfl
theorem trA_o {t : Tg} {k : Nat} {l : List (List Int)} {w : List Int} (h : tgHalts t w = false) (o : tgOver t w = true) : trA t (k + 1) l w = ([],false) := by
  rw [trA,h,o]; rfl
theorem trA_s {t : Tg} {k : Nat} {l : List (List Int)} {w : List Int} (h : tgHalts t w = false) (o : tgOver t w = false) : trA t (k + 1) l w = trA t k (l ++ [w]) (tgStep t w) := by
  rw [trA,h,o]; rfl
theorem trR_0 {t : Tg} {l : List (List Int)} {w : List Int} : trR t 0 l w = (((l.length : Int),tgHalts t w,0),l ++ [w]) := by rw [trR]
theorem trR_h {t : Tg} {k : Nat} {l : List (List Int)} {w : List Int} (h : tgHalts t w = true) : trR t k l w = (((l.length : Int),true,0),l ++ [w]) := by
  cases k with
  | zero => rw [trR,h]
  | succ k => rw [trR,h]; rfl
theorem trR_o {t : Tg} {k : Nat} {l : List (List Int)} {w : List Int} (h : tgHalts t w = false) (o : tgOver t w = true) : trR t (k + 1) l w = ((0,false,5),l ++ [w]) := by
  rw [trR,h,o]; rfl
theorem trR_s {t : Tg} {k : Nat} {l : List (List Int)} {w : List Int} (h : tgHalts t w = false) (o : tgOver t w = false) : trR t (k + 1) l w = trR t k (l ++ [w]) (tgStep t w) := by
  rw [trR,h,o]; rfl
theorem trA_R {t : Tg} : ∀ (k : Nat) (l : List (List Int)) (w : List Int),trA t k l w = if (trR t k l w).1.2.2 = 0 then ((trR t k l w).2,true) else ([],false)
  | 0,l,w => by rw [trA_0,trR_0]; simp
  | k + 1,l,w => by
    cases h : tgHalts t w with
    | true => rw [trA_h h,trR_h h]; simp
    | false =>
      cases o : tgOver t w with
      | true => rw [trA_o h o,trR_o h o]; simp
      | false => rw [trA_s h o,trR_s h o]; exact trA_R k _ _
end Go.Proofs.YtnkeamihfiobdaaGreatDoor
end
section
set_option linter.unusedVariables false
set_option linter.unusedSimpArgs false
set_option maxRecDepth 100000
namespace Go.Proofs.YtnkeamihfiobdaaGreatDoor
open Go Foot Go.Shelf Go.RowKit
theorem bd_size : (Tryz.prog.info? 134).map (·.size) = some 2 := by kernel_rfl
theorem bd_lies : liesAt Tryz.prog Tryz.prog.depth 134 (2 / Tryz.prog.cellsOf 134) 0 134 1 = true := by kernel_rfl
theorem by_info : (Tryz.prog.info? 5).map (fun i => (i.zero,i.size,i.bytes)) = some (some (.int .u8 0),1,1) := by kernel_rfl
set_option maxHeartbeats 2000000 in
theorem bs_check {b e : Nat} {p v : Value} {xs : List Value} {w : World} (h : Bl w 134 e b p v xs) :
    Calls Tryz.prog 162 #[self b] w fun en w' => en = .returned (.tuple #[]) ∧ w'.heap.size = w.heap.size ∧ Bl w' 134 e b (self b) v xs ∧ Fr b none w w' := by
  obtain ⟨j,hj,hjs⟩ := Option.map_eq_some_iff.1 bd_size
  rcases h.adr with hp | hp
  · subst hp
    have h0 : w.cell? ⟨b,0,none⟩ = some (.pointer none) := by rw [Lib.cell_of_heap h.at_]; rfl
    have hfz : w.frozen? ⟨b,0,none⟩ = false := Lib.frozen_of_heap h.at_ 0
    have hsh : w.shape? b = some (134,2) := by simp [World.shape?,h.at_]
    have fin : Bl (w.setCell ⟨b,0,none⟩ (self b)) 134 e b (self b) v xs := by
      refine ⟨.inr rfl,?_,?_,h.ne⟩
      · simp [World.setCell,Array.getElem?_modify,h.at_]
      · exact h.own.kept (row := some b) ⟨rfl,rfl,rfl,by simp [World.setCell],fun k _ hk => Below.heap_setCell _ _ _ _ (fun e => hk (by simp [e]))⟩ (Or.inr h.ne)
    clear h
    refine Calls.mono (R := fun en w' => en = .returned (.tuple #[]) ∧ w' = w.setCell ⟨b,0,none⟩ (self b)) ?_ ?_
    · go_enter Tryz.func162,Tryz.ntmps162
      go_wp2
      rw [Lib.run_to_unsafe w ⟨b,0,none⟩ Tryz.underlying132 Tryz.underlying268 hj (by rw [hjs]; decide) hsh (Nat.zero_lt_succ 1)]
      simp only [Result.andThen]
      rw [Oper.upon_value]
      go_wp2
      rw [run_callFunc_extern Tryz.func232 (by kernel_rfl) (by kernel_rfl) (by kernel_rfl) (e := Extern.AbiNoEscape.same) (by kernel_rfl)]
      rw [Lib.run_noEscape]
      simp only [Result.andThen]
      rw [Oper.upon_value]
      go_wp2
      rw [Lib.run_from_unsafe w ⟨b,0,none⟩ Tryz.underlying268 Tryz.underlying132 hj hsh bd_lies]
      simp only [Result.andThen]
      rw [Oper.upon_value]
      go_wp2
      go_end0
      exact ⟨rfl,rfl⟩
    · rintro en w' ⟨rfl,rfl⟩
      exact ⟨rfl,by simp [World.setCell],fin,Fr.set _ _ _ _ _⟩
  · subst hp
    have h0 : w.cell? ⟨b,0,none⟩ = some (.pointer (some ⟨b,0,none⟩)) := by rw [Lib.cell_of_heap h.at_]; rfl
    have fin := h
    clear h
    refine Calls.mono (R := fun en w' => en = .returned (.tuple #[]) ∧ w' = w) ?_ ?_
    · go_enter Tryz.func162,Tryz.ntmps162
      go_wp2
      rw [Lib.run_neq_ptr_same w _ Tryz.underlying132 hj]
      go_wp2
      go_end0
      exact ⟨rfl,rfl⟩
    · rintro en w' ⟨rfl,rfl⟩
      exact ⟨rfl,rfl,fin,Fr.refl _ _ _⟩
set_option maxHeartbeats 4000000 in
theorem bs_AppendRune {v : Value} {n : Nat} {xs : List Value} {r : Int} (hr0 : 0 ≤ r) (hr1 : r ≤ 127) {w : World} (hown : w.ownsRowF 0 5 1 v n xs) (hlen : n + 1 ≤ 140737488355328) :
    Calls Tryz.prog 240 #[v,.int .i32 r] w fun e w' => ∃ v',e = .returned v' ∧ w'.ownsRowF 0 5 1 v' (n + 1) (xs ++ [.int .u8 r]) ∧ OldNew w v.ownBlock v'.ownBlock ∧ ∃ o,(w.alloc o).grownBy w' v.ownBlock := by
  obtain ⟨i0,hi,hz0,hz1,hz2⟩ := info_parts by_info
  go_enter Tryz.func240,Tryz.ntmps240
  go_wp2_with (at_builtin; refine wpl_byte rfl _ _ 22 rfl 5 i0 Tryz.underlying22 hi hz0 hz1 hz2 _ _ _ rfl (hown.alloc _) ⟨w.heap.size,0,none⟩ 1 (.int .u8 r) rfl ?c1 rfl ?c4 ?_)
  all_goals first
    | (intro v' w2 hown' hgrow hon
       go_wp2
       go_ret
       refine ⟨_,rfl,hown',?_,_,hgrow⟩
       rcases hon with e | e | ⟨g,e,hg⟩
       · exact .inl e
       · exact .inr (.inl e)
       · exact .inr (.inr ⟨g,e,by simp at hg; omega⟩))
    | omega
    | (simp; omega)
    | simp
    | rfl
set_option maxHeartbeats 4000000 in
theorem bs_WriteRune {b : Nat} {p v : Value} {xs : List Value} {w : World} (h : Bl w 134 5 b p v xs) {r : Int} (hr0 : 0 ≤ r) (hr1 : r ≤ 127) (hlen : xs.length + 1 ≤ 140737488355328) :
    Calls Tryz.prog 183 #[self b,.int .i32 r] w fun e w' => e = .returned (.tuple #[.int .i64 1,.nilIface]) ∧ BlTo w w' 134 5 b v (xs ++ [.int .u8 r]) := by
  have e240 : ∀ args w,(callFunc 162 args).run Tryz.prog w = .ok (.enter 162 args) w := enters_of Tryz.func162 (by kernel_rfl) rfl
  have e242 : ∀ args w,(callFunc 240 args).run Tryz.prog w = .ok (.enter 240 args) w := enters_of Tryz.func240 (by kernel_rfl) rfl
  go_enter Tryz.func183,Tryz.ntmps183
  go_wp2_with (go_at_fn 162; refine (bs_check h).mono ?_)
  rintro e w1 ⟨rfl,-,h1,hf1⟩
  have hbk := h1.at_
  have hne := h1.ne
  have hown := h1.own
  clear h h1
  obtain ⟨ao,cap,rfl⟩ : ∃ ao cap,v = .slice ao xs.length cap := by
    rcases hown.2 with ⟨hv,h0⟩ | ⟨g,cap,cur,fz,hv,_⟩
    · exact ⟨none,0,by rw [hv,h0]⟩
    · exact ⟨_,_,hv⟩
  have c0 : w1.cell? ⟨b,0,none⟩ = some (self b) := by rw [Lib.cell_of_heap hbk]; rfl
  have c1 : w1.cell? ⟨b,1,none⟩ = some (.slice ao xs.length cap) := by rw [Lib.cell_of_heap hbk]; rfl
  go_wp2_with (go_at_fn 240; refine (bs_AppendRune hr0 hr1 hown hlen).mono ?_)
  rintro e w2 ⟨v',rfl,hown',hon,o,hgrow⟩
  have hlt : b < w1.heap.size := heap_lt hbk
  have hb2 : w2.heap[b]? = some (.cells #[self b,.slice ao xs.length cap] 134 (0,0)) := by
    rw [hgrow.block b (by simp; omega) (fun e => hne e.symm),Lib.alloc_old w1 _ b hlt]
    exact hbk
  have d0 : w2.cell? ⟨b,0,none⟩ = some (self b) := by rw [Lib.cell_of_heap hb2]; rfl
  have d1 : w2.cell? ⟨b,1,none⟩ = some (.slice ao xs.length cap) := by rw [Lib.cell_of_heap hb2]; rfl
  have f1 : w2.frozen? ⟨b,1,none⟩ = false := Lib.frozen_of_heap hb2 1
  obtain ⟨g,cap',rfl⟩ : ∃ g cap',v' = .slice (some ⟨g,0,none⟩) (xs.length + 1) cap' := by
    rcases hown'.2 with ⟨_,h0⟩ | ⟨g,cap',cur,fz,hv,_⟩
    · omega
    · exact ⟨g,cap',hv⟩
  go_wp2
  go_ret2
  obtain ⟨_,v2,k1,k2,k3⟩ := Lib.BuilderAtF.put (T := 134) (e := 5) (B := 0) (Nat.zero_le b) hb2 (bs' := xs ++ [.int .u8 r]) (by simpa using hown') (by decide)
  have hv2 : v2 = .slice (some ⟨g,0,none⟩) (xs.length + 1) cap' := by
    have : (w2.setCell ⟨b,1,none⟩ (.slice (some ⟨g,0,none⟩) (xs.length + 1) cap')).cell? ⟨b,1,none⟩ = some v2 := by rw [Lib.cell_of_heap k1]; rfl
    rw [cell_set_same d1] at this
    exact (Option.some.inj this).symm
  subst hv2
  refine ⟨?_,_,_,⟨.inr rfl,k1,k2,k3⟩,?_,((hf1.mono).trans (Fr.alloc _ none _ _) (by simp)).trans ((Fr.of hgrow).trans (Fr.set _ _ none _ _) (by simp)) (fun k _ e => e)⟩
  · have e : ((xs.length : Int) + 1 - (xs.length : Int)) = 1 := by omega
    simp [e]
  rcases hon with e | e | ⟨g,e,hg⟩
  · exact .inl e
  · exact .inr (.inl e)
  · exact .inr (.inr ⟨g,e,by have := hf1.size; omega⟩)
end Go.Proofs.YtnkeamihfiobdaaGreatDoor
end
