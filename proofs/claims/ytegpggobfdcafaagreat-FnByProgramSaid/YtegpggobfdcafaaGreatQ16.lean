/- Parts of the proof (16 of 19). -/
import Derived.Maps.RangeRun
import Derived.Test.YtegpggobfdcafaaGreatQ15
section
set_option linter.unusedVariables false
set_option linter.unusedSimpArgs false
set_option maxRecDepth 100000
namespace Go.Proofs.YtegpggobfdcafaaGreat
open Go Foot MapKept
section
variable {P : Program} {g : Gh} {t : List (Nat × SV)} {h : List (Nat × GB)} {n : Nat} {Q : Exit → St → Prop} {ops : Array Oper} {l : List Oper}
variable {ty : TypeId} {pos : String} {after : Array Edge} {x : Operand} {T kt et : TypeId} {α β : Type}
variable {st : St} {dst : Option Tmp} {guard : Option (Nat × Bool)}
end
end Go.Proofs.YtegpggobfdcafaaGreat
end
section
set_option linter.unusedVariables false
set_option linter.unusedSimpArgs false
set_option maxRecDepth 100000
set_option maxHeartbeats 4000000
namespace Go.Proofs.YtegpggobfdcafaaGreat
open Go Foot
end Go.Proofs.YtegpggobfdcafaaGreat
end
section
set_option linter.unusedVariables false
set_option linter.unusedSimpArgs false
set_option maxRecDepth 100000
set_option maxHeartbeats 4000000
namespace Go.Proofs.YtegpggobfdcafaaGreat
open Go Foot
@[irreducible] def tgWord (n : Int) (l : List Int) : Bool := inAll 0 (n - 1) l && decide ((l.length : Int) ≤ 1000)
@[irreducible] def vTag (t : Tg) : Bool := decide (1 ≤ t.de ∧ t.de ≤ 4) && decide (1 ≤ (t.wo.length : Int) ∧ (t.wo.length : Int) ≤ 200) && (risesL t.ha && inAll 0 ((t.wo.length : Int) - 1) t.ha) && t.wo.all (tgWord t.wo.length)
@[irreducible] def tgHalts (t : Tg) (w : List Int) : Bool := decide ((w.length : Int) < t.de) || decide (w.headD 0 ∈ t.ha)
@[irreducible] def tgOut (t : Tg) (w : List Int) : List Int := w ++ t.wo.getD (w.headD 0).toNat []
@[irreducible] def tgStep (t : Tg) (w : List Int) : List Int := (tgOut t w).drop t.de.toNat
@[irreducible] def tgOver (t : Tg) (w : List Int) : Bool := !decide (((tgOut t w).length : Int) ≤ 1000)
theorem vTag_bd {t : Tg} (h : vTag t = true) : (1 ≤ t.de ∧ t.de ≤ 4) ∧ 1 ≤ (t.wo.length : Int) ∧ (t.wo.length : Int) ≤ 200 := by
  unfold vTag at h
  simp only [Bool.and_eq_true,decide_eq_true_eq] at h
  omega
theorem vTag_w {t : Tg} (h : vTag t = true) {x : List Int} (hx : x ∈ t.wo) : (x.length : Int) ≤ 1000 ∧ ∀ y ∈ x,0 ≤ y ∧ y < t.wo.length := by
  unfold vTag at h
  simp only [Bool.and_eq_true,List.all_eq_true] at h
  have := h.2 x hx
  unfold tgWord inAll at this
  simp only [Bool.and_eq_true,List.all_eq_true,decide_eq_true_eq] at this
  exact ⟨this.2,fun y hy => by have := this.1 y hy; omega⟩
structure Gd (t : Tg) (q : List Int) : Prop where
  wd : ∀ y ∈ q,0 ≤ y ∧ y < t.wo.length
  le : (q.length : Int) ≤ 1000
theorem tgHalts_no {t : Tg} {q : List Int} (h : tgHalts t q = false) : t.de ≤ q.length := by
  unfold tgHalts at h
  simp at h
  omega
theorem tgHead {t : Tg} {q : List Int} (hv : vTag t = true) (hg : Gd t q) (h : tgHalts t q = false) : 0 ≤ q.headD 0 ∧ q.headD 0 < t.wo.length := by
  have h1 := tgHalts_no h
  have h2 := vTag_bd hv
  cases q with
  | nil => simp at h1; omega
  | cons a q => exact hg.wd a (by simp)
theorem tgStep_gd {t : Tg} {q : List Int} (hv : vTag t = true) (hg : Gd t q) (h : tgHalts t q = false) (ho : tgOver t q = false) : Gd t (tgStep t q) := by
  obtain ⟨h1,h2⟩ := tgHead hv hg h
  have hlt : (q.headD 0).toNat < t.wo.length := by omega
  have hout : tgOut t q = q ++ t.wo[(q.headD 0).toNat] := by unfold tgOut; rw [List.getD_eq_getElem?_getD,List.getElem?_eq_getElem hlt]; rfl
  refine ⟨fun y hy => ?_,?_⟩
  · unfold tgStep at hy
    have := List.mem_of_mem_drop hy
    rw [hout] at this
    rcases List.mem_append.1 this with hy | hy
    · exact hg.wd y hy
    · exact (vTag_w hv (List.getElem_mem hlt)).2 y hy
  · unfold tgOver at ho
    unfold tgStep
    simp at ho
    rw [List.length_drop]
    omega
section
variable {α : Type} {f : α → α} {h o : α → Bool} {x : α} {k : Nat}
end
section
variable {α : Type} [DecidableEq α] {f : α → α} {h o : α → Bool} {x y : α} {k p l : Nat}
end
end Go.Proofs.YtegpggobfdcafaaGreat
end
section
set_option linter.unusedVariables false
set_option linter.unusedSimpArgs false
set_option maxRecDepth 100000
set_option maxHeartbeats 4000000
namespace Go.Proofs.YtegpggobfdcafaaGreat
open Go Foot
end Go.Proofs.YtegpggobfdcafaaGreat
end
section
set_option linter.unusedVariables false
set_option linter.unusedSimpArgs false
set_option maxRecDepth 100000
set_option maxHeartbeats 4000000
namespace Go.Proofs.YtegpggobfdcafaaGreat
open Go Foot
abbrev tgR (t : Tg) (i : Nat) : List C := [int t.de,shW t.wo,shI t.ha,.gv i]
theorem isNaN_ok (a : Int) : Does Tryz.prog 165 [.one (int a)] [] (.one (boo false)) [] := by
  refine does_of (k := 0) Tryz.func165 rfl Tryz.ntmps165 rfl rfl fun w F0 S0 ρ0 => ?_
  dsimp only [argT,argH]
  repeat' first|(apply p3;(first|exact pu1|exact a_ne rfl rfl);exact rfl)|refine cd ?_|fail
  repeat refine cr ?_
  refine ends_id ?_
  refine endK [] (h2 := ?_) (h3 := ?_) (nd := ?_)
  all_goals (repeat' first|exact ce0|refine ce ?_|refine ce2 ?_ ?_|exact SVLe.refl|refine ceb ?_)
  all_goals first | exact (show nodupB _ = true from rfl) | exact Or.inr rfl | (simp)
theorem sNaN_ok (a : Int) : Does Tryz.prog 112 [.one (int a)] [] (.one (boo false)) [] := by
  refine does_of (k := 0) Tryz.func112 rfl Tryz.ntmps112 rfl rfl fun w F0 S0 ρ0 => ?_
  dsimp only [argT,argH]
  repeat' first|(apply p3;(first|exact pu1|exact a_ne rfl rfl);exact rfl)|refine cd ?_|fail
  repeat refine cr ?_
  refine ends_id ?_
  refine endK [] (h2 := ?_) (h3 := ?_) (nd := ?_)
  all_goals (repeat' first|exact ce0|refine ce ?_|refine ce2 ?_ ?_|exact SVLe.refl|refine ceb ?_)
  all_goals first | exact (show nodupB _ = true from rfl) | exact Or.inr rfl | (simp)
theorem cLess_ok (a b : Int) : Does Tryz.prog 111 [.one (int a),.one (int b)] [] (.one (boo (decide (a < b)))) [] := by
  refine does_of (k := 0) Tryz.func111 rfl Tryz.ntmps111 rfl rfl fun w F0 S0 ρ0 => ?_
  dsimp only [argT,argH]
  repeat' first|(apply p3;(exact pu1);exact rfl)|refine cd ?_|(apply c4 0;exact callK1 (θ := []) (hD := (isNaN_ok _));exact rfl;exact rfl;exact rfl;refine dM ?_)|refine o_no rfl rfl rfl rfl ?_|(apply py3;exact rfl;exact rfl;(first|exact pu1|exact puC);exact rfl;exact rfl)|fail
  repeat refine cr ?_
  refine ends_id ?_
  refine endK [] (h2 := ?_) (h3 := ?_) (nd := ?_)
  all_goals (repeat' first|exact ce0|refine ce ?_|refine ce2 ?_ ?_|exact SVLe.refl|refine ceb ?_)
  all_goals first | exact (show nodupB _ = true from rfl) | exact Or.inr rfl | (rfl)
@[irreducible] def lob (l : List Int) (x : Int) : Int := ((l.takeWhile fun y => decide (y < x)).length : Nat)
theorem lob_at {l : List Int} {x i : Int} (h0 : 0 ≤ i) (h1 : i ≤ l.length) (ha : ∀ k : Nat,(k : Int) < i → (h : k < l.length) → l[k] < x) (hb : ∀ k : Nat,i ≤ (k : Int) → (h : k < l.length) → x ≤ l[k]) : lob l x = i := by
  obtain ⟨n,rfl⟩ : ∃ n : Nat,i = n := ⟨i.toNat,by omega⟩
  unfold lob
  congr 1
  induction l generalizing n with
  | nil => simp at h1; simp; omega
  | cons y l ih =>
    cases n with
    | zero =>
      have := hb 0 (by omega) (by simp)
      simp at this
      simp [List.takeWhile_cons]
      omega
    | succ n =>
      have := ha 0 (by omega) (by simp)
      simp at this
      simp only [List.takeWhile_cons,decide_eq_true this,if_true,List.length_cons]
      simp at h1
      rw [ih n (by omega) (by omega) (fun k hk h => by have := ha (k + 1) (by omega) (by simpa using h); simpa using this) (fun k hk h => by have := hb (k + 1) (by omega) (by simpa using h); simpa using this)]
theorem rises_lt {l : List Int} (hr : risesL l = true) {i j : Nat} (hij : i < j) (hj : j < l.length) : l[i] < l[j] := by
  have key : ∀ d i,(h : i + d + 1 < l.length) → l[i]'(by omega) < l[i + d + 1] := by
    intro d
    induction d with
    | zero =>
      intro i h
      unfold risesL at hr
      rw [List.all_eq_true] at hr
      have := hr i (by rw [List.mem_range]; omega)
      rw [decide_eq_true_eq,← get_getD l 0 _ (by omega),← get_getD l 0 _ (by omega)] at this
      exact this
    | succ d ih =>
      intro i h
      have h1 := ih i (by omega)
      unfold risesL at hr
      rw [List.all_eq_true] at hr
      have := hr (i + d + 1) (by rw [List.mem_range]; omega)
      rw [decide_eq_true_eq,← get_getD l 0 _ (by omega),← get_getD l 0 _ (by omega)] at this
      have e : i + (d + 1) + 1 = i + d + 1 + 1 := by omega
      simp only [e]
      omega
  have := key (j - i - 1) i (by omega)
  have e : i + (j - i - 1) + 1 = j := by omega
  simp only [e] at this
  exact this
theorem BinarySearch_ok (l : List Int) (x : Int) (hx : (l.length : Int) ≤ 1048576) (hr : risesL l = true) : Does Tryz.prog 58 [.one (shI l),.one (int x)] [] (.tup [(false,[int (lob l x)]),(false,[boo (decide (x ∈ l))])]) [] := by
  refine does_of (k := 0) Tryz.func58 rfl Tryz.ntmps58 rfl rfl fun w F0 S0 ρ0 => ?_
  dsimp only [argT,argH]
  repeat' first|(apply p3;(first|exact pu1|exact puN);exact rfl)|refine cd ?_|fail
  refine g_loop_id ?_
  refine loopK [0,1,4,5,6] [] (fun z : Int × Int => 0 ≤ z.1 ∧ z.1 ≤ z.2 ∧ z.2 ≤ l.length ∧ (∀ k : Nat,(k : Int) < z.1 → (h : k < l.length) → l[k] < x) ∧ (∀ k : Nat,z.2 ≤ (k : Int) → (h : k < l.length) → x ≤ l[k])) (fun z => [(7,.one (int z.1)),(8,.one (int z.2))]) (fun _ => []) (fun z => (z.2 - z.1).toNat) ((0 : Int),(l.length : Int)) [] (hI := ?_) (hr := ?_)
  · dsimp only
    exact ⟨by omega,by omega,by omega,fun k h => by omega,fun k h h2 => by omega⟩
  · rintro ⟨i,j⟩ ⟨h0,h1,h2,h3,h4⟩
    dsimp only [List.cons_append,List.nil_append] at *
    try dsimp only [tgR]
    skip
    repeat' first|(apply p3;(first|exact pu1|exact puC|exact a_add rfl rfl (by omega) (by omega)|exact u_conv rfl Tryz.underlying3 Tryz.underlying176 bnd bnd|exact u_shr1 rfl rfl (by omega)|exact u_vnoc rfl Tryz.underlying176 Tryz.underlying3 bnd bnd|exact puI);exact rfl)|refine cd ?_|(apply c4 0;exact callK1 (θ := []) (hD := (cLess_ok _ _));exact rfl;exact rfl;exact rfl;refine dM ?_)|refine o_no rfl rfl rfl rfl ?_|(apply py3;exact rfl;exact rfl;(first|exact pu1|exact puC|exact puI);exact rfl;exact rfl)|(apply cy4 0;exact rfl;exact rfl;exact callK1 (θ := []) (hD := (sNaN_ok _));exact rfl;exact rfl;exact rfl;exact rfl;refine dM ?_)|((first|refine o_gs rfl rfl (fun hc => ?_) (fun hc => ?_)|refine g_cond rfl (fun hc => ?_) (fun hc => ?_)) <;> (try simp only [dcB] at hc) <;> (try first|contradiction|(exfalso;omega)))|fail
    · have m1 : i ≤ (i + j) / 2 := by omega
      have m2 : (i + j) / 2 < j := by omega
      refine q_again ((i + j) / 2 + 1,j) [] (by exact stk) ?_ ?_
      · dsimp only
        refine ⟨by omega,by omega,by omega,fun k hk h => ?_,h4⟩
        have e : l[((i + j) / 2).toNat]'(by omega) < x := hc
        by_cases ek : k = ((i + j) / 2).toNat
        · subst ek; exact e
        · have := rises_lt hr (show k < ((i + j) / 2).toNat by omega) (by omega)
          omega
      · dsimp only; omega
    · have m1 : i ≤ (i + j) / 2 := by omega
      have m2 : (i + j) / 2 < j := by omega
      refine q_again (i,(i + j) / 2) [] (by exact stk) ?_ ?_
      · dsimp only
        refine ⟨by omega,by omega,by omega,h3,fun k hk h => ?_⟩
        have e : ¬ l[((i + j) / 2).toNat]'(by omega) < x := hc
        by_cases ek : k = ((i + j) / 2).toNat
        · subst ek; omega
        · have := rises_lt hr (show ((i + j) / 2).toNat < k by omega) h
          omega
      · dsimp only; omega
    · have e1 := lob_at h0 (by omega) h3 (fun k hk h => h4 k (by omega) h)
      have e2 : x ∈ l := by rw [← hc]; exact List.getElem_mem _
      repeat refine cr ?_
      refine ends_id ?_
      refine endK [] (h2 := ?_) (h3 := ?_) (nd := ?_)
      all_goals (repeat' first|exact ce0|refine ce ?_|refine ce2 ?_ ?_|exact SVLe.refl|refine ceb ?_)
      all_goals first | exact (show nodupB _ = true from rfl) | exact Or.inr rfl | ((first | (rw [e1]; done) | (rw [decide_eq_true e2]; done)))
    · have e1 := lob_at h0 (by omega) h3 (fun k hk h => h4 k (by omega) h)
      have e2 : ¬ x ∈ l := by
        intro hm
        obtain ⟨k,hk,rfl⟩ := List.getElem_of_mem hm
        by_cases h5 : (k : Int) < i
        · have := h3 k h5 hk; omega
        · by_cases ek : k = i.toNat
          · subst ek; exact hc rfl
          · have := rises_lt hr (show i.toNat < k by omega) hk
            have := h4 i.toNat (by omega) (by omega)
            omega
      repeat refine cr ?_
      refine ends_id ?_
      refine endK [] (h2 := ?_) (h3 := ?_) (nd := ?_)
      all_goals (repeat' first|exact ce0|refine ce ?_|refine ce2 ?_ ?_|exact SVLe.refl|refine ceb ?_)
      all_goals first | exact (show nodupB _ = true from rfl) | exact Or.inr rfl | ((first | (rw [e1]; done) | (rw [decide_eq_false e2]; done)))
    · have e1 := lob_at h0 (by omega) h3 (fun k hk h => h4 k (by omega) h)
      have e2 : ¬ x ∈ l := by
        intro hm
        obtain ⟨k,hk,rfl⟩ := List.getElem_of_mem hm
        have := h3 k (by omega) hk
        omega
      repeat refine cr ?_
      refine ends_id ?_
      refine endK [] (h2 := ?_) (h3 := ?_) (nd := ?_)
      all_goals (repeat' first|exact ce0|refine ce ?_|refine ce2 ?_ ?_|exact SVLe.refl|refine ceb ?_)
      all_goals first | exact (show nodupB _ = true from rfl) | exact Or.inr rfl | ((first | (rw [e1]; done) | (rw [decide_eq_false e2]; done)))
theorem vTag_r {t : Tg} (h : vTag t = true) : risesL t.ha = true := by
  unfold vTag at h
  simp only [Bool.and_eq_true] at h
  exact h.1.2.1
end Go.Proofs.YtegpggobfdcafaaGreat
end
section
set_option linter.unusedVariables false
set_option linter.unusedSimpArgs false
set_option maxRecDepth 100000
set_option maxHeartbeats 4000000
namespace Go.Proofs.YtegpggobfdcafaaGreat
open Go Foot Go.RowKit
theorem celG_nil {sy n : Int} (h : ¬ 0 < n) : celG sy n = [] := by unfold celG; rw [dif_neg (fun q => h q.1)]
theorem celG_cons {sy n : Int} (hs : 2 ≤ sy) (h : 0 < n) : celG sy n = n % sy :: celG sy (n / sy) := by rw [celG,dif_pos ⟨h,hs⟩]
theorem celG_len {sy : Int} (hs : 2 ≤ sy) : ∀ (k : Nat) (n : Int),n < 2 ^ k → (celG sy n).length ≤ k
  | 0,n,h => by rw [celG_nil (by simp at h; omega)]; simp
  | k + 1,n,h => by
    by_cases hn : 0 < n
    · rw [celG_cons hs hn,List.length_cons]
      have h2 : n / sy ≤ n / 2 := by
        have h0 := Int.ediv_nonneg (Int.le_of_lt hn) (show 0 ≤ sy by omega)
        have h1 := Int.ediv_mul_le n (show sy ≠ 0 by omega)
        have h3 : n / sy * 2 ≤ n / sy * sy := Int.mul_le_mul_of_nonneg_left hs h0
        omega
      have hp : (2 : Int) ^ (k + 1) = 2 ^ k * 2 := by rw [Int.pow_succ]
      have := celG_len hs k (n / sy) (by omega)
      omega
    · rw [celG_nil hn]; simp
theorem preB280 {p : Prop} (h : p := by first | with_reducible assumption | omega | (simp only [List.length_append,List.length_cons,List.length_nil,List.length_set,List.length_replicate,List.length_take,List.length_drop,List.length_tail,List.length_dropLast,List.length_reverse] at *; omega) | exact mem_len (by assumption) (by omega) | (with_reducible refine Int.le_trans (Int.ofNat_le.2 (trimR_len _)) ?_; simp only [List.length_cons,List.length_tail]; omega) | (exact (ruAt_ok (by assumption) (by assumption) (by assumption)).2.1) | (exact (ruAt_ok (by assumption) (by assumption) (by assumption)).2.1) | (have := vMach_bd (by assumption); omega) | (simp only [List.length_append,List.length_cons,List.length_nil,repW_len,seN_len] at *; omega) | (simp only [mC_ch,mC_tu]; omega) | (have := vTag_bd (by assumption); omega) | (have := (‹Gd _ _›).le; omega) | (exact tgHalts_no (by assumption)) | (exact tgHead (by assumption) (by assumption) (by assumption)) | (exact Int.le_trans (tgStep_gd (by assumption) (by assumption) (by assumption) (by assumption)).le (by decide)) | (exact vTag_r (by assumption)) | (with_reducible refine Int.le_trans (Int.ofNat_le.2 (pushL_len _ _)) ?_; simp only [List.length_dropLast]; omega) | exact ls_at (by assumption) (by omega) | exact pt_gd (by assumption) | exact lv_at (by assumption) (by omega) | exact pt_gd (lv_at (by assumption) (by omega)) | exact (ask_ok (by assumption)).1 | exact (ask_ok (by assumption)).2.1 | exact (ask_ok (by assumption)).2.2.1 | exact (ask_ok (by assumption)).2.2.2 | trivial) : p := h
theorem tapeCellsG_ok (n sy : Int) (h0 : 0 ≤ n) (h1 : n ≤ 1000000) (hs : 2 ≤ sy) (hs2 : sy ≤ 6) : Does Tryz.prog 114 [.one (int n),.one (int sy)] [] (.one (.gv 0)) [roI (celG sy n)] := by
  have hl := celG_len hs 20 n (by omega)
  refine does_of (k := 0) Tryz.func114 rfl Tryz.ntmps114 rfl rfl fun w F0 S0 ρ0 => ?_
  dsimp only [argT,argH]
  repeat' first|(apply n3;(exact a_litE eI [] rfl rfl rfl rfl rfl rfl rfl rfl);exact rfl;refine dA ?_)|(apply p3;(exact pu1);exact rfl)|refine cd ?_|fail
  refine g_loop_id ?_
  refine loopK [1,4] [0] (fun x : Int × List Int => 0 ≤ x.1 ∧ x.1 ≤ n ∧ x.2 ++ celG sy x.1 = celG sy n) (fun x => [(0,.one (int x.1)),(5,.one (.gv 0))]) (fun x => [(0,roI x.2)]) (fun x => x.1.toNat) (n,[]) [0] (hI := ?_) (hr := ?_)
  · exact ⟨h0,by simp,by simp⟩
  · rintro ⟨k,l⟩ ⟨k0,k1,k2⟩
    dsimp only [List.cons_append,List.nil_append] at *
    skip
    repeat' first|refine cdn ?_|fail
    have hll : l.length ≤ 20 := by rw [← k2,List.length_append] at hl; omega
    by_cases hk : 0 < k
    · have e := celG_cons hs hk
      have d1 := Int.ediv_nonneg k0 (show 0 ≤ sy by omega)
      have d2 := Int.emod_nonneg k (show sy ≠ 0 by omega)
      have d3 := Int.ediv_mul_le k (show sy ≠ 0 by omega)
      have d4 : k / sy * 2 ≤ k / sy * sy := Int.mul_le_mul_of_nonneg_left hs d1
      repeat' first|(apply n3;(exact a_litE eI [_] rfl rfl rfl rfl rfl rfl rfl rfl);exact rfl;refine dA ?_)|(apply p3;(first|exact pu1|exact puC|exact a_rem rfl rfl (by omega) (by omega) (by omega)|exact a_quo rfl rfl (by omega) (by omega) (by omega));exact rfl)|refine cd ?_|(apply s3;exact a_appE (fP rfl) rfl rfl rfl rfl nowR (by (simp <;> omega)) (by decide) (by decide) (by exact rfl);exact rfl;exact rfl)|((refine g_cond rfl (fun hc => ?_) (fun hc => ?_)) <;> (try simp only [dcB] at hc) <;> (try first|contradiction|(exfalso;omega)))|fail
      refine q_again (k / sy,l ++ [k % sy]) [2] (by exact stk) ?_ ?_
      · refine ⟨by dsimp only; omega,by dsimp only; omega,?_⟩
        dsimp only
        rw [← k2,e]
        simp
      · dsimp only; omega
    · skip
      have e : l = celG sy n := by rw [← k2,celG_nil hk,List.append_nil]
      rw [← e]
      repeat' first|(apply p3;(first|exact pu1|exact puC);exact rfl)|refine cd ?_|((refine g_cond rfl (fun hc => ?_) (fun hc => ?_)) <;> (try simp only [dcB] at hc) <;> (try first|contradiction|(exfalso;omega)))|fail
      repeat refine cr ?_
      refine ends_id ?_
      refine endK [?_] (h2 := ?_) (h3 := ?_) (nd := ?_)
      rotate_left 1
      all_goals (repeat' first|exact ce0|refine ce ?_|refine ce2 ?_ ?_|(refine Or.inr (bx_eq rfl rfl ?_);(try dsimp only [C.ren,C.ren.all]);(try exact rfl))|exact SVLe.refl|refine ceb ?_)
      all_goals first | exact (show nodupB _ = true from rfl) | exact Or.inr rfl | (rfl)
@[irreducible] def rgL (x y z : Int) : List Int := [x,y,z,0,0,0,0,0,0,0,0,0,0,0,0,0,0,0,0,0,0,0,0,0]
theorem rgL_len (x y z : Int) : (rgL x y z).length = 24 := by unfold rgL; rfl
theorem rgL_0 (x y z : Int) (h : 0 < (rgL x y z).length) : (rgL x y z)[0] = x := by unfold rgL; rfl
theorem rgL_1 (x y z : Int) (h : 1 < (rgL x y z).length) : (rgL x y z)[1] = y := by unfold rgL; rfl
theorem rgL_2 (x y z : Int) (h : 2 < (rgL x y z).length) : (rgL x y z)[2] = z := by unfold rgL; rfl
theorem rgL_s0 (x y z v : Int) : (rgL x y z).set 0 v = rgL v y z := by unfold rgL; rfl
theorem rgL_s1 (x y z v : Int) : (rgL x y z).set 1 v = rgL x v z := by unfold rgL; rfl
theorem rgL_s2 (x y z v : Int) : (rgL x y z).set 2 v = rgL x y v := by unfold rgL; rfl
theorem rgL_make (x y : Int) : ((List.replicate 24 (0 : Int)).set 0 x).set 1 y = rgL x y 0 := by unfold rgL; rfl
theorem begZ_get {m : Mach} {k : Nat} (hk : k < (begZ m m.st.toNat).length) : (begZ m m.st.toNat)[k] = atZ m k := by
  apply Option.some.inj
  rw [← List.getElem?_eq_getElem]
  rw [begZ_len] at hk
  unfold begZ
  rw [List.getElem?_map,List.getElem?_range hk]
  rfl
theorem storeOfConfig_ok (m : Mach) (c : Conf) (hm : vMach m = true) (hc : vConf m c = true) (hk : numOk m c = true) : Does Tryz.prog 55 [.agg (maC m),.one (shI (begZ m m.st.toNat)),.agg (coC c)] [] (.tup [(true,[int (atZ m c.st.toNat),.gv 0]),(false,[int 0])]) [roI (rgL (numN m.sy c.le) (numN m.sy c.ri) 0)] := by
  obtain ⟨z1,z2⟩ := conf_cells hc
  obtain ⟨⟨ya,yb⟩,_⟩ := vMach_bd hm
  obtain ⟨⟨k1,k2⟩,_⟩ := vConf_bd hc
  have hb := at_bd hm hc
  unfold numOk at hk
  rw [Bool.and_eq_true] at hk
  obtain ⟨hk1,hk2⟩ := hk
  have hbl := begZ_len m m.st.toNat
  have hix : c.st.toNat < (begZ m m.st.toNat).length := by omega
  have hbg := begZ_get hix
  rw [← numV_N hk1,← numV_N hk2,← rgL_make]
  refine does_of (k := 0) Tryz.func55 rfl Tryz.ntmps55 rfl rfl fun w F0 S0 ρ0 => ?_
  dsimp only [argT,argH]
  repeat' first|(apply n3;exact a_new (gb := .bx _) rfl;exact rfl;refine dA ?_)|(apply p3;(first|exact pu1|exact a_ne rfl rfl);exact rfl)|refine cdn ?_|refine g_reg (id := 0) ?_|refine g_reg (id := 1) ?_|refine g_reg (id := 2) ?_|refine g_reg (id := 3) ?_|(apply c4 0;exact callK1 (θ := []) (hD := (tapeNumberY_ok c.le m.sy ya yb z1 preB280 hk1));exact rfl;exact rfl;exact rfl;refine dM ?_)|(apply c4 0;exact callK1 (θ := []) (hD := (tapeNumberY_ok c.ri m.sy ya yb z2 preB280 hk2));exact rfl;exact rfl;exact rfl;refine dM ?_)|(apply py3;exact rfl;exact rfl;(first|exact pu1|exact a_ne rfl rfl);exact rfl;exact rfl)|(apply g_drN (id := 5) okM [[],[],[1],[0,1,2],[0,1,2,3],[],[0,1,2,3,4,5],[],[0,1,2,3,4,5,6,7]] [([],[]),([],[]),([],[]),([],[]),([],[]),([0],[]),([],[]),([1],[]),([],[4])] 2;(focus (refine dp 0 0 [37,38,41,12] [(true,0),(true,1)] pu1 ?_;refine dp 1 0 [36,41,12] [(true,0),(true,1)] (a_pure (sv := .one _) rfl) ?_;refine dp 2 1 [36,41,12] [(true,0),(true,1)] puL ?_;refine dp 3 7 [41,12] [(true,0),(true,1)] puI ?_;refine dp 4 15 [41,12] [(true,0),(true,1)] puL ?_;refine duE 5 0 [36,37,38,39,40,12] [(true,1)] (atN 0 (fun _ => a_make (fE rfl) (fZ rfl) (fP rfl) (by decide) rfl rfl (by omega) rfl (by omega) (by omega) (rows_rep eI 0 _))) (by exact rfl) (by exact rfl) ?_;refine dp 6 63 [12] [(true,1)] (a_pure (sv := .agg _) rfl) ?_;refine duE 7 0 [36,37,38,39,40,41,42] [(true,0)] (atN 1 (fun _ => a_new (gb := .bx _) rfl)) (by exact rfl) (by exact rfl) ?_;refine duE 8 255 [] [] (a_st_bx rfl rfl rfl rfl (fN rfl rfl) (Nat.le_of_ble_eq_true rfl) rfl) (by exact rfl) (by exact rfl) ?_;(refine d_nil ?_;refine dN ?_)));any_goals kernel_rfl)|fail
  simp only [setRow,scC,List.map_cons,List.map_nil,List.set_cons_zero,List.set_cons_succ,Nat.zero_add,List.getElem?_cons_zero,List.getElem?_cons_succ,List.take_succ_cons,List.take_zero,List.drop_zero,List.cons_append,List.nil_append,List.drop_succ_cons,List.drop_nil,List.append_nil,List.append_eq,hbg,show Int.toNat 24 = 24 from rfl]
  repeat' first|(apply p3;(exact pu1);exact rfl)|refine cd ?_|(apply w3;exact a_st_bx rfl rfl rfl rfl (fN rfl rfl) (Nat.le_of_ble_eq_true rfl) rfl;exact rfl;refine dS ?_)|(apply g_drN (id := 6) okM [[],[0],[],[2],[],[],[0,1,4],[0,1,4,6],[0,1,2,3,4,5,6,7],[0,1,2,3,4,5,6,7,8]] [([],[]),([],[]),([],[]),([],[]),([],[]),([],[]),([],[]),([],[3]),([],[]),([],[3])] 0;(focus (refine dp 0 0 [45,46,47,48] [] (a_pure (sv := .one _) rfl) ?_;refine dp 1 1 [45,46,47,48] [] (by exact puL) ?_;refine dp 2 0 [43,44,47,48,49] [(false,3)] (a_pure (sv := .one _) rfl) ?_;refine dp 3 1 [43,44,47,48,49] [(false,3)] (by exact puL) ?_;refine dp 4 0 [43,44,45,46,48] [] pu1 ?_;refine dp 5 0 [43,44,45,46,47,49] [(false,3)] pu1 ?_;refine dp 6 50 [45,46,48] [] puI ?_;refine duE 7 101 [45,46,48] [] (by exact a_st_rowI rfl rfl rfl rfl (fN rfl rfl) bnd) (by exact rfl) (by exact rfl) ?_;refine dp 8 255 [] [] puI ?_;refine duE 9 511 [] [] (by exact a_st_rowI rfl rfl rfl rfl (fN rfl rfl) bnd) (by exact rfl) (by exact rfl) ?_;(refine d_nil ?_;refine dN ?_)));any_goals kernel_rfl)|fail
  repeat refine cr ?_
  refine ends_id ?_
  refine endK [?_] (h2 := ?_) (h3 := ?_) (nd := ?_)
  rotate_left 1
  all_goals (repeat' first|exact ce0|refine ce ?_|refine ce2 ?_ ?_|(refine Or.inr (bx_eq rfl rfl ?_);(try dsimp only [C.ren,C.ren.all]);(try exact rfl))|exact SVLe.refl|refine ceb ?_)
  all_goals first | exact (show nodupB _ = true from rfl) | exact Or.inr rfl | (rfl)
theorem configOfNumbers_ok (m : Mach) (q a x y z : Int) (h1 : 2 ≤ m.sy) (h2 : m.sy ≤ 6) (hx : 0 ≤ x ∧ x ≤ 1000000) (hy : 0 ≤ y ∧ y ≤ 1000000) : Does Tryz.prog 60 [.agg (maC m),.one (int q),.agg [int a,shI (rgL x y z)]] [] (.agg [int q,.gv 0,.gv 1]) [roI (celG m.sy x),roI (celG m.sy y)] := by
  have hl := rgL_len x y z
  have hz0 : 0 < (rgL x y z).length := by omega
  have hz1 : 1 < (rgL x y z).length := by omega
  have e0 := rgL_0 x y z hz0
  have e1 := rgL_1 x y z hz1
  obtain ⟨x1',x2'⟩ := hx
  obtain ⟨y1',y2'⟩ := hy
  have hx0 : 0 ≤ (rgL x y z)[0]'hz0 ∧ (rgL x y z)[0]'hz0 ≤ 1000000 := by rw [e0]; exact ⟨x1',x2'⟩
  have hy0 : 0 ≤ (rgL x y z)[1]'hz1 ∧ (rgL x y z)[1]'hz1 ≤ 1000000 := by rw [e1]; exact ⟨y1',y2'⟩
  refine does_of (k := 0) Tryz.func60 rfl Tryz.ntmps60 rfl rfl fun w F0 S0 ρ0 => ?_
  dsimp only [argT,argH]
  repeat' first|(apply n3;exact a_new (gb := .bx _) rfl;exact rfl;refine dA ?_)|refine cdn ?_|refine g_reg (id := 0) ?_|fail
  apply g_drN (id := 1) okM [[],[],[1],[1,2],[1,2,3],[],[5],[1,2,3,4,5,6],[],[8],[8,9],[8,9,10],[],[12],[1,2,3,4,5,6,7,8,9,10,11,12,13],[0,1,2,3,4,5,6,7,8,9,10,11,12,13,14],[0,1,2,3,4,5,6,7,8,9,10,11,12,13,14,15]] [([],[]),([],[]),([],[]),([],[]),([],[]),([],[]),([],[]),([0],[]),([],[]),([],[]),([],[]),([],[]),([],[]),([],[]),([1],[]),([],[]),([],[2])] 2
  (focus (refine dp 0 0 [8,9,10,11,12,13,14,15,16,17,18,19,20,21] [(true,0),(true,1)] pu1 ?_; refine dp 1 0 [7,12,13,15,16,17,18,19,20] [] (a_pure (sv := .one _) rfl) ?_; refine dp 2 1 [7,12,13,15,16,17,18,19,20] [] (by first | exact a_ldW rfl rfl rfl (fC rfl) bnd | exact puL) ?_; refine dp 3 3 [7,12,13,15,16,17,18,19,20] [] puI ?_; refine dp 4 7 [7,12,13,15,16,17,18,19,20] [] puL ?_; refine dp 5 0 [7,8,9,10,11,15,16,17,18,19,20] [] (a_pure (sv := .one _) rfl) ?_; refine dp 6 1 [7,8,9,10,11,15,16,17,18,19,20] [] puL ?_; refine duN 7 63 [7,15,16,17,18,19,20] [] (by first | exact callD1 (n := _) 0 (θ := []) (hD := (tapeCellsOf_ok _ preB280 preB280)) | exact callD1 (n := _) 0 (θ := []) (hD := (tapeCellsG_ok ((rgL x y z)[0]'hz0) m.sy hx0.1 hx0.2 h1 h2)) | exact callD1 (n := _) 0 (θ := []) (hD := (tapeCellsG_ok ((rgL x y z)[1]'hz1) m.sy hy0.1 hy0.2 h1 h2))) (by exact rfl) (by exact rfl) ?_; refine dp 8 0 [7,8,9,10,11,12,13,14,19,20] [(true,0)] (a_pure (sv := .one _) rfl) ?_; refine dp 9 1 [7,8,9,10,11,12,13,14,19,20] [(true,0)] (by first | exact a_ldW rfl rfl rfl (fC rfl) bnd | exact puL) ?_; refine dp 10 3 [7,8,9,10,11,12,13,14,19,20] [(true,0)] puI ?_; refine dp 11 7 [7,8,9,10,11,12,13,14,19,20] [(true,0)] puL ?_; refine dp 12 0 [7,8,9,10,11,12,13,14,15,16,17,18] [(true,0)] (a_pure (sv := .one _) rfl) ?_; refine dp 13 1 [7,8,9,10,11,12,13,14,15,16,17,18] [(true,0)] puL ?_; refine duN 14 8191 [7] [] (by first | exact callD1 (n := _) 1 (θ := []) (hD := (tapeCellsOf_ok _ preB280 preB280)) | exact callD1 (n := _) 1 (θ := []) (hD := (tapeCellsG_ok ((rgL x y z)[0]'hz0) m.sy hx0.1 hx0.2 h1 h2)) | exact callD1 (n := _) 1 (θ := []) (hD := (tapeCellsG_ok ((rgL x y z)[1]'hz1) m.sy hy0.1 hy0.2 h1 h2))) (by exact rfl) (by exact rfl) ?_; refine dp 15 32767 [] [] (a_pure (sv := .agg _) rfl) ?_; refine duE 16 65535 [] [] (by first | exact a_st_bx rfl rfl rfl rfl (fN rfl rfl) (Nat.le_of_ble_eq_true rfl) rfl | exact a_stE (E := eCf) ⟨_,_,_⟩ rfl rfl rfl rfl (fN rfl rfl) bnd (by exact rfl)) (by exact rfl) (by exact rfl) ?_; (refine d_nil ?_; refine dN ?_)))
  any_goals kernel_rfl
  simp only [show Int.toNat 0 = 0 from rfl,show Int.toNat 1 = 1 from rfl,e0,e1]
  repeat' first|refine cd ?_|fail
  repeat refine cr ?_
  refine ends_id ?_
  refine endK [?_,?_] (h2 := ?_) (h3 := ?_) (nd := ?_)
  rotate_left 2
  all_goals (repeat' first|exact ce0|refine ce ?_|refine ce2 ?_ ?_|(refine Or.inr (bx_eq rfl rfl ?_);(try dsimp only [C.ren,C.ren.all]);(try exact rfl))|exact SVLe.refl|refine ceb ?_)
  all_goals first | exact (show nodupB _ = true from rfl) | exact Or.inr rfl | (rfl)
end Go.Proofs.YtegpggobfdcafaaGreat
end
section
set_option linter.unusedVariables false
set_option linter.unusedSimpArgs false
set_option maxRecDepth 100000
set_option maxHeartbeats 4000000
namespace Go.Proofs.YtegpggobfdcafaaGreat
open Go Foot Go.RowKit
theorem begZ_rises {m : Mach} (hm : MaRu m) : risesL (begZ m m.st.toNat) = true := by
  have hst := hm.ok.st
  unfold risesL
  rw [List.all_eq_true]
  intro i hi
  have hi := List.mem_range.1 hi
  rw [begZ_len] at hi
  rw [decide_eq_true_eq,List.getD_eq_getElem?_getD,List.getD_eq_getElem?_getD,List.getElem?_eq_getElem (by rw [begZ_len]; omega),List.getElem?_eq_getElem (by rw [begZ_len]; omega),begZ_get,begZ_get]
  have := atZ_mono hm (i + 1) i (by omega) (by omega)
  simp
  omega
theorem bs_some {m : Mach} (hm : MaRu m) {a : Int} {q : Nat} (h : secAt m a = some q) : lob (begZ m m.st.toNat) a = q ∧ a ∈ begZ m m.st.toNat ∧ q < m.st.toNat ∧ atZ m q = a := by
  have hst := hm.ok.st
  unfold secAt at h
  rw [List.find?_range_eq_some] at h
  obtain ⟨h1,h2,h3⟩ := h
  have h1 : atZ m q = a := by simpa using h1
  have h2 := List.mem_range.1 h2
  have hl := begZ_len m m.st.toNat
  refine ⟨lob_at (by omega) (by omega) (fun k hk hh => ?_) (fun k hk hh => ?_),?_,h2,h1⟩
  · rw [begZ_get,← h1]
    have := atZ_mono hm q k (by omega) (by omega)
    omega
  · rw [begZ_get,← h1]
    have := atZ_mono hm k q (by omega) (by omega)
    omega
  · rw [← h1,← begZ_get (by omega : q < (begZ m m.st.toNat).length)]
    exact List.getElem_mem _
theorem bs_none {m : Mach} {a : Int} (h : secAt m a = none) : a ∉ begZ m m.st.toNat := fun hh => by
  unfold secAt at h
  rw [List.find?_eq_none] at h
  obtain ⟨i,hi,e⟩ := List.getElem_of_mem hh
  rw [begZ_get] at e
  rw [begZ_len] at hi
  exact h i (List.mem_range.2 hi) (by simpa using e)
theorem inAll_rg (x y z : Int) : inAll 0 0 ((rgL x y z).drop 2) = decide (z = 0) := by
  unfold rgL inAll
  simp only [List.drop_succ_cons,List.drop_zero,List.all_cons,List.all_nil]
  by_cases h : z = 0
  · subst h; rfl
  · have : ¬ (0 ≤ z ∧ z ≤ 0) := by omega
    simp [h,this]
    try omega
theorem preB281 {p : Prop} (h : p := by first | with_reducible assumption | omega | (simp only [List.length_append,List.length_cons,List.length_nil,List.length_set,List.length_replicate,List.length_take,List.length_drop,List.length_tail,List.length_dropLast,List.length_reverse] at *; omega) | exact mem_len (by assumption) (by omega) | (with_reducible refine Int.le_trans (Int.ofNat_le.2 (trimR_len _)) ?_; simp only [List.length_cons,List.length_tail]; omega) | (exact (ruAt_ok (by assumption) (by assumption) (by assumption)).2.1) | (exact (ruAt_ok (by assumption) (by assumption) (by assumption)).2.1) | (have := vMach_bd (by assumption); omega) | (simp only [List.length_append,List.length_cons,List.length_nil,repW_len,seN_len] at *; omega) | (simp only [mC_ch,mC_tu]; omega) | (have := vTag_bd (by assumption); omega) | (have := (‹Gd _ _›).le; omega) | (exact tgHalts_no (by assumption)) | (exact tgHead (by assumption) (by assumption) (by assumption)) | (exact Int.le_trans (tgStep_gd (by assumption) (by assumption) (by assumption) (by assumption)).le (by decide)) | (exact vTag_r (by assumption)) | (with_reducible refine Int.le_trans (Int.ofNat_le.2 (pushL_len _ _)) ?_; simp only [List.length_dropLast]; omega) | exact ls_at (by assumption) (by omega) | exact pt_gd (by assumption) | exact lv_at (by assumption) (by omega) | exact pt_gd (lv_at (by assumption) (by omega)) | exact (ask_ok (by assumption)).1 | exact (ask_ok (by assumption)).2.1 | exact (ask_ok (by assumption)).2.2.1 | exact (ask_ok (by assumption)).2.2.2 | trivial) : p := h
theorem searchY_ok (m : Mach) (hm : MaRu m) (a : Int) (q : Nat) (h : secAt m a = some q) : Does Tryz.prog 58 [.one (shI (begZ m m.st.toNat)),.one (int a)] [] (.tup [(false,[int (q : Nat)]),(false,[boo true])]) [] := by
  have hst := hm.ok.st
  have := BinarySearch_ok (begZ m m.st.toNat) a (by rw [begZ_len]; omega) (begZ_rises hm)
  obtain ⟨h1,h2,_⟩ := bs_some hm h
  rw [h1,decide_eq_true h2] at this
  exact this
theorem searchN_ok (m : Mach) (hm : MaRu m) (a : Int) (h : secAt m a = none) : Does Tryz.prog 58 [.one (shI (begZ m m.st.toNat)),.one (int a)] [] (.tup [(false,[int (lob (begZ m m.st.toNat) a)]),(false,[boo false])]) [] := by
  have hst := hm.ok.st
  have := BinarySearch_ok (begZ m m.st.toNat) a (by rw [begZ_len]; omega) (begZ_rises hm)
  rw [decide_eq_false (bs_none h)] at this
  exact this
theorem configOfStoreY_ok (m : Mach) (hm : MaRu m) (a x y : Int) (q : Nat) (h : secAt m a = some q) (hx : 0 ≤ x ∧ x ≤ 1000000) (hy : 0 ≤ y ∧ y ≤ 1000000) : Does Tryz.prog 59 [.agg (maC m),.one (shI (begZ m m.st.toNat)),.agg [int a,shI (rgL x y 0)]] [] (.tup [(true,[int (q : Nat),.gv 0,.gv 1]),(false,[boo true])]) [roI (celG m.sy x),roI (celG m.sy y)] := by
  have hl := rgL_len x y 0
  have ha : inAll 0 0 ((rgL x y 0).drop 2) = true := inAll_rg x y 0
  obtain ⟨ya,yb⟩ := hm.ok.sy
  refine does_of (k := 0) Tryz.func59 rfl Tryz.ntmps59 rfl rfl fun w F0 S0 ρ0 => ?_
  dsimp only [argT,argH]
  repeat' first|(apply n3;exact a_new (gb := .bx _) rfl;exact rfl;refine dA ?_)|(apply p3;(exact pu1);exact rfl)|refine cd ?_|(apply w3;(exact a_st_bx rfl rfl rfl rfl (fN rfl rfl) (Nat.le_of_ble_eq_true rfl) rfl);exact rfl;refine dS ?_)|(apply c4 0;exact callK1 (θ := []) (hD := (searchY_ok m hm a q h));exact rfl;exact rfl;exact rfl;refine dM ?_)|(apply c4 2;exact callK1 (θ := []) (hD := (configOfNumbers_ok m q a x y 0 ya yb hx hy));exact rfl;exact rfl;exact rfl;refine dM ?_)|(apply py3;exact rfl;exact rfl;(first|exact pu1|exact a_slT rfl rfl rfl (fS rfl) (by omega) (by omega) (by exact rfl));exact rfl;exact rfl)|(apply cy4 0;exact rfl;exact rfl;exact callK1 (θ := []) (hD := (allWithin_ok _ _ _ preB281));exact rfl;exact rfl;exact rfl;exact rfl;refine dM ?_)|((refine g_cond rfl (fun hc => ?_) (fun hc => ?_)) <;> (try simp only [dcB] at hc) <;> (try first|contradiction|(exfalso;omega)))|fail
  · exfalso
    rw [show Int.toNat 2 = 2 from rfl,ha] at hc
    cases hc
  · repeat refine cr ?_
    refine ends_id ?_
    refine endK [?_,?_] (h2 := ?_) (h3 := ?_) (nd := ?_)
    rotate_left 2
    all_goals (repeat' first|exact ce0|refine ce ?_|refine ce2 ?_ ?_|(refine Or.inr (bx_eq rfl rfl ?_);(try dsimp only [C.ren,C.ren.all]);(try exact rfl))|exact SVLe.refl|refine ceb ?_)
    all_goals first | exact (show nodupB _ = true from rfl) | exact Or.inr rfl | (rfl)
theorem configOfStoreN_ok (m : Mach) (hm : MaRu m) (a x y z : Int) (h : secAt m a = none ∨ z ≠ 0) : Does Tryz.prog 59 [.agg (maC m),.one (shI (begZ m m.st.toNat)),.agg [int a,shI (rgL x y z)]] [] (.tup [(true,[int 0,.d (.sc (.slice none 0 0)),.d (.sc (.slice none 0 0))]),(false,[boo false])]) [] := by
  have hl := rgL_len x y z
  have ha := inAll_rg x y z
  cases hs : secAt m a with
  | none =>
    skip
    refine does_of (k := 0) Tryz.func59 rfl Tryz.ntmps59 rfl rfl fun w F0 S0 ρ0 => ?_
    dsimp only [argT,argH]
    repeat' first|(apply n3;exact a_new (gb := .bx _) rfl;exact rfl;refine dA ?_)|(apply p3;(exact pu1);exact rfl)|refine cd ?_|(apply w3;(exact a_st_bx rfl rfl rfl rfl (fN rfl rfl) (Nat.le_of_ble_eq_true rfl) rfl);exact rfl;refine dS ?_)|(apply c4 0;exact callK1 (θ := []) (hD := (searchN_ok m hm a hs));exact rfl;exact rfl;exact rfl;refine dM ?_)|refine o_no rfl rfl rfl rfl ?_|fail
    repeat refine cr ?_
    refine ends_id ?_
    refine endK [] (h2 := ?_) (h3 := ?_) (nd := ?_)
    all_goals (repeat' first|exact ce0|refine ce ?_|refine ce2 ?_ ?_|exact SVLe.refl|refine ceb ?_)
    all_goals first | exact (show nodupB _ = true from rfl) | exact Or.inr rfl | (rfl)
  | some q =>
    have hz : z ≠ 0 := h.resolve_left (by rw [hs]; simp)
    rw [decide_eq_false hz] at ha
    refine does_of (k := 0) Tryz.func59 rfl Tryz.ntmps59 rfl rfl fun w F0 S0 ρ0 => ?_
    dsimp only [argT,argH]
    repeat' first|(apply n3;exact a_new (gb := .bx _) rfl;exact rfl;refine dA ?_)|(apply p3;(exact pu1);exact rfl)|refine cd ?_|(apply w3;(exact a_st_bx rfl rfl rfl rfl (fN rfl rfl) (Nat.le_of_ble_eq_true rfl) rfl);exact rfl;refine dS ?_)|(apply c4 0;exact callK1 (θ := []) (hD := (searchY_ok m hm a q hs));exact rfl;exact rfl;exact rfl;refine dM ?_)|(apply py3;exact rfl;exact rfl;(first|exact pu1|exact a_slT rfl rfl rfl (fS rfl) (by omega) (by omega) (by exact rfl));exact rfl;exact rfl)|(apply cy4 0;exact rfl;exact rfl;exact callK1 (θ := []) (hD := (allWithin_ok _ _ _ preB281));exact rfl;exact rfl;exact rfl;exact rfl;refine dM ?_)|((refine g_cond rfl (fun hc => ?_) (fun hc => ?_)) <;> (try simp only [dcB] at hc) <;> (try first|contradiction|(exfalso;omega)))|fail
    · repeat refine cr ?_
      refine ends_id ?_
      refine endK [] (h2 := ?_) (h3 := ?_) (nd := ?_)
      all_goals (repeat' first|exact ce0|refine ce ?_|refine ce2 ?_ ?_|exact SVLe.refl|refine ceb ?_)
      all_goals first | exact (show nodupB _ = true from rfl) | exact Or.inr rfl | (rfl)
    · exfalso
      rw [show Int.toNat 2 = 2 from rfl,ha] at hc
      cases hc
end Go.Proofs.YtegpggobfdcafaaGreat
end
section
set_option linter.unusedVariables false
set_option linter.unusedSimpArgs false
set_option maxRecDepth 100000
set_option maxHeartbeats 4000000
namespace Go.Proofs.YtegpggobfdcafaaGreat
open Go Foot Go.RowKit
theorem vis_none {m : Mach} {a x y z : Int} {v : Vs} (h : secAt m a = none) : visF m (a,rg x y z) v = v := by unfold visF; rw [h]
theorem vis_some {m : Mach} {a x y z : Int} {v : Vs} {q : Nat} (h : secAt m a = some q) (hz : z ≠ 0) : visF m (a,rg x y z) v = ⟨q,v.c⟩ := by
  unfold visF
  rw [h]
  dsimp only
  rw [if_neg (by rw [rg_2]; exact hz)]
theorem vis_zero {m : Mach} {a x y : Int} {v : Vs} {q : Nat} (h : secAt m a = some q) : visF m (a,rg x y 0) v = ⟨q,⟨q,celG m.sy x,celG m.sy y⟩⟩ := by
  unfold visF
  rw [h]
  dsimp only
  rw [if_pos (rg_2 _ _ _)]
  rfl
theorem rbVisit_ok (m : Mach) (hm : MaRu m) (a x y z e st : Int) (le ri : List Int) (hx : 0 ≤ x ∧ x ≤ 1000000) (hy : 0 ≤ y ∧ y ≤ 1000000) : Does Tryz.prog 57 [.agg [int a,shI (rgL x y z)],.one (.d (.bx false [.sl false 1 (rows eI (begZ m m.st.toNat))])),.one (.gv 0),.one (.d (maD m)),.one (.gv 1)] [.bx [int e],.bx [int st,.gv 2,.gv 3],roI le,roI ri] .any [.bx [int (visF m (a,rg x y z) ⟨e,⟨st,le,ri⟩⟩).e],.bx [int (visF m (a,rg x y z) ⟨e,⟨st,le,ri⟩⟩).c.st,.gv 4,.gv 5],.dead,.dead,roI (visF m (a,rg x y z) ⟨e,⟨st,le,ri⟩⟩).c.le,roI (visF m (a,rg x y z) ⟨e,⟨st,le,ri⟩⟩).c.ri] := by
  cases hs : secAt m a with
  | none =>
    rw [vis_none hs]
    dsimp only
    refine does_of (k := 4) Tryz.func57 rfl Tryz.ntmps57 rfl rfl fun w F0 S0 ρ0 => ?_
    dsimp only [argT,argH]
    refine g_conv (t_mvB (i := 2) (j := 1) (k := 1) rfl rfl rfl rfl rfl rfl) ?_
    try dsimp only [setRow,List.map_cons,List.map_nil,scC,List.set_cons_zero,List.set_cons_succ]
    refine g_conv (t_mvB (i := 3) (j := 1) (k := 2) rfl rfl rfl rfl rfl rfl) ?_
    try dsimp only [setRow,List.map_cons,List.map_nil,scC,List.set_cons_zero,List.set_cons_succ]
    repeat' first|(apply n3;exact a_new (gb := .bx _) rfl;exact rfl;refine dA ?_)|(apply p3;(exact pu1);exact rfl)|refine cd ?_|(apply w3;(exact a_st_bx rfl rfl rfl rfl (fN rfl rfl) (Nat.le_of_ble_eq_true rfl) rfl);exact rfl;refine dS ?_)|(apply c4 0;exact callK1 (θ := []) (hD := (searchN_ok m hm a hs));exact rfl;exact rfl;exact rfl;refine dM ?_)|(apply c4 0;exact callK0 (θ := []) (hD := (configOfStoreN_ok m hm a x y z (.inl hs)));exact rfl;exact rfl;exact rfl;refine dM ?_)|fail
    repeat refine cr ?_
    refine ends_id ?_
    refine endK [?_,?_] (h2 := ?_) (h3 := ?_) (nd := ?_)
    rotate_left 2
    all_goals (repeat' first|exact ce0|refine ce ?_|refine ce2 ?_ ?_|(refine Or.inr (bx_eq rfl rfl ?_);(try dsimp only [C.ren,C.ren.all]);(try exact rfl))|exact SVLe.refl|refine ceb ?_)
    all_goals first | exact (show nodupB _ = true from rfl) | exact Or.inr rfl | (rfl)
  | some q =>
    by_cases hz : z = 0
    · subst hz
      rw [vis_zero hs]
      dsimp only
      refine does_of (k := 4) Tryz.func57 rfl Tryz.ntmps57 rfl rfl fun w F0 S0 ρ0 => ?_
      dsimp only [argT,argH]
      repeat' first|(apply n3;exact a_new (gb := .bx _) rfl;exact rfl;refine dA ?_)|(apply p3;(exact pu1);exact rfl)|refine cd ?_|(apply w3;(exact a_st_bx rfl rfl rfl rfl (fN rfl rfl) (Nat.le_of_ble_eq_true rfl) rfl);exact rfl;refine dS ?_)|(apply c4 0;exact callK1 (θ := []) (hD := (searchY_ok m hm a q hs));exact rfl;exact rfl;exact rfl;refine dM ?_)|(apply c4 2;exact callK1 (θ := []) (hD := (configOfStoreY_ok m hm a x y q hs hx hy));exact rfl;exact rfl;exact rfl;refine dM ?_)|fail
      repeat refine cr ?_
      refine ends_id ?_
      refine endK [5,6] (h2 := ?_) (h3 := ?_) (nd := ?_)
      all_goals (repeat' first|exact ce0|refine ce ?_|refine ce2 ?_ ?_|(refine Or.inr (bx_eq rfl rfl ?_);(try dsimp only [C.ren,C.ren.all]);(try exact rfl))|exact SVLe.refl|refine ceb ?_)
      all_goals first | exact (show nodupB _ = true from rfl) | exact Or.inr rfl | (rfl)
    · rw [vis_some hs hz]
      dsimp only
      refine does_of (k := 4) Tryz.func57 rfl Tryz.ntmps57 rfl rfl fun w F0 S0 ρ0 => ?_
      dsimp only [argT,argH]
      refine g_conv (t_mvB (i := 2) (j := 1) (k := 1) rfl rfl rfl rfl rfl rfl) ?_
      try dsimp only [setRow,List.map_cons,List.map_nil,scC,List.set_cons_zero,List.set_cons_succ]
      refine g_conv (t_mvB (i := 3) (j := 1) (k := 2) rfl rfl rfl rfl rfl rfl) ?_
      try dsimp only [setRow,List.map_cons,List.map_nil,scC,List.set_cons_zero,List.set_cons_succ]
      repeat' first|(apply n3;exact a_new (gb := .bx _) rfl;exact rfl;refine dA ?_)|(apply p3;(exact pu1);exact rfl)|refine cd ?_|(apply w3;(exact a_st_bx rfl rfl rfl rfl (fN rfl rfl) (Nat.le_of_ble_eq_true rfl) rfl);exact rfl;refine dS ?_)|(apply c4 0;exact callK1 (θ := []) (hD := (searchY_ok m hm a q hs));exact rfl;exact rfl;exact rfl;refine dM ?_)|(apply c4 0;exact callK0 (θ := []) (hD := (configOfStoreN_ok m hm a x y z (.inr hz)));exact rfl;exact rfl;exact rfl;refine dM ?_)|fail
      repeat refine cr ?_
      refine ends_id ?_
      refine endK [?_,?_] (h2 := ?_) (h3 := ?_) (nd := ?_)
      rotate_left 2
      all_goals (repeat' first|exact ce0|refine ce ?_|refine ce2 ?_ ?_|(refine Or.inr (bx_eq rfl rfl ?_);(try dsimp only [C.ren,C.ren.all]);(try exact rfl))|exact SVLe.refl|refine ceb ?_)
      all_goals first | exact (show nodupB _ = true from rfl) | exact Or.inr rfl | (rfl)
end Go.Proofs.YtegpggobfdcafaaGreat
end
section
set_option linter.unusedVariables false
set_option linter.unusedSimpArgs false
set_option maxRecDepth 100000
set_option maxHeartbeats 4000000
namespace Go.Proofs.YtegpggobfdcafaaGreat
open Go Foot Go.RowKit
structure R3 where
  a : Int
  x : Int
  y : Int
  z : Int
@[irreducible] def ex3 (u : Jn) (x y z : Int) : R3 :=
  if u.r = 1 then (if u.k = 0 then ⟨u.t,x,y + 1,z⟩ else if 0 < y then ⟨u.t,x,y - 1,z⟩ else ⟨u.e,x,y,z⟩)
  else if u.r = 2 then (if u.k = 0 then ⟨u.t,x,y,z + 1⟩ else if 0 < z then ⟨u.t,x,y,z - 1⟩ else ⟨u.e,x,y,z⟩)
  else (if u.k = 0 then ⟨u.t,x + 1,y,z⟩ else if 0 < x then ⟨u.t,x - 1,y,z⟩ else ⟨u.e,x,y,z⟩)
theorem ex3_exec {u : Jn} (h : 0 ≤ u.r ∧ u.r ≤ 2) (a x y z : Int) : execJ u (a,rg x y z) = ((ex3 u x y z).a,rg (ex3 u x y z).x (ex3 u x y z).y (ex3 u x y z).z) := by
  unfold ex3 execJ
  have : u.r = 0 ∨ u.r = 1 ∨ u.r = 2 := by omega
  by_cases hk : u.k = 0
  · rcases this with e | e | e <;> simp [e,hk,rg_0,rg_1,rg_2,upd_0,upd_1,upd_2]
  · rcases this with e | e | e <;> simp only [e,hk,rg_0,rg_1,rg_2,upd_0,upd_1,upd_2,if_false,if_true,gt_iff_lt,show ¬ (0 : Int) = 1 from by decide,show ¬ (0 : Int) = 2 from by decide,show ¬ (2 : Int) = 1 from by decide] <;> (split <;> rfl)
theorem ex3_bd {u : Jn} {x y z n : Int} (hx : 0 ≤ x ∧ x ≤ n) (hy : 0 ≤ y ∧ y ≤ n) (hz : 0 ≤ z ∧ z ≤ n) : (0 ≤ (ex3 u x y z).x ∧ (ex3 u x y z).x ≤ n + 1) ∧ (0 ≤ (ex3 u x y z).y ∧ (ex3 u x y z).y ≤ n + 1) ∧ 0 ≤ (ex3 u x y z).z ∧ (ex3 u x y z).z ≤ n + 1 := by
  unfold ex3
  (repeat' split) <;> (dsimp only; omega)
theorem stepRg_ok (p : List Jn) (i x y z : Int) (hi : i.toNat < p.length) (h0 : 0 ≤ i) (hr : 0 ≤ (p[i.toNat]'hi).r ∧ (p[i.toNat]'hi).r ≤ 2) (hx : 0 ≤ x ∧ x ≤ 900000) (hy : 0 ≤ y ∧ y ≤ 900000) (hz : 0 ≤ z ∧ z ≤ 900000) : Does Tryz.prog 110 [.one (shJ p),.one (.gv 0)] [.bx [int i,.gv 1],roI (rgL x y z)] (.one (boo true)) [.bx [int (ex3 (p[i.toNat]'hi) x y z).a,.gv 1],roI (rgL (ex3 (p[i.toNat]'hi) x y z).x (ex3 (p[i.toNat]'hi) x y z).y (ex3 (p[i.toNat]'hi) x y z).z)] := by
  have hl := rgL_len x y z
  have hg0 : 0 < (rgL x y z).length := by omega
  have hg1 : 1 < (rgL x y z).length := by omega
  have hg2 : 2 < (rgL x y z).length := by omega
  have e0 := rgL_0 x y z hg0
  have e1 := rgL_1 x y z hg1
  have e2 := rgL_2 x y z hg2
  by_cases hr1 : (p[i.toNat]'hi).r = 1
  · skip
    by_cases hk : (p[i.toNat]'hi).k = 0
    · skip
      have ec : ex3 (p[i.toNat]'hi) x y z = ⟨(p[i.toNat]'hi).t,x,y + 1,z⟩ := by unfold ex3; simp only [hr1,hk,if_pos,if_true]
      rw [ec]
      refine does_of (k := 2) Tryz.func110 rfl Tryz.ntmps110 rfl rfl fun w F0 S0 ρ0 => ?_
      dsimp only [argT,argH]
      repeat' first|(apply n3;exact a_new (gb := .bx _) rfl;exact rfl;refine dA ?_)|(apply p3;(first|exact pu1|exact puI);exact rfl)|refine cdn ?_|refine g_reg (id := 0) ?_|refine g_reg (id := 1) ?_|(apply w3;(exact a_st_bx rfl rfl rfl rfl (fN rfl rfl) (Nat.le_of_ble_eq_true rfl) rfl);exact rfl;refine dS ?_)|fail
      simp only [setRow,scC,List.map_cons,List.map_nil,List.set_cons_zero,List.set_cons_succ,Nat.zero_add,List.getElem?_cons_zero,List.getElem?_cons_succ,List.take_succ_cons,List.take_zero,List.drop_zero,List.cons_append,List.nil_append,List.drop_succ_cons,List.drop_nil,List.append_nil,List.append_eq]
      repeat' first|(apply p3;(first|exact pu1|exact puC);exact rfl)|refine cd ?_|(apply g_drN (id := 2) okM [[],[0],[0,1],[0,1,2],[],[4],[0,1,2,3,4,5],[0,1,2,3,4,5,6]] [([],[]),([],[]),([],[]),([],[]),([],[]),([],[]),([],[]),([],[])] 0;(focus (refine dp 0 0 [18,19] [] pu1 ?_;refine dp 1 1 [18,19] [] (a_pure (sv := .one _) rfl) ?_;refine dp 2 3 [18,19] [] (a_pure (sv := .one _) rfl) ?_;refine dp 3 7 [18,19] [] (by exact puL) ?_;refine dp 4 0 [14,15,16,17] [] (a_pure (sv := .one _) rfl) ?_;refine dp 5 1 [14,15,16,17] [] puL ?_;refine dp 6 63 [] [] puI ?_;refine dp 7 127 [] [] pu1 ?_;(refine d_nil ?_;refine dN ?_)));any_goals kernel_rfl)|fail
      simp only [hr1,show Int.toNat 2 = 2 from rfl,show Int.toNat 1 = 1 from rfl,show Int.toNat 0 = 0 from rfl]
      repeat' first|(apply p3;(first|exact pu1|exact puL|exact puC|exact a_add rfl rfl (by omega) (by omega));exact rfl)|refine cd ?_|(apply w3;(first|exact a_st_bx rfl rfl rfl rfl (fN rfl rfl) (Nat.le_of_ble_eq_true rfl) rfl|exact a_st_rowI rfl rfl rfl rfl (fN rfl rfl) bnd);exact rfl;refine dS ?_)|((refine g_cond rfl (fun hc => ?_) (fun hc => ?_)) <;> (try simp only [dcB] at hc) <;> (try first|contradiction|(exfalso;omega)))|fail
      repeat refine cr ?_
      refine ends_id ?_
      refine endK [] (h2 := ?_) (h3 := ?_) (nd := ?_)
      all_goals (repeat' first|exact ce0|refine ce ?_|refine ce2 ?_ ?_|(refine Or.inr (bx_eq rfl rfl ?_);(try dsimp only [C.ren,C.ren.all]);(try exact rfl))|exact SVLe.refl|refine ceb ?_)
      all_goals first | exact (show nodupB _ = true from rfl) | exact Or.inr rfl | ((first | rfl | exact decide_eq_true (by omega) | (simp only [e0,e1,e2,rgL_s0,rgL_s1,rgL_s2]; done) | (simp only [e0,e1,e2,rgL_s0,rgL_s1,rgL_s2]; rfl) | (simp only [e0,e1,e2,List.getElem_set_self]; exact decide_eq_true (by omega))))
    · by_cases hv : 0 < y
      · skip
        have ec : ex3 (p[i.toNat]'hi) x y z = ⟨(p[i.toNat]'hi).t,x,y - 1,z⟩ := by unfold ex3; simp only [hr1,hk,hv,if_neg,if_pos,if_false,if_true,if_true]
        rw [ec]
        refine does_of (k := 2) Tryz.func110 rfl Tryz.ntmps110 rfl rfl fun w F0 S0 ρ0 => ?_
        dsimp only [argT,argH]
        repeat' first|(apply n3;exact a_new (gb := .bx _) rfl;exact rfl;refine dA ?_)|(apply p3;(first|exact pu1|exact puI);exact rfl)|refine cdn ?_|refine g_reg (id := 0) ?_|refine g_reg (id := 1) ?_|(apply w3;(exact a_st_bx rfl rfl rfl rfl (fN rfl rfl) (Nat.le_of_ble_eq_true rfl) rfl);exact rfl;refine dS ?_)|fail
        simp only [setRow,scC,List.map_cons,List.map_nil,List.set_cons_zero,List.set_cons_succ,Nat.zero_add,List.getElem?_cons_zero,List.getElem?_cons_succ,List.take_succ_cons,List.take_zero,List.drop_zero,List.cons_append,List.nil_append,List.drop_succ_cons,List.drop_nil,List.append_nil,List.append_eq]
        repeat' first|(apply p3;(first|exact pu1|exact puC);exact rfl)|refine cd ?_|(apply g_drN (id := 2) okM [[],[0],[0,1],[0,1,2],[],[4],[0,1,2,3,4,5],[0,1,2,3,4,5,6]] [([],[]),([],[]),([],[]),([],[]),([],[]),([],[]),([],[]),([],[])] 0;(focus (refine dp 0 0 [18,19] [] pu1 ?_;refine dp 1 1 [18,19] [] (a_pure (sv := .one _) rfl) ?_;refine dp 2 3 [18,19] [] (a_pure (sv := .one _) rfl) ?_;refine dp 3 7 [18,19] [] (by exact puL) ?_;refine dp 4 0 [14,15,16,17] [] (a_pure (sv := .one _) rfl) ?_;refine dp 5 1 [14,15,16,17] [] puL ?_;refine dp 6 63 [] [] puI ?_;refine dp 7 127 [] [] pu1 ?_;(refine d_nil ?_;refine dN ?_)));any_goals kernel_rfl)|fail
        simp only [hr1,show Int.toNat 2 = 2 from rfl,show Int.toNat 1 = 1 from rfl,show Int.toNat 0 = 0 from rfl]
        repeat' first|(apply p3;(first|exact pu1|exact puL|exact puC|exact a_sub rfl rfl (by omega) (by omega));exact rfl)|refine cd ?_|(apply w3;(first|exact a_st_bx rfl rfl rfl rfl (fN rfl rfl) (Nat.le_of_ble_eq_true rfl) rfl|exact a_st_rowI rfl rfl rfl rfl (fN rfl rfl) bnd);exact rfl;refine dS ?_)|((refine g_cond rfl (fun hc => ?_) (fun hc => ?_)) <;> (try simp only [dcB] at hc) <;> (try first|contradiction|(exfalso;omega)))|fail
        repeat refine cr ?_
        refine ends_id ?_
        refine endK [] (h2 := ?_) (h3 := ?_) (nd := ?_)
        all_goals (repeat' first|exact ce0|refine ce ?_|refine ce2 ?_ ?_|(refine Or.inr (bx_eq rfl rfl ?_);(try dsimp only [C.ren,C.ren.all]);(try exact rfl))|exact SVLe.refl|refine ceb ?_)
        all_goals first | exact (show nodupB _ = true from rfl) | exact Or.inr rfl | ((first | rfl | exact decide_eq_true (by omega) | (simp only [e0,e1,e2,rgL_s0,rgL_s1,rgL_s2]; done) | (simp only [e0,e1,e2,rgL_s0,rgL_s1,rgL_s2]; rfl) | (simp only [e0,e1,e2,List.getElem_set_self]; exact decide_eq_true (by omega))))
      · skip
        have ec : ex3 (p[i.toNat]'hi) x y z = ⟨(p[i.toNat]'hi).e,x,y,z⟩ := by unfold ex3; simp only [hr1,hk,hv,if_neg,if_false,if_true,if_true]
        rw [ec]
        refine does_of (k := 2) Tryz.func110 rfl Tryz.ntmps110 rfl rfl fun w F0 S0 ρ0 => ?_
        dsimp only [argT,argH]
        repeat' first|(apply n3;exact a_new (gb := .bx _) rfl;exact rfl;refine dA ?_)|(apply p3;(first|exact pu1|exact puI);exact rfl)|refine cdn ?_|refine g_reg (id := 0) ?_|refine g_reg (id := 1) ?_|(apply w3;(exact a_st_bx rfl rfl rfl rfl (fN rfl rfl) (Nat.le_of_ble_eq_true rfl) rfl);exact rfl;refine dS ?_)|fail
        simp only [setRow,scC,List.map_cons,List.map_nil,List.set_cons_zero,List.set_cons_succ,Nat.zero_add,List.getElem?_cons_zero,List.getElem?_cons_succ,List.take_succ_cons,List.take_zero,List.drop_zero,List.cons_append,List.nil_append,List.drop_succ_cons,List.drop_nil,List.append_nil,List.append_eq]
        repeat' first|(apply p3;(first|exact pu1|exact puC);exact rfl)|refine cd ?_|(apply g_drN (id := 2) okM [[],[0],[0,1],[0,1,2],[],[4],[0,1,2,3,4,5],[0,1,2,3,4,5,6]] [([],[]),([],[]),([],[]),([],[]),([],[]),([],[]),([],[]),([],[])] 0;(focus (refine dp 0 0 [18,19] [] pu1 ?_;refine dp 1 1 [18,19] [] (a_pure (sv := .one _) rfl) ?_;refine dp 2 3 [18,19] [] (a_pure (sv := .one _) rfl) ?_;refine dp 3 7 [18,19] [] (by exact puL) ?_;refine dp 4 0 [14,15,16,17] [] (a_pure (sv := .one _) rfl) ?_;refine dp 5 1 [14,15,16,17] [] puL ?_;refine dp 6 63 [] [] puI ?_;refine dp 7 127 [] [] pu1 ?_;(refine d_nil ?_;refine dN ?_)));any_goals kernel_rfl)|fail
        simp only [hr1,show Int.toNat 2 = 2 from rfl,show Int.toNat 1 = 1 from rfl,show Int.toNat 0 = 0 from rfl]
        repeat' first|(apply p3;(first|exact pu1|exact puL|exact puC);exact rfl)|refine cd ?_|(apply w3;(exact a_st_bx rfl rfl rfl rfl (fN rfl rfl) (Nat.le_of_ble_eq_true rfl) rfl);exact rfl;refine dS ?_)|((refine g_cond rfl (fun hc => ?_) (fun hc => ?_)) <;> (try simp only [dcB] at hc) <;> (try first|contradiction|(exfalso;omega)))|fail
        repeat refine cr ?_
        refine ends_id ?_
        refine endK [] (h2 := ?_) (h3 := ?_) (nd := ?_)
        all_goals (repeat' first|exact ce0|refine ce ?_|refine ce2 ?_ ?_|(refine Or.inr (bx_eq rfl rfl ?_);(try dsimp only [C.ren,C.ren.all]);(try exact rfl))|exact SVLe.refl|refine ceb ?_)
        all_goals first | exact (show nodupB _ = true from rfl) | exact Or.inr rfl | ((first | rfl | exact decide_eq_true (by omega) | (simp only [e0,e1,e2,rgL_s0,rgL_s1,rgL_s2]; done) | (simp only [e0,e1,e2,rgL_s0,rgL_s1,rgL_s2]; rfl) | (simp only [e0,e1,e2,List.getElem_set_self]; exact decide_eq_true (by omega))))
  · by_cases hr2 : (p[i.toNat]'hi).r = 2
    · skip
      by_cases hk : (p[i.toNat]'hi).k = 0
      · skip
        have ec : ex3 (p[i.toNat]'hi) x y z = ⟨(p[i.toNat]'hi).t,x,y,z + 1⟩ := by unfold ex3; simp only [hr2,hk,if_pos,show ¬ (2 : Int) = 1 from by decide,if_true,if_false]
        rw [ec]
        refine does_of (k := 2) Tryz.func110 rfl Tryz.ntmps110 rfl rfl fun w F0 S0 ρ0 => ?_
        dsimp only [argT,argH]
        repeat' first|(apply n3;exact a_new (gb := .bx _) rfl;exact rfl;refine dA ?_)|(apply p3;(first|exact pu1|exact puI);exact rfl)|refine cdn ?_|refine g_reg (id := 0) ?_|refine g_reg (id := 1) ?_|(apply w3;(exact a_st_bx rfl rfl rfl rfl (fN rfl rfl) (Nat.le_of_ble_eq_true rfl) rfl);exact rfl;refine dS ?_)|fail
        simp only [setRow,scC,List.map_cons,List.map_nil,List.set_cons_zero,List.set_cons_succ,Nat.zero_add,List.getElem?_cons_zero,List.getElem?_cons_succ,List.take_succ_cons,List.take_zero,List.drop_zero,List.cons_append,List.nil_append,List.drop_succ_cons,List.drop_nil,List.append_nil,List.append_eq]
        repeat' first|(apply p3;(first|exact pu1|exact puC);exact rfl)|refine cd ?_|(apply g_drN (id := 2) okM [[],[0],[0,1],[0,1,2],[],[4],[0,1,2,3,4,5],[0,1,2,3,4,5,6]] [([],[]),([],[]),([],[]),([],[]),([],[]),([],[]),([],[]),([],[])] 0;(focus (refine dp 0 0 [18,19] [] pu1 ?_;refine dp 1 1 [18,19] [] (a_pure (sv := .one _) rfl) ?_;refine dp 2 3 [18,19] [] (a_pure (sv := .one _) rfl) ?_;refine dp 3 7 [18,19] [] (by exact puL) ?_;refine dp 4 0 [14,15,16,17] [] (a_pure (sv := .one _) rfl) ?_;refine dp 5 1 [14,15,16,17] [] puL ?_;refine dp 6 63 [] [] puI ?_;refine dp 7 127 [] [] pu1 ?_;(refine d_nil ?_;refine dN ?_)));any_goals kernel_rfl)|fail
        simp only [hr2,show Int.toNat 2 = 2 from rfl,show Int.toNat 1 = 1 from rfl,show Int.toNat 0 = 0 from rfl]
        repeat' first|(apply p3;(first|exact pu1|exact puL|exact puC|exact a_add rfl rfl (by omega) (by omega));exact rfl)|refine cd ?_|(apply w3;(first|exact a_st_bx rfl rfl rfl rfl (fN rfl rfl) (Nat.le_of_ble_eq_true rfl) rfl|exact a_st_rowI rfl rfl rfl rfl (fN rfl rfl) bnd);exact rfl;refine dS ?_)|((refine g_cond rfl (fun hc => ?_) (fun hc => ?_)) <;> (try simp only [dcB] at hc) <;> (try first|contradiction|(exfalso;omega)))|fail
        repeat refine cr ?_
        refine ends_id ?_
        refine endK [] (h2 := ?_) (h3 := ?_) (nd := ?_)
        all_goals (repeat' first|exact ce0|refine ce ?_|refine ce2 ?_ ?_|(refine Or.inr (bx_eq rfl rfl ?_);(try dsimp only [C.ren,C.ren.all]);(try exact rfl))|exact SVLe.refl|refine ceb ?_)
        all_goals first | exact (show nodupB _ = true from rfl) | exact Or.inr rfl | ((first | rfl | exact decide_eq_true (by omega) | (simp only [e0,e1,e2,rgL_s0,rgL_s1,rgL_s2]; done) | (simp only [e0,e1,e2,rgL_s0,rgL_s1,rgL_s2]; rfl) | (simp only [e0,e1,e2,List.getElem_set_self]; exact decide_eq_true (by omega))))
      · by_cases hv : 0 < z
        · skip
          have ec : ex3 (p[i.toNat]'hi) x y z = ⟨(p[i.toNat]'hi).t,x,y,z - 1⟩ := by unfold ex3; simp only [hr2,hk,hv,if_neg,if_pos,if_false,if_true,show ¬ (2 : Int) = 1 from by decide,if_true,if_false]
          rw [ec]
          refine does_of (k := 2) Tryz.func110 rfl Tryz.ntmps110 rfl rfl fun w F0 S0 ρ0 => ?_
          dsimp only [argT,argH]
          repeat' first|(apply n3;exact a_new (gb := .bx _) rfl;exact rfl;refine dA ?_)|(apply p3;(first|exact pu1|exact puI);exact rfl)|refine cdn ?_|refine g_reg (id := 0) ?_|refine g_reg (id := 1) ?_|(apply w3;(exact a_st_bx rfl rfl rfl rfl (fN rfl rfl) (Nat.le_of_ble_eq_true rfl) rfl);exact rfl;refine dS ?_)|fail
          simp only [setRow,scC,List.map_cons,List.map_nil,List.set_cons_zero,List.set_cons_succ,Nat.zero_add,List.getElem?_cons_zero,List.getElem?_cons_succ,List.take_succ_cons,List.take_zero,List.drop_zero,List.cons_append,List.nil_append,List.drop_succ_cons,List.drop_nil,List.append_nil,List.append_eq]
          repeat' first|(apply p3;(first|exact pu1|exact puC);exact rfl)|refine cd ?_|(apply g_drN (id := 2) okM [[],[0],[0,1],[0,1,2],[],[4],[0,1,2,3,4,5],[0,1,2,3,4,5,6]] [([],[]),([],[]),([],[]),([],[]),([],[]),([],[]),([],[]),([],[])] 0;(focus (refine dp 0 0 [18,19] [] pu1 ?_;refine dp 1 1 [18,19] [] (a_pure (sv := .one _) rfl) ?_;refine dp 2 3 [18,19] [] (a_pure (sv := .one _) rfl) ?_;refine dp 3 7 [18,19] [] (by exact puL) ?_;refine dp 4 0 [14,15,16,17] [] (a_pure (sv := .one _) rfl) ?_;refine dp 5 1 [14,15,16,17] [] puL ?_;refine dp 6 63 [] [] puI ?_;refine dp 7 127 [] [] pu1 ?_;(refine d_nil ?_;refine dN ?_)));any_goals kernel_rfl)|fail
          simp only [hr2,show Int.toNat 2 = 2 from rfl,show Int.toNat 1 = 1 from rfl,show Int.toNat 0 = 0 from rfl]
          repeat' first|(apply p3;(first|exact pu1|exact puL|exact puC|exact a_sub rfl rfl (by omega) (by omega));exact rfl)|refine cd ?_|(apply w3;(first|exact a_st_bx rfl rfl rfl rfl (fN rfl rfl) (Nat.le_of_ble_eq_true rfl) rfl|exact a_st_rowI rfl rfl rfl rfl (fN rfl rfl) bnd);exact rfl;refine dS ?_)|((refine g_cond rfl (fun hc => ?_) (fun hc => ?_)) <;> (try simp only [dcB] at hc) <;> (try first|contradiction|(exfalso;omega)))|fail
          repeat refine cr ?_
          refine ends_id ?_
          refine endK [] (h2 := ?_) (h3 := ?_) (nd := ?_)
          all_goals (repeat' first|exact ce0|refine ce ?_|refine ce2 ?_ ?_|(refine Or.inr (bx_eq rfl rfl ?_);(try dsimp only [C.ren,C.ren.all]);(try exact rfl))|exact SVLe.refl|refine ceb ?_)
          all_goals first | exact (show nodupB _ = true from rfl) | exact Or.inr rfl | ((first | rfl | exact decide_eq_true (by omega) | (simp only [e0,e1,e2,rgL_s0,rgL_s1,rgL_s2]; done) | (simp only [e0,e1,e2,rgL_s0,rgL_s1,rgL_s2]; rfl) | (simp only [e0,e1,e2,List.getElem_set_self]; exact decide_eq_true (by omega))))
        · skip
          have ec : ex3 (p[i.toNat]'hi) x y z = ⟨(p[i.toNat]'hi).e,x,y,z⟩ := by unfold ex3; simp only [hr2,hk,hv,if_neg,if_false,if_true,show ¬ (2 : Int) = 1 from by decide,if_true,if_false]
          rw [ec]
          refine does_of (k := 2) Tryz.func110 rfl Tryz.ntmps110 rfl rfl fun w F0 S0 ρ0 => ?_
          dsimp only [argT,argH]
          repeat' first|(apply n3;exact a_new (gb := .bx _) rfl;exact rfl;refine dA ?_)|(apply p3;(first|exact pu1|exact puI);exact rfl)|refine cdn ?_|refine g_reg (id := 0) ?_|refine g_reg (id := 1) ?_|(apply w3;(exact a_st_bx rfl rfl rfl rfl (fN rfl rfl) (Nat.le_of_ble_eq_true rfl) rfl);exact rfl;refine dS ?_)|fail
          simp only [setRow,scC,List.map_cons,List.map_nil,List.set_cons_zero,List.set_cons_succ,Nat.zero_add,List.getElem?_cons_zero,List.getElem?_cons_succ,List.take_succ_cons,List.take_zero,List.drop_zero,List.cons_append,List.nil_append,List.drop_succ_cons,List.drop_nil,List.append_nil,List.append_eq]
          repeat' first|(apply p3;(first|exact pu1|exact puC);exact rfl)|refine cd ?_|(apply g_drN (id := 2) okM [[],[0],[0,1],[0,1,2],[],[4],[0,1,2,3,4,5],[0,1,2,3,4,5,6]] [([],[]),([],[]),([],[]),([],[]),([],[]),([],[]),([],[]),([],[])] 0;(focus (refine dp 0 0 [18,19] [] pu1 ?_;refine dp 1 1 [18,19] [] (a_pure (sv := .one _) rfl) ?_;refine dp 2 3 [18,19] [] (a_pure (sv := .one _) rfl) ?_;refine dp 3 7 [18,19] [] (by exact puL) ?_;refine dp 4 0 [14,15,16,17] [] (a_pure (sv := .one _) rfl) ?_;refine dp 5 1 [14,15,16,17] [] puL ?_;refine dp 6 63 [] [] puI ?_;refine dp 7 127 [] [] pu1 ?_;(refine d_nil ?_;refine dN ?_)));any_goals kernel_rfl)|fail
          simp only [hr2,show Int.toNat 2 = 2 from rfl,show Int.toNat 1 = 1 from rfl,show Int.toNat 0 = 0 from rfl]
          repeat' first|(apply p3;(first|exact pu1|exact puL|exact puC);exact rfl)|refine cd ?_|(apply w3;(exact a_st_bx rfl rfl rfl rfl (fN rfl rfl) (Nat.le_of_ble_eq_true rfl) rfl);exact rfl;refine dS ?_)|((refine g_cond rfl (fun hc => ?_) (fun hc => ?_)) <;> (try simp only [dcB] at hc) <;> (try first|contradiction|(exfalso;omega)))|fail
          repeat refine cr ?_
          refine ends_id ?_
          refine endK [] (h2 := ?_) (h3 := ?_) (nd := ?_)
          all_goals (repeat' first|exact ce0|refine ce ?_|refine ce2 ?_ ?_|(refine Or.inr (bx_eq rfl rfl ?_);(try dsimp only [C.ren,C.ren.all]);(try exact rfl))|exact SVLe.refl|refine ceb ?_)
          all_goals first | exact (show nodupB _ = true from rfl) | exact Or.inr rfl | ((first | rfl | exact decide_eq_true (by omega) | (simp only [e0,e1,e2,rgL_s0,rgL_s1,rgL_s2]; done) | (simp only [e0,e1,e2,rgL_s0,rgL_s1,rgL_s2]; rfl) | (simp only [e0,e1,e2,List.getElem_set_self]; exact decide_eq_true (by omega))))
    · have hr0 : (p[i.toNat]'hi).r = 0 := by omega
      by_cases hk : (p[i.toNat]'hi).k = 0
      · skip
        have ec : ex3 (p[i.toNat]'hi) x y z = ⟨(p[i.toNat]'hi).t,x + 1,y,z⟩ := by unfold ex3; simp only [hr0,hk,if_pos,show ¬ (0 : Int) = 1 from by decide,show ¬ (0 : Int) = 2 from by decide,if_true,if_false]
        rw [ec]
        refine does_of (k := 2) Tryz.func110 rfl Tryz.ntmps110 rfl rfl fun w F0 S0 ρ0 => ?_
        dsimp only [argT,argH]
        repeat' first|(apply n3;exact a_new (gb := .bx _) rfl;exact rfl;refine dA ?_)|(apply p3;(first|exact pu1|exact puI);exact rfl)|refine cdn ?_|refine g_reg (id := 0) ?_|refine g_reg (id := 1) ?_|(apply w3;(exact a_st_bx rfl rfl rfl rfl (fN rfl rfl) (Nat.le_of_ble_eq_true rfl) rfl);exact rfl;refine dS ?_)|fail
        simp only [setRow,scC,List.map_cons,List.map_nil,List.set_cons_zero,List.set_cons_succ,Nat.zero_add,List.getElem?_cons_zero,List.getElem?_cons_succ,List.take_succ_cons,List.take_zero,List.drop_zero,List.cons_append,List.nil_append,List.drop_succ_cons,List.drop_nil,List.append_nil,List.append_eq]
        repeat' first|(apply p3;(first|exact pu1|exact puC);exact rfl)|refine cd ?_|(apply g_drN (id := 2) okM [[],[0],[0,1],[0,1,2],[],[4],[0,1,2,3,4,5],[0,1,2,3,4,5,6]] [([],[]),([],[]),([],[]),([],[]),([],[]),([],[]),([],[]),([],[])] 0;(focus (refine dp 0 0 [18,19] [] pu1 ?_;refine dp 1 1 [18,19] [] (a_pure (sv := .one _) rfl) ?_;refine dp 2 3 [18,19] [] (a_pure (sv := .one _) rfl) ?_;refine dp 3 7 [18,19] [] (by exact puL) ?_;refine dp 4 0 [14,15,16,17] [] (a_pure (sv := .one _) rfl) ?_;refine dp 5 1 [14,15,16,17] [] puL ?_;refine dp 6 63 [] [] puI ?_;refine dp 7 127 [] [] pu1 ?_;(refine d_nil ?_;refine dN ?_)));any_goals kernel_rfl)|fail
        simp only [hr0,show Int.toNat 2 = 2 from rfl,show Int.toNat 1 = 1 from rfl,show Int.toNat 0 = 0 from rfl]
        repeat' first|(apply p3;(first|exact pu1|exact puL|exact puC|exact a_add rfl rfl (by omega) (by omega));exact rfl)|refine cd ?_|(apply w3;(first|exact a_st_bx rfl rfl rfl rfl (fN rfl rfl) (Nat.le_of_ble_eq_true rfl) rfl|exact a_st_rowI rfl rfl rfl rfl (fN rfl rfl) bnd);exact rfl;refine dS ?_)|((refine g_cond rfl (fun hc => ?_) (fun hc => ?_)) <;> (try simp only [dcB] at hc) <;> (try first|contradiction|(exfalso;omega)))|fail
        repeat refine cr ?_
        refine ends_id ?_
        refine endK [] (h2 := ?_) (h3 := ?_) (nd := ?_)
        all_goals (repeat' first|exact ce0|refine ce ?_|refine ce2 ?_ ?_|(refine Or.inr (bx_eq rfl rfl ?_);(try dsimp only [C.ren,C.ren.all]);(try exact rfl))|exact SVLe.refl|refine ceb ?_)
        all_goals first | exact (show nodupB _ = true from rfl) | exact Or.inr rfl | ((first | rfl | exact decide_eq_true (by omega) | (simp only [e0,e1,e2,rgL_s0,rgL_s1,rgL_s2]; done) | (simp only [e0,e1,e2,rgL_s0,rgL_s1,rgL_s2]; rfl) | (simp only [e0,e1,e2,List.getElem_set_self]; exact decide_eq_true (by omega))))
      · by_cases hv : 0 < x
        · skip
          have ec : ex3 (p[i.toNat]'hi) x y z = ⟨(p[i.toNat]'hi).t,x - 1,y,z⟩ := by unfold ex3; simp only [hr0,hk,hv,if_neg,if_pos,if_false,if_true,show ¬ (0 : Int) = 1 from by decide,show ¬ (0 : Int) = 2 from by decide,if_true,if_false]
          rw [ec]
          refine does_of (k := 2) Tryz.func110 rfl Tryz.ntmps110 rfl rfl fun w F0 S0 ρ0 => ?_
          dsimp only [argT,argH]
          repeat' first|(apply n3;exact a_new (gb := .bx _) rfl;exact rfl;refine dA ?_)|(apply p3;(first|exact pu1|exact puI);exact rfl)|refine cdn ?_|refine g_reg (id := 0) ?_|refine g_reg (id := 1) ?_|(apply w3;(exact a_st_bx rfl rfl rfl rfl (fN rfl rfl) (Nat.le_of_ble_eq_true rfl) rfl);exact rfl;refine dS ?_)|fail
          simp only [setRow,scC,List.map_cons,List.map_nil,List.set_cons_zero,List.set_cons_succ,Nat.zero_add,List.getElem?_cons_zero,List.getElem?_cons_succ,List.take_succ_cons,List.take_zero,List.drop_zero,List.cons_append,List.nil_append,List.drop_succ_cons,List.drop_nil,List.append_nil,List.append_eq]
          repeat' first|(apply p3;(first|exact pu1|exact puC);exact rfl)|refine cd ?_|(apply g_drN (id := 2) okM [[],[0],[0,1],[0,1,2],[],[4],[0,1,2,3,4,5],[0,1,2,3,4,5,6]] [([],[]),([],[]),([],[]),([],[]),([],[]),([],[]),([],[]),([],[])] 0;(focus (refine dp 0 0 [18,19] [] pu1 ?_;refine dp 1 1 [18,19] [] (a_pure (sv := .one _) rfl) ?_;refine dp 2 3 [18,19] [] (a_pure (sv := .one _) rfl) ?_;refine dp 3 7 [18,19] [] (by exact puL) ?_;refine dp 4 0 [14,15,16,17] [] (a_pure (sv := .one _) rfl) ?_;refine dp 5 1 [14,15,16,17] [] puL ?_;refine dp 6 63 [] [] puI ?_;refine dp 7 127 [] [] pu1 ?_;(refine d_nil ?_;refine dN ?_)));any_goals kernel_rfl)|fail
          simp only [hr0,show Int.toNat 2 = 2 from rfl,show Int.toNat 1 = 1 from rfl,show Int.toNat 0 = 0 from rfl]
          repeat' first|(apply p3;(first|exact pu1|exact puL|exact puC|exact a_sub rfl rfl (by omega) (by omega));exact rfl)|refine cd ?_|(apply w3;(first|exact a_st_bx rfl rfl rfl rfl (fN rfl rfl) (Nat.le_of_ble_eq_true rfl) rfl|exact a_st_rowI rfl rfl rfl rfl (fN rfl rfl) bnd);exact rfl;refine dS ?_)|((refine g_cond rfl (fun hc => ?_) (fun hc => ?_)) <;> (try simp only [dcB] at hc) <;> (try first|contradiction|(exfalso;omega)))|fail
          repeat refine cr ?_
          refine ends_id ?_
          refine endK [] (h2 := ?_) (h3 := ?_) (nd := ?_)
          all_goals (repeat' first|exact ce0|refine ce ?_|refine ce2 ?_ ?_|(refine Or.inr (bx_eq rfl rfl ?_);(try dsimp only [C.ren,C.ren.all]);(try exact rfl))|exact SVLe.refl|refine ceb ?_)
          all_goals first | exact (show nodupB _ = true from rfl) | exact Or.inr rfl | ((first | rfl | exact decide_eq_true (by omega) | (simp only [e0,e1,e2,rgL_s0,rgL_s1,rgL_s2]; done) | (simp only [e0,e1,e2,rgL_s0,rgL_s1,rgL_s2]; rfl) | (simp only [e0,e1,e2,List.getElem_set_self]; exact decide_eq_true (by omega))))
        · skip
          have ec : ex3 (p[i.toNat]'hi) x y z = ⟨(p[i.toNat]'hi).e,x,y,z⟩ := by unfold ex3; simp only [hr0,hk,hv,if_neg,if_false,if_true,show ¬ (0 : Int) = 1 from by decide,show ¬ (0 : Int) = 2 from by decide,if_true,if_false]
          rw [ec]
          refine does_of (k := 2) Tryz.func110 rfl Tryz.ntmps110 rfl rfl fun w F0 S0 ρ0 => ?_
          dsimp only [argT,argH]
          repeat' first|(apply n3;exact a_new (gb := .bx _) rfl;exact rfl;refine dA ?_)|(apply p3;(first|exact pu1|exact puI);exact rfl)|refine cdn ?_|refine g_reg (id := 0) ?_|refine g_reg (id := 1) ?_|(apply w3;(exact a_st_bx rfl rfl rfl rfl (fN rfl rfl) (Nat.le_of_ble_eq_true rfl) rfl);exact rfl;refine dS ?_)|fail
          simp only [setRow,scC,List.map_cons,List.map_nil,List.set_cons_zero,List.set_cons_succ,Nat.zero_add,List.getElem?_cons_zero,List.getElem?_cons_succ,List.take_succ_cons,List.take_zero,List.drop_zero,List.cons_append,List.nil_append,List.drop_succ_cons,List.drop_nil,List.append_nil,List.append_eq]
          repeat' first|(apply p3;(first|exact pu1|exact puC);exact rfl)|refine cd ?_|(apply g_drN (id := 2) okM [[],[0],[0,1],[0,1,2],[],[4],[0,1,2,3,4,5],[0,1,2,3,4,5,6]] [([],[]),([],[]),([],[]),([],[]),([],[]),([],[]),([],[]),([],[])] 0;(focus (refine dp 0 0 [18,19] [] pu1 ?_;refine dp 1 1 [18,19] [] (a_pure (sv := .one _) rfl) ?_;refine dp 2 3 [18,19] [] (a_pure (sv := .one _) rfl) ?_;refine dp 3 7 [18,19] [] (by exact puL) ?_;refine dp 4 0 [14,15,16,17] [] (a_pure (sv := .one _) rfl) ?_;refine dp 5 1 [14,15,16,17] [] puL ?_;refine dp 6 63 [] [] puI ?_;refine dp 7 127 [] [] pu1 ?_;(refine d_nil ?_;refine dN ?_)));any_goals kernel_rfl)|fail
          simp only [hr0,show Int.toNat 2 = 2 from rfl,show Int.toNat 1 = 1 from rfl,show Int.toNat 0 = 0 from rfl]
          repeat' first|(apply p3;(first|exact pu1|exact puL|exact puC);exact rfl)|refine cd ?_|(apply w3;(exact a_st_bx rfl rfl rfl rfl (fN rfl rfl) (Nat.le_of_ble_eq_true rfl) rfl);exact rfl;refine dS ?_)|((refine g_cond rfl (fun hc => ?_) (fun hc => ?_)) <;> (try simp only [dcB] at hc) <;> (try first|contradiction|(exfalso;omega)))|fail
          repeat refine cr ?_
          refine ends_id ?_
          refine endK [] (h2 := ?_) (h3 := ?_) (nd := ?_)
          all_goals (repeat' first|exact ce0|refine ce ?_|refine ce2 ?_ ?_|(refine Or.inr (bx_eq rfl rfl ?_);(try dsimp only [C.ren,C.ren.all]);(try exact rfl))|exact SVLe.refl|refine ceb ?_)
          all_goals first | exact (show nodupB _ = true from rfl) | exact Or.inr rfl | ((first | rfl | exact decide_eq_true (by omega) | (simp only [e0,e1,e2,rgL_s0,rgL_s1,rgL_s2]; done) | (simp only [e0,e1,e2,rgL_s0,rgL_s1,rgL_s2]; rfl) | (simp only [e0,e1,e2,List.getElem_set_self]; exact decide_eq_true (by omega))))
end Go.Proofs.YtegpggobfdcafaaGreat
end
section
set_option linter.unusedVariables false
set_option linter.unusedSimpArgs false
set_option maxRecDepth 100000
set_option maxHeartbeats 4000000
namespace Go.Proofs.YtegpggobfdcafaaGreat
open Go Foot Go.RowKit
theorem pth_at {p : List Jn} : ∀ (K n : Nat) (s : Int × Rg),Pth p K s → n < K → 0 ≤ (itS p n s).1 ∧ ∃ x,p[(itS p n s).1.toNat]? = some x ∧ 0 ≤ x.r ∧ x.r ≤ 2
  | 0,n,s,_,h => by omega
  | K + 1,0,s,hp,h => ⟨hp.1,hp.2.1⟩
  | K + 1,n + 1,s,hp,h => by rw [itS]; exact pth_at K n _ hp.2.2 (by omega)
theorem itS_succ (p : List Jn) (n : Nat) (s : Int × Rg) : itS p (n + 1) s = stJ p (itS p n s) := by rw [itS_app p n 1 s]; rfl
theorem itV_succ (m : Mach) (p : List Jn) (n : Nat) (s : Int × Rg) (v : Vs) : itV m p (n + 1) s v = visF m (itS p n s) (itV m p n s v) := by rw [itV_app m p n 1 s v]; rfl
structure Rq where
  n : Int
  r : R3
  v : Vs
abbrev vsF (m : Mach) : C := .fn (.func 57) [.d (.bx false [.sl false 1 (rows eI (begZ m m.st.toNat))]),.gv 2,.d (maD m),.gv 3]
structure RqOk (m : Mach) (p : List Jn) (s : Int × Rg) (v : Vs) (K : Nat) (q : Rq) : Prop where
  n0 : 0 ≤ q.n
  nK : q.n ≤ K
  x : 0 ≤ q.r.x ∧ q.r.x ≤ 500000 + q.n
  y : 0 ≤ q.r.y ∧ q.r.y ≤ 500000 + q.n
  z : 0 ≤ q.r.z ∧ q.r.z ≤ 500000 + q.n
  it : itS p q.n.toNat s = (q.r.a,rg q.r.x q.r.y q.r.z)
  vi : itV m p q.n.toNat s v = q.v
theorem RqOk.step {m : Mach} {p : List Jn} {s : Int × Rg} {v : Vs} {K : Nat} {y : Rq} (h : RqOk m p s v K y) (hP : Pth p K s) (hn : y.n < K) : ∃ hi : y.r.a.toNat < p.length,0 ≤ y.r.a ∧ (0 ≤ (p[y.r.a.toNat]'hi).r ∧ (p[y.r.a.toNat]'hi).r ≤ 2) ∧ RqOk m p s v K ⟨y.n + 1,ex3 (p[y.r.a.toNat]'hi) y.r.x y.r.y y.r.z,visF m (y.r.a,rg y.r.x y.r.y y.r.z) y.v⟩ := by
  obtain ⟨n,⟨a,x,y',z⟩,w⟩ := y
  obtain ⟨h1,h2,h3,h4,h5,h6,h7⟩ := h
  dsimp only at *
  obtain ⟨p1,u,p2,p3⟩ := pth_at K n.toNat s hP (by omega)
  rw [h6] at p1 p2
  dsimp only at p1 p2
  obtain ⟨hi,rfl⟩ := List.getElem?_eq_some_iff.1 p2
  have e : (n + 1).toNat = n.toNat + 1 := by omega
  have hb := ex3_bd (u := p[a.toNat]'hi) h3 h4 h5
  refine ⟨hi,p1,p3,by dsimp only; omega,by dsimp only; omega,?_,?_,?_,?_,?_⟩
  · dsimp only; omega
  · dsimp only; omega
  · dsimp only; omega
  · dsimp only
    rw [e,itS_succ,h6]
    unfold stJ
    dsimp only
    rw [p2]
    exact ex3_exec p3 _ _ _ _
  · dsimp only
    rw [e,itV_succ,h6,h7]
theorem RqOk.last {m : Mach} {p : List Jn} {s : Int × Rg} {v : Vs} {K : Nat} {y : Rq} (h : RqOk m p s v K y) (hP : Pth p K s) (hl : y.r.a = p.length) : y.n = K := by
  by_cases hn : y.n < K
  · obtain ⟨hi,h0,_⟩ := h.step hP hn
    omega
  · have := h.nK
    omega
theorem RqOk.fin {m : Mach} {p : List Jn} {s : Int × Rg} {v : Vs} {K : Nat} {y : Rq} (h : RqOk m p s v K y) (hn : y.n = K) {rK : R3} {vK : Vs} (hv : itV m p K s v = vK) (hr : itS p K s = (rK.a,rg rK.x rK.y rK.z)) : rK = y.r ∧ vK = y.v := by
  have e : y.n.toNat = K := by omega
  have h1 := h.it
  have h2 := h.vi
  rw [e,hr,Prod.mk.injEq] at h1
  rw [e,hv] at h2
  obtain ⟨g1,g2⟩ := h1
  have g3 := congrFun g2 0
  have g4 := congrFun g2 1
  have g5 := congrFun g2 2
  rw [rg_0,rg_0] at g3
  rw [rg_1,rg_1] at g4
  rw [rg_2,rg_2] at g5
  refine ⟨?_,h2⟩
  obtain ⟨_,⟨a,x,y,z⟩,_⟩ := y
  obtain ⟨a',x',y',z'⟩ := rK
  dsimp only at g1 g3 g4 g5 ⊢
  rw [g1,g3,g4,g5]
theorem preB284 {p : Prop} (h : p := by first | with_reducible assumption | omega | (simp only [List.length_append,List.length_cons,List.length_nil,List.length_set,List.length_replicate,List.length_take,List.length_drop,List.length_tail,List.length_dropLast,List.length_reverse] at *; omega) | exact mem_len (by assumption) (by omega) | (with_reducible refine Int.le_trans (Int.ofNat_le.2 (trimR_len _)) ?_; simp only [List.length_cons,List.length_tail]; omega) | (exact (ruAt_ok (by assumption) (by assumption) (by assumption)).2.1) | (exact (ruAt_ok (by assumption) (by assumption) (by assumption)).2.1) | (have := vMach_bd (by assumption); omega) | (simp only [List.length_append,List.length_cons,List.length_nil,repW_len,seN_len] at *; omega) | (simp only [mC_ch,mC_tu]; omega) | (have := vTag_bd (by assumption); omega) | (have := (‹Gd _ _›).le; omega) | (exact tgHalts_no (by assumption)) | (exact tgHead (by assumption) (by assumption) (by assumption)) | (exact Int.le_trans (tgStep_gd (by assumption) (by assumption) (by assumption) (by assumption)).le (by decide)) | (exact vTag_r (by assumption)) | (with_reducible refine Int.le_trans (Int.ofNat_le.2 (pushL_len _ _)) ?_; simp only [List.length_dropLast]; omega) | exact ls_at (by assumption) (by omega) | exact pt_gd (by assumption) | exact lv_at (by assumption) (by omega) | exact pt_gd (lv_at (by assumption) (by omega)) | exact (ask_ok (by assumption)).1 | exact (ask_ok (by assumption)).2.1 | exact (ask_ok (by assumption)).2.2.1 | exact (ask_ok (by assumption)).2.2.2 | trivial) : p := h
theorem runRg_ok (m : Mach) (hm : MaRu m) (p : List Jn) (hp : (p.length : Int) ≤ 1000) (s : Int × Rg) (v : Vs) (K : Nat) (B : Int) (hP : Pth p K s) (hB : B ≤ 100000) (hK : (K : Int) ≤ B) (hE : (itS p K s).1 = p.length ∨ (K : Int) = B) (r0 rK : R3) (h0 : RqOk m p s v K ⟨0,r0,v⟩) (vK : Vs) (hv : itV m p K s v = vK) (hr : itS p K s = (rK.a,rg rK.x rK.y rK.z)) : Does Tryz.prog 56 [.one (shJ p),.one (.gv 0),.one (int B),.one (vsF m)] [.bx [int r0.a,.gv 1],roI (rgL r0.x r0.y r0.z),.bx [int v.e],.bx [int v.c.st,.gv 4,.gv 5],roI v.c.le,roI v.c.ri] (.tup [(false,[int K]),(false,[boo (decide (rK.a = p.length))]),(false,[int 0])]) [.bx [int rK.a,.gv 1],roI (rgL rK.x rK.y rK.z),.bx [int (visF m (rK.a,rg rK.x rK.y rK.z) vK).e],.bx [int (visF m (rK.a,rg rK.x rK.y rK.z) vK).c.st,.gv 6,.gv 7],.dead,.dead,roI (visF m (rK.a,rg rK.x rK.y rK.z) vK).c.le,roI (visF m (rK.a,rg rK.x rK.y rK.z) vK).c.ri] := by
  refine does_of (k := 6) Tryz.func56 rfl Tryz.ntmps56 rfl rfl fun w F0 S0 ρ0 => ?_
  dsimp only [argT,argH]
  refine g_conv (t_mvB (i := 4) (j := 3) (k := 1) rfl rfl rfl rfl rfl rfl) ?_
  try dsimp only [setRow,List.map_cons,List.map_nil,scC,List.set_cons_zero,List.set_cons_succ]
  refine g_conv (t_mvB (i := 5) (j := 3) (k := 2) rfl rfl rfl rfl rfl rfl) ?_
  try dsimp only [setRow,List.map_cons,List.map_nil,scC,List.set_cons_zero,List.set_cons_succ]
  repeat' first|(apply p3;(exact pu1);exact rfl)|refine cd ?_|fail
  refine g_loop_id ?_
  refine loopK [0,1,2,3,8,9,10] [0,1,2,3,6,7] (fun y : Rq => RqOk m p s v K y) (fun y => [(11,.one (int y.n))]) (fun y => [(0,.bx [int y.r.a,.gv 1]),(1,roI (rgL y.r.x y.r.y y.r.z)),(2,.bx [int y.v.e]),(3,.bx [int y.v.c.st,.gv 6,.gv 7]),(6,roI y.v.c.le),(7,roI y.v.c.ri)]) (fun y => (K - y.n).toNat) (⟨0,r0,v⟩ : Rq) [0,1,2,3,4,5,6,7] (hI := ?_) (hr := ?_)
  · exact h0
  · rintro ⟨n,⟨a,x,y,z⟩,⟨e,⟨st,le,ri⟩⟩⟩ h
    dsimp only [List.cons_append,List.nil_append] at *
    skip
    repeat' first|(apply p3;(exact pu1);exact rfl)|refine cd ?_|fail
    obtain ⟨i0,i1,i2,i3,i4,i5,i6⟩ := id h
    dsimp only at i0 i1 i2 i3 i4 i5 i6
    repeat' first|refine cdn ?_|(apply c4 2;exact callK1 (θ := [2,3,6,7]) (hD := (rbVisit_ok m hm _ _ _ _ _ _ _ _ preB284 preB284));exact rfl;exact rfl;exact rfl;refine dM ?_)|(apply g_drN (id := 4) okM [[],[0],[0,1],[0,1,2],[],[4],[0,1,2,3,4,5],[0,1,2,3,4,5,6],[0,1,2,3,4,5,6,7],[0,1,2,3,4,5,6,7],[0,1,2,3,4,5,6,7,8,9],[0,1,2,3,4,5,6,7,8,9,10]] [([],[]),([],[]),([],[]),([],[]),([],[]),([],[]),([],[]),([],[]),([],[]),([],[]),([],[]),([],[])] 0;(focus (all_goals refine dp 0 0 [23,24] [] pu1 ?_;all_goals refine dp 1 1 [23,24] [] (a_pure (sv := .one _) rfl) ?_;all_goals refine dp 2 3 [23,24] [] (a_pure (sv := .one _) rfl) ?_;all_goals refine dp 3 7 [23,24] [] puL ?_;all_goals refine dp 4 0 [19,20,21,22] [] pu1 ?_;all_goals refine dp 5 1 [19,20,21,22] [] (by exact callD1 (n := _) 0 (θ := []) (hD := (sizeJ_ok _ preB284))) ?_;all_goals refine dp 6 63 [] [] (by exact puC) ?_;all_goals (refine db 7 127 [] [] pu1 ?_ ?_ <;> (intro hc;first|cases hc|(try simp only [dcB] at hc);first|contradiction|(exfalso;omega)|skip));all_goals (first|refine dn 8 255 [28] [] ?_|refine dpy 8 255 [28] [] pu1 ?_);all_goals (first|refine dn 9 510 [27] [] ?_|refine dpy 9 510 [27] [] pu1 ?_);all_goals (first|refine dn 10 1023 [] [] ?_|refine dpy 10 1023 [] [] (by first|exact puC|exact a_eqS rfl rfl rfl) ?_);all_goals refine dp 11 2047 [] [] (a_pure (sv := .one _) rfl) ?_;all_goals (refine d_nil ?_;refine dN ?_)));any_goals kernel_rfl)|(apply g_drN (id := 5) okM [[],[],[1],[1,2],[1,2,3],[],[5],[1,2,3,4,5,6],[0,5,6],[0,1,2,3,4,5,6,7,8],[0,1,2,3,4,5,6,7,8,9]] [([],[]),([],[]),([],[]),([],[]),([],[]),([],[]),([],[]),([],[]),([],[]),([],[]),([],[])] 0;(focus (refine dp 0 0 [32,33,34,35,36,37,38] [] pu1 ?_;refine dp 1 0 [31,36,37,8] [] pu1 ?_;refine dp 2 1 [31,36,37,8] [] (a_pure (sv := .one _) rfl) ?_;refine dp 3 3 [31,36,37,8] [] (a_pure (sv := .one _) rfl) ?_;refine dp 4 7 [31,36,37,8] [] puL ?_;refine dp 5 0 [31,32,33,34,35] [] pu1 ?_;refine dp 6 1 [31,32,33,34,35] [] (by exact callD1 (n := _) 0 (θ := []) (hD := (sizeJ_ok _ preB284))) ?_;refine dp 7 63 [31,8] [] (by exact puC) ?_;refine dp 8 134 [32,33,34,35,38] [] pu1 ?_;refine dp 9 511 [] [] pu1 ?_;refine dp 10 1023 [] [] (a_pure (sv := .one _) rfl) ?_;(refine d_nil ?_;refine dN ?_)));any_goals kernel_rfl)|((refine g_cond rfl (fun hc => ?_) (fun hc => ?_)) <;> (try simp only [dcB] at hc) <;> (try first|contradiction|(exfalso;omega)))|fail
    · have hn : n = (K : Int) := h.last hP hc
      obtain ⟨rfl,rfl⟩ := h.fin hn hv hr
      rw [← hn,decide_eq_true hc]
      repeat refine cr ?_
      refine ends_id ?_
      refine endK [?_,?_] (h2 := ?_) (h3 := ?_) (nd := ?_)
      rotate_left 2
      all_goals (repeat' first|exact ce0|refine ce ?_|refine ce2 ?_ ?_|(refine Or.inr (bx_eq rfl rfl ?_);(try dsimp only [C.ren,C.ren.all]);(try exact rfl))|exact SVLe.refl|refine ceb ?_)
      all_goals first | exact (show nodupB _ = true from rfl) | exact Or.inr rfl | ((first | rfl | omega))
    · have hn : n = (K : Int) := by omega
      obtain ⟨rfl,rfl⟩ := h.fin hn hv hr
      rw [← hn]
      repeat refine cr ?_
      refine ends_id ?_
      refine endK [?_,?_] (h2 := ?_) (h3 := ?_) (nd := ?_)
      rotate_left 2
      all_goals (repeat' first|exact ce0|refine ce ?_|refine ce2 ?_ ?_|(refine Or.inr (bx_eq rfl rfl ?_);(try dsimp only [C.ren,C.ren.all]);(try exact rfl))|exact SVLe.refl|refine ceb ?_)
      all_goals first | exact (show nodupB _ = true from rfl) | exact Or.inr rfl | ((first | rfl | omega))
    · have hn : n < (K : Int) := by
        by_cases q : n < (K : Int)
        · exact q
        · exfalso
          have hk : n = (K : Int) := by omega
          obtain ⟨q1,q2⟩ := h.fin hk hv hr
          rcases hE with g | g
          · rw [hr,q1] at g; dsimp only at g; omega
          · omega
      obtain ⟨hi,g0,gr,gs⟩ := h.step hP hn
      dsimp only at hi g0 gr gs
      repeat' first|(apply p3;(first|exact pu1|exact a_add rfl rfl (by omega) (by omega));exact rfl)|refine cd ?_|(apply c4 0;exact callK1 (θ := [_,_]) (hD := (stepRg_ok p a x y z hi g0 gr (by omega) (by omega) (by omega)));exact rfl;exact rfl;exact rfl;refine dM ?_)|fail
      refine q_again (⟨n + 1,ex3 (p[a.toNat]'hi) x y z,visF m (a,rg x y z) ⟨e,⟨st,le,ri⟩⟩⟩ : Rq) [0,1,2,3,4,5,8,9] (by exact stk) ?_ ?_
      · exact gs
      · dsimp only; omega
end Go.Proofs.YtegpggobfdcafaaGreat
end
section
set_option linter.unusedVariables false
set_option linter.unusedSimpArgs false
set_option maxRecDepth 100000
set_option maxHeartbeats 4000000
namespace Go.Proofs.YtegpggobfdcafaaGreat
open Go Foot Go.RowKit
@[irreducible] def vEnd (m : Mach) (k : Nat) (c : Conf) : Vs := itV m (prgM m) (rmK m k c) (stC0 m c) ⟨0,⟨0,[],[]⟩⟩
abbrev xN (m : Mach) (c : Conf) : Int := numN m.sy c.le
abbrev yN (m : Mach) (c : Conf) : Int := numN m.sy c.ri
structure ByOk (m : Mach) (k : Nat) (c : Conf) : Prop where
  hv : vMach m = true
  hr : rmV m k c
  hp : plen m ≤ 400
  K1 : 1 ≤ rmK m k c
  K2 : rmK m k c ≤ 4000
  num : numOk m c = true
  x : xN m c ≤ 500000
  y : yN m c ≤ 500000
theorem by_nn {m : Mach} (hv : vMach m = true) {c : Conf} (hc : vConf m c = true) : 0 ≤ xN m c ∧ 0 ≤ yN m c := by
  obtain ⟨z1,z2⟩ := conf_cells hc
  obtain ⟨⟨ya,yb⟩,_⟩ := vMach_bd hv
  exact ⟨numN_nn ya z1,numN_nn ya z2⟩
theorem ByOk.rq {m : Mach} {k : Nat} {c : Conf} (h : ByOk m k c) (v : Vs) (K : Nat) : RqOk m (prgM m) (stC0 m c) v K ⟨0,⟨atZ m c.st.toNat,xN m c,yN m c,0⟩,v⟩ := by
  have hc := rmV_room h.hr
  obtain ⟨d1,d2⟩ := by_nn h.hv hc
  have h1 := h.x
  have h2 := h.y
  exact ⟨by simp,by dsimp only; omega,by dsimp only; omega,by dsimp only; omega,by dsimp only; omega,rfl,rfl⟩
theorem ByOk.len {m : Mach} {k : Nat} {c : Conf} (h : ByOk m k c) : ((prgM m).length : Int) = atZ m m.st.toNat ∧ ((prgM m).length : Int) ≤ 400 := by
  have hm := maRu_of h.hv
  have h1 := prg_len hm
  have h2 := plen_at h.hv
  have h3 := h.hp
  exact ⟨h1,by omega⟩
theorem preB285 {p : Prop} (h : p := by first | with_reducible assumption | omega | (simp only [List.length_append,List.length_cons,List.length_nil,List.length_set,List.length_replicate,List.length_take,List.length_drop,List.length_tail,List.length_dropLast,List.length_reverse] at *; omega) | exact mem_len (by assumption) (by omega) | (with_reducible refine Int.le_trans (Int.ofNat_le.2 (trimR_len _)) ?_; simp only [List.length_cons,List.length_tail]; omega) | (exact (ruAt_ok (by assumption) (by assumption) (by assumption)).2.1) | (exact (ruAt_ok (by assumption) (by assumption) (by assumption)).2.1) | (have := vMach_bd (by assumption); omega) | (simp only [List.length_append,List.length_cons,List.length_nil,repW_len,seN_len] at *; omega) | (simp only [mC_ch,mC_tu]; omega) | (have := vTag_bd (by assumption); omega) | (have := (‹Gd _ _›).le; omega) | (exact tgHalts_no (by assumption)) | (exact tgHead (by assumption) (by assumption) (by assumption)) | (exact Int.le_trans (tgStep_gd (by assumption) (by assumption) (by assumption) (by assumption)).le (by decide)) | (exact vTag_r (by assumption)) | (with_reducible refine Int.le_trans (Int.ofNat_le.2 (pushL_len _ _)) ?_; simp only [List.length_dropLast]; omega) | exact ls_at (by assumption) (by omega) | exact pt_gd (by assumption) | exact lv_at (by assumption) (by omega) | exact pt_gd (lv_at (by assumption) (by omega)) | exact (ask_ok (by assumption)).1 | exact (ask_ok (by assumption)).2.1 | exact (ask_ok (by assumption)).2.2.1 | exact (ask_ok (by assumption)).2.2.2 | trivial) : p := h
theorem byH_ok (m : Mach) (k : Nat) (c : Conf) (h : ByOk m k c) (hn : ruAt m (rmC m k c) = noR) : Does Tryz.prog 56 [.one (shJ (prgM m)),.one (.gv 0),.one (int (rmK m k c)),.one (vsF m)] [.bx [int (atZ m c.st.toNat),.gv 1],roI (rgL (xN m c) (yN m c) 0),.bx [int 0],.bx [int 0,.gv 4,.gv 5],roI [],roI []] (.tup [(false,[int (rmK m k c)]),(false,[boo true]),(false,[int 0])]) [.bx [int (atZ m m.st.toNat),.gv 1],roI (rgL (xN m (rmC m k c)) (yN m (rmC m k c)) 0),.bx [int (rmC m k c).st],.bx [int (vEnd m k c).c.st,.gv 6,.gv 7],.dead,.dead,roI (vEnd m k c).c.le,roI (vEnd m k c).c.ri] := by
  have hm := maRu_of h.hv
  obtain ⟨r1,r2,r3,r4,r5⟩ := prog_run h.hv k c ⟨0,⟨0,[],[]⟩⟩ h.hr
  obtain ⟨r6,r7⟩ := r4 hn
  obtain ⟨l1,l2⟩ := h.len
  have hK := h.K2
  have e1 : (vEnd m k c).e = (rmC m k c).st := by unfold vEnd; exact r7
  have e2 : visF m (atZ m m.st.toNat,rg (xN m (rmC m k c)) (yN m (rmC m k c)) 0) (vEnd m k c) = vEnd m k c := vis_none (secAt_end hm)
  have w := runRg_ok m hm (prgM m) (by omega) (stC0 m c) ⟨0,⟨0,[],[]⟩⟩ (rmK m k c) (rmK m k c) r2 (by omega) (Int.le_refl _) (.inr rfl) ⟨atZ m c.st.toNat,xN m c,yN m c,0⟩ ⟨atZ m m.st.toNat,xN m (rmC m k c),yN m (rmC m k c),0⟩ (h.rq _ _) (vEnd m k c) (by unfold vEnd; rfl) r6
  dsimp only at w
  rw [e2,e1,decide_eq_true l1.symm] at w
  exact w
theorem byN_ok (m : Mach) (k : Nat) (c : Conf) (h : ByOk m k c) (hn : ¬ ruAt m (rmC m k c) = noR) : Does Tryz.prog 56 [.one (shJ (prgM m)),.one (.gv 0),.one (int (rmK m k c)),.one (vsF m)] [.bx [int (atZ m c.st.toNat),.gv 1],roI (rgL (xN m c) (yN m c) 0),.bx [int 0],.bx [int 0,.gv 4,.gv 5],roI [],roI []] (.tup [(false,[int (rmK m k c)]),(false,[boo false]),(false,[int 0])]) [.bx [int (atZ m (rmC m k c).st.toNat),.gv 1],roI (rgL (xN m (rmC m k c)) (yN m (rmC m k c)) 0),.bx [int (rmC m k c).st],.bx [int (rmC m k c).st,.gv 6,.gv 7],.dead,.dead,roI (rmC m k c).le,roI (rmC m k c).ri] := by
  have hm := maRu_of h.hv
  obtain ⟨r1,r2,r3,r4,r5⟩ := prog_run h.hv k c ⟨0,⟨0,[],[]⟩⟩ h.hr
  have r6 := r5 hn
  obtain ⟨l1,l2⟩ := h.len
  have hK := h.K2
  obtain ⟨⟨k1,k2⟩,s1,s2⟩ := vConf_bd r3
  obtain ⟨⟨ya,yb⟩,_⟩ := vMach_bd h.hv
  obtain ⟨z1,z2⟩ := conf_cells r3
  have hq : ((rmC m k c).st.toNat : Int) = (rmC m k c).st := by omega
  have e2 : visF m (atZ m (rmC m k c).st.toNat,rg (xN m (rmC m k c)) (yN m (rmC m k c)) 0) (vEnd m k c) = ⟨(rmC m k c).st,rmC m k c⟩ := by
    rw [vis_zero (secAt_q hm (by omega)),hq,celG_num ya z1 (vSide_bd s1).2.2,celG_num ya z2 (vSide_bd s2).2.2]
  have hne : ¬ atZ m (rmC m k c).st.toNat = ((prgM m).length : Int) := by
    have := atZ_mono hm m.st.toNat ((rmC m k c).st.toNat + 1) (by omega) (by omega)
    have h9 := secZ_pos hm (q := (rmC m k c).st.toNat) (by omega)
    rw [atZ] at this
    omega
  have w := runRg_ok m hm (prgM m) (by omega) (stC0 m c) ⟨0,⟨0,[],[]⟩⟩ (rmK m k c) (rmK m k c) r2 (by omega) (Int.le_refl _) (.inr rfl) ⟨atZ m c.st.toNat,xN m c,yN m c,0⟩ ⟨atZ m (rmC m k c).st.toNat,xN m (rmC m k c),yN m (rmC m k c),0⟩ (h.rq _ _) (vEnd m k c) (by unfold vEnd; rfl) r6
  dsimp only at w
  rw [e2,decide_eq_false hne] at w
  exact w
theorem mtpG_ok (m : Mach) (hv : vMach m = true) (hp : plen m ≤ 400) : Does Tryz.prog 42 [.agg (maC m)] [] (.tup [(false,[.gv 0]),(false,[.gv 1]),(false,[int 0])]) [roJ (prgM m),roI (begZ m m.st.toNat)] := by
  have w := machineToProgram_ok m hv
  have hp' : (plen m : Int) ≤ 400 := by omega
  have e1 : mtpP m = prgM m := by unfold mtpP; rw [if_pos hp']
  have e2 : mtpB m = begM m := by unfold mtpB; rw [if_pos hp']
  have e3 : mtpC m = 0 := by unfold mtpC; rw [if_pos hp']
  rw [e1,e2,e3,begM_code (maRu_of hv)] at w
  exact w
theorem rq_end {m : Mach} {p : List Jn} {s : Int × Rg} {v : Vs} {K : Nat} {r0 : R3} (hP : Pth p K s) (h0 : RqOk m p s v K ⟨0,r0,v⟩) : ∀ n : Nat,n ≤ K → ∃ y : Rq,RqOk m p s v K y ∧ y.n = n
  | 0,_ => ⟨_,h0,rfl⟩
  | n + 1,h => by
    obtain ⟨y,hy,e⟩ := rq_end hP h0 n (by omega)
    obtain ⟨_,_,_,g⟩ := hy.step hP (by omega)
    exact ⟨_,g,by dsimp only; omega⟩
theorem ByOk.xy {m : Mach} {k : Nat} {c : Conf} (h : ByOk m k c) : xN m (rmC m k c) ≤ 504000 ∧ yN m (rmC m k c) ≤ 504000 := by
  obtain ⟨r1,r2,r3,r4,r5⟩ := prog_run h.hv k c ⟨0,⟨0,[],[]⟩⟩ h.hr
  obtain ⟨y,hy,e⟩ := rq_end r2 (h.rq ⟨0,⟨0,[],[]⟩⟩ (rmK m k c)) (rmK m k c) (Nat.le_refl _)
  have hK := h.K2
  have b1 := hy.x
  have b2 := hy.y
  have b3 := hy.it
  have e2 : y.n.toNat = rmK m k c := by omega
  rw [e2] at b3
  have key : xN m (rmC m k c) = y.r.x ∧ yN m (rmC m k c) = y.r.y := by
    by_cases hn : ruAt m (rmC m k c) = noR
    · rw [(r4 hn).1,Prod.mk.injEq] at b3
      exact ⟨congrFun b3.2 0,congrFun b3.2 1⟩
    · rw [r5 hn,Prod.mk.injEq] at b3
      exact ⟨congrFun b3.2 0,congrFun b3.2 1⟩
  rw [key.1,key.2]
  omega
theorem byNum_ok (m : Mach) (k : Nat) (c : Conf) (h : ByOk m k c) : Does Tryz.prog 60 [.agg (maC m),.one (int (rmC m k c).st),.agg [int (atZ m m.st.toNat),shI (rgL (xN m (rmC m k c)) (yN m (rmC m k c)) 0)]] [] (.agg [int (rmC m k c).st,.gv 0,.gv 1]) [roI (rmC m k c).le,roI (rmC m k c).ri] := by
  obtain ⟨⟨ya,yb⟩,_⟩ := vMach_bd h.hv
  obtain ⟨_,_,r3,_⟩ := prog_run h.hv k c ⟨0,⟨0,[],[]⟩⟩ h.hr
  obtain ⟨_,s1,s2⟩ := vConf_bd r3
  obtain ⟨z1,z2⟩ := conf_cells r3
  obtain ⟨d1,d2⟩ := by_nn h.hv r3
  obtain ⟨d3,d4⟩ := h.xy
  have w := configOfNumbers_ok m (rmC m k c).st (atZ m m.st.toNat) (xN m (rmC m k c)) (yN m (rmC m k c)) 0 ya yb ⟨d1,by omega⟩ ⟨d2,by omega⟩
  rw [celG_num ya z1 (vSide_bd s1).2.2,celG_num ya z2 (vSide_bd s2).2.2] at w
  exact w
theorem iRunByProgram_ok (m : Mach) (k : Nat) (c : Conf) (h : ByOk m k c) (hx : (c.le.length : Int) ≤ 200) (hy : (c.ri.length : Int) ≤ 200) : Does Tryz.prog 18 [.agg (maC m),.agg (coC c),.one (int (rmK m k c))] [] (.tup [(true,[int (rmC m k c).st,.gv 0,.gv 1]),(false,[int (rmK m k c)]),(false,[boo (decide (ruAt m (rmC m k c) = noR))]),(false,[int 0])]) [roI (rmC m k c).le,roI (rmC m k c).ri] := by
  have hv := h.hv
  have hb := rmV_room h.hr
  have hru := (at_bd hv hb).2.2.2.2
  have K1 := h.K1
  have K2 := h.K2
  have hnum := h.num
  by_cases hn : ruAt m (rmC m k c) = noR
  · skip
    refine does_of (k := 0) Tryz.func18 rfl Tryz.ntmps18 rfl rfl fun w F0 S0 ρ0 => ?_
    dsimp only [argT,argH]
    repeat' first|(apply n3;exact a_new (gb := .bx _) rfl;exact rfl;refine dA ?_)|(apply p3;(first|exact pu1|exact a_ne rfl rfl);exact rfl)|refine cdn ?_|refine g_reg (id := 0) ?_|refine g_reg (id := 1) ?_|refine g_reg (id := 2) ?_|refine g_reg (id := 3) ?_|refine g_reg (id := 5) ?_|refine g_reg (id := 6) ?_|(apply w3;(exact a_st_bx rfl rfl rfl rfl (fN rfl rfl) (Nat.le_of_ble_eq_true rfl) rfl);exact rfl;refine dS ?_)|(apply c4 0;exact callK1 (θ := []) (hD := (ValidConfig_ok _ _ preB285 preB285 preB285));exact rfl;exact rfl;exact rfl;refine dM ?_)|(apply c4 0;exact callK1 (θ := []) (hD := (budgetOk_ok _));exact rfl;exact rfl;exact rfl;refine dM ?_)|(apply c4 2;exact callK1 (θ := []) (hD := (mtpG_ok m hv h.hp));exact rfl;exact rfl;exact rfl;refine dM ?_)|((refine g_cond rfl (fun hc => ?_) (fun hc => ?_)) <;> (try simp only [dcB] at hc) <;> (try first|contradiction|(exfalso;omega)))|fail
    · exfalso; rw [hv,hb] at hc; exact absurd hc (by decide)
    · skip
      first | refine g_turn (t_frzB (d := 3) (i := 0) rfl rfl rfl) ?_ | refine o_turn (t_frzB (d := 3) (i := 0) rfl rfl rfl) ?_
      refine g_turn (t_freeze (i := 3) rfl nowR) ?_
      refine g_turn (t_freeze (i := 4) rfl nowR) ?_
      simp only [setRow,C.frz.all,C.frz,SV.frz,tFrz,List.map_cons,List.map_nil,scC,List.set_cons_zero,List.set_cons_succ,Nat.zero_add,List.getElem?_cons_zero,List.getElem?_cons_succ,List.take_succ_cons,List.take_zero,List.drop_zero]
      first | refine g_turn (t_frzB (d := 11) (i := 5) rfl rfl rfl) ?_ | refine o_turn (t_frzB (d := 11) (i := 5) rfl rfl rfl) ?_
      repeat' first|(apply n3;exact a_new (gb := .bx _) rfl;exact rfl;refine dA ?_)|(apply p3;(first|exact pu1|exact a_ne rfl rfl);exact rfl)|refine cdn ?_|refine g_reg (id := 8) ?_|refine g_reg (id := 9) ?_|refine g_reg (id := 11) ?_|(apply w3;(exact a_st_bx rfl rfl rfl rfl (fN rfl rfl) (Nat.le_of_ble_eq_true rfl) rfl);exact rfl;refine dS ?_)|(apply c4 1;exact callK1 (θ := []) (hD := (storeOfConfig_ok m c hv hb hnum));exact rfl;exact rfl;exact rfl;refine dM ?_)|fail
      simp only [setRow,scC,List.map_cons,List.map_nil,List.set_cons_zero,List.set_cons_succ,Nat.zero_add,List.getElem?_cons_zero,List.getElem?_cons_succ,List.take_succ_cons,List.take_zero,List.drop_zero,List.cons_append,List.nil_append,List.drop_succ_cons,List.drop_nil,List.append_nil,List.append_eq]
      refine g_conv (t_nilB (i := 8) (k := 1) (z := 1) rfl rfl rfl (by decide)) ?_
      try dsimp only [setRow,List.map_cons,List.map_nil,scC,List.set_cons_zero,List.set_cons_succ,Nat.reduceAdd]
      refine g_conv (t_nilB (i := 8) (k := 2) (z := 1) rfl rfl rfl (by decide)) ?_
      try dsimp only [setRow,List.map_cons,List.map_nil,scC,List.set_cons_zero,List.set_cons_succ,Nat.reduceAdd]
      rw [decide_eq_true hn]
      repeat' first|(apply p3;(first|exact pu1|exact a_ne rfl rfl);exact rfl)|refine cd ?_|(apply w3;(exact a_st_bx rfl rfl rfl rfl (fN rfl rfl) (Nat.le_of_ble_eq_true rfl) rfl);exact rfl;refine dS ?_)|(apply c4 2;exact callK1 (θ := [_,_,_,_,_,_]) (hD := (byH_ok m k c h hn));exact rfl;exact rfl;exact rfl;refine dM ?_)|(apply c4 2;exact callK1 (θ := []) (hD := (byNum_ok m k c h));exact rfl;exact rfl;exact rfl;refine dM ?_)|fail
      repeat refine cr ?_
      refine ends_id ?_
      refine endK [?_,?_] (h2 := ?_) (h3 := ?_) (nd := ?_)
      rotate_left 2
      all_goals (repeat' first|exact ce0|refine ce ?_|refine ce2 ?_ ?_|(refine Or.inr (bx_eq rfl rfl ?_);(try dsimp only [C.ren,C.ren.all]);(try exact rfl))|exact SVLe.refl|refine ceb ?_)
      all_goals first | exact (show nodupB _ = true from rfl) | exact Or.inr rfl | (rfl)
  · skip
    refine does_of (k := 0) Tryz.func18 rfl Tryz.ntmps18 rfl rfl fun w F0 S0 ρ0 => ?_
    dsimp only [argT,argH]
    repeat' first|(apply n3;exact a_new (gb := .bx _) rfl;exact rfl;refine dA ?_)|(apply p3;(first|exact pu1|exact a_ne rfl rfl);exact rfl)|refine cdn ?_|refine g_reg (id := 0) ?_|refine g_reg (id := 1) ?_|refine g_reg (id := 2) ?_|refine g_reg (id := 3) ?_|refine g_reg (id := 5) ?_|refine g_reg (id := 6) ?_|(apply w3;(exact a_st_bx rfl rfl rfl rfl (fN rfl rfl) (Nat.le_of_ble_eq_true rfl) rfl);exact rfl;refine dS ?_)|(apply c4 0;exact callK1 (θ := []) (hD := (ValidConfig_ok _ _ preB285 preB285 preB285));exact rfl;exact rfl;exact rfl;refine dM ?_)|(apply c4 0;exact callK1 (θ := []) (hD := (budgetOk_ok _));exact rfl;exact rfl;exact rfl;refine dM ?_)|(apply c4 2;exact callK1 (θ := []) (hD := (mtpG_ok m hv h.hp));exact rfl;exact rfl;exact rfl;refine dM ?_)|((refine g_cond rfl (fun hc => ?_) (fun hc => ?_)) <;> (try simp only [dcB] at hc) <;> (try first|contradiction|(exfalso;omega)))|fail
    · exfalso; rw [hv,hb] at hc; exact absurd hc (by decide)
    · skip
      first | refine g_turn (t_frzB (d := 3) (i := 0) rfl rfl rfl) ?_ | refine o_turn (t_frzB (d := 3) (i := 0) rfl rfl rfl) ?_
      refine g_turn (t_freeze (i := 3) rfl nowR) ?_
      refine g_turn (t_freeze (i := 4) rfl nowR) ?_
      simp only [setRow,C.frz.all,C.frz,SV.frz,tFrz,List.map_cons,List.map_nil,scC,List.set_cons_zero,List.set_cons_succ,Nat.zero_add,List.getElem?_cons_zero,List.getElem?_cons_succ,List.take_succ_cons,List.take_zero,List.drop_zero]
      first | refine g_turn (t_frzB (d := 11) (i := 5) rfl rfl rfl) ?_ | refine o_turn (t_frzB (d := 11) (i := 5) rfl rfl rfl) ?_
      repeat' first|(apply n3;exact a_new (gb := .bx _) rfl;exact rfl;refine dA ?_)|(apply p3;(first|exact pu1|exact a_ne rfl rfl);exact rfl)|refine cdn ?_|refine g_reg (id := 8) ?_|refine g_reg (id := 9) ?_|refine g_reg (id := 11) ?_|(apply w3;(exact a_st_bx rfl rfl rfl rfl (fN rfl rfl) (Nat.le_of_ble_eq_true rfl) rfl);exact rfl;refine dS ?_)|(apply c4 1;exact callK1 (θ := []) (hD := (storeOfConfig_ok m c hv hb hnum));exact rfl;exact rfl;exact rfl;refine dM ?_)|fail
      simp only [setRow,scC,List.map_cons,List.map_nil,List.set_cons_zero,List.set_cons_succ,Nat.zero_add,List.getElem?_cons_zero,List.getElem?_cons_succ,List.take_succ_cons,List.take_zero,List.drop_zero,List.cons_append,List.nil_append,List.drop_succ_cons,List.drop_nil,List.append_nil,List.append_eq]
      refine g_conv (t_nilB (i := 8) (k := 1) (z := 1) rfl rfl rfl (by decide)) ?_
      try dsimp only [setRow,List.map_cons,List.map_nil,scC,List.set_cons_zero,List.set_cons_succ,Nat.reduceAdd]
      refine g_conv (t_nilB (i := 8) (k := 2) (z := 1) rfl rfl rfl (by decide)) ?_
      try dsimp only [setRow,List.map_cons,List.map_nil,scC,List.set_cons_zero,List.set_cons_succ,Nat.reduceAdd]
      rw [decide_eq_false hn]
      repeat' first|(apply p3;(first|exact pu1|exact a_ne rfl rfl);exact rfl)|refine cd ?_|(apply w3;(exact a_st_bx rfl rfl rfl rfl (fN rfl rfl) (Nat.le_of_ble_eq_true rfl) rfl);exact rfl;refine dS ?_)|(apply c4 2;exact callK1 (θ := [_,_,_,_,_,_]) (hD := (byN_ok m k c h hn));exact rfl;exact rfl;exact rfl;refine dM ?_)|fail
      repeat refine cr ?_
      refine ends_id ?_
      refine endK [?_,?_] (h2 := ?_) (h3 := ?_) (nd := ?_)
      rotate_left 2
      all_goals (repeat' first|exact ce0|refine ce ?_|refine ce2 ?_ ?_|(refine Or.inr (bx_eq rfl rfl ?_);(try dsimp only [C.ren,C.ren.all]);(try exact rfl))|exact SVLe.refl|refine ceb ?_)
      all_goals first | exact (show nodupB _ = true from rfl) | exact Or.inr rfl | (rfl)
end Go.Proofs.YtegpggobfdcafaaGreat
end
section
set_option linter.unusedVariables false
set_option linter.unusedSimpArgs false
set_option maxRecDepth 100000
set_option maxHeartbeats 4000000
namespace Go.Proofs.YtegpggobfdcafaaGreat
open Go Foot Go.RowKit
theorem preB286 {p : Prop} (h : p := by first | with_reducible assumption | omega | (simp only [List.length_append,List.length_cons,List.length_nil,List.length_set,List.length_replicate,List.length_take,List.length_drop,List.length_tail,List.length_dropLast,List.length_reverse] at *; omega) | exact mem_len (by assumption) (by omega) | (with_reducible refine Int.le_trans (Int.ofNat_le.2 (trimR_len _)) ?_; simp only [List.length_cons,List.length_tail]; omega) | (exact (ruAt_ok (by assumption) (by assumption) (by assumption)).2.1) | (exact (ruAt_ok (by assumption) (by assumption) (by assumption)).2.1) | (have := vMach_bd (by assumption); omega) | (simp only [List.length_append,List.length_cons,List.length_nil,repW_len,seN_len] at *; omega) | (simp only [mC_ch,mC_tu]; omega) | (have := vTag_bd (by assumption); omega) | (have := (‹Gd _ _›).le; omega) | (exact tgHalts_no (by assumption)) | (exact tgHead (by assumption) (by assumption) (by assumption)) | (exact Int.le_trans (tgStep_gd (by assumption) (by assumption) (by assumption) (by assumption)).le (by decide)) | (exact vTag_r (by assumption)) | (with_reducible refine Int.le_trans (Int.ofNat_le.2 (pushL_len _ _)) ?_; simp only [List.length_dropLast]; omega) | exact ls_at (by assumption) (by omega) | exact pt_gd (by assumption) | exact lv_at (by assumption) (by omega) | exact pt_gd (lv_at (by assumption) (by omega)) | exact (ask_ok (by assumption)).1 | exact (ask_ok (by assumption)).2.1 | exact (ask_ok (by assumption)).2.2.1 | exact (ask_ok (by assumption)).2.2.2 | trivial) : p := h
theorem runRm_ok (m : Mach) (k : Nat) (c : Conf) (hm : vMach m = true) (hr : rmV m k c) (hk : k ≤ 20000) : Does Tryz.prog 53 [.one (.gv 0),.one (int k)] [ruBx m c.st 1 2,roI c.le.reverse,roI c.ri.reverse] (.tup [(false,[int (rmN m k c : Nat)]),(false,[boo (decide (ruAt m (rmC m k c) = noR))]),(false,[int 0])]) [ruBx m (rmC m k c).st 3 4,.dead,.dead,roI (rmC m k c).le.reverse,roI (rmC m k c).ri.reverse] := by
  have w := run_ok m c k hm (rmV_room hr) (by omega)
  have e : runIt m k c = ⟨(0 + (rmN m k c : Int),false),none,rmC m k c⟩ := by
    unfold runIt
    rw [show ((k : Int)).toNat = k by omega]
    exact run_rm k c 0 0 hr
  have e1 : runMade (runIt m k c) = (rmN m k c : Int) := by unfold runMade; rw [e,if_pos rfl]; exact Int.zero_add _
  have e2 : runHalts m (runIt m k c) = decide (ruAt m (rmC m k c) = noR) := by unfold runHalts; rw [e,if_pos rfl]
  have e3 : runCode (runIt m k c) = 0 := by unfold runCode; rw [e,if_pos rfl]
  rw [e1,e2,e3,e] at w
  exact w
theorem iRunMachine_ok (m : Mach) (k : Nat) (c : Conf) (hv : vMach m = true) (hr : rmV m k c) (hk : 1 ≤ k ∧ k ≤ 20000) : Does Tryz.prog 17 [.agg (maC m),.agg (coC c),.one (int k)] [] (.tup [(true,coC (rmC m k c)),(false,[int (rmN m k c : Nat)]),(false,[boo (decide (ruAt m (rmC m k c) = noR))]),(false,[int 0])]) [] := by
  have hb := rmV_room hr
  have hru := (at_bd hv hb).2.2.2.2
  obtain ⟨_,_,r3,_⟩ := prog_run hv k c ⟨0,⟨0,[],[]⟩⟩ hr
  have hb3 := (at_bd hv r3).2.2.2.2
  refine does_of (k := 0) Tryz.func17 rfl Tryz.ntmps17 rfl rfl fun w F0 S0 ρ0 => ?_
  dsimp only [argT,argH]
  repeat' first|(apply n3;exact a_new (gb := .bx _) rfl;exact rfl;refine dA ?_)|(apply p3;(first|exact pu1|exact a_ne rfl rfl);exact rfl)|refine cd ?_|(apply w3;(exact a_st_bx rfl rfl rfl rfl (fN rfl rfl) (Nat.le_of_ble_eq_true rfl) rfl);exact rfl;refine dS ?_)|(apply c4 0;exact callK1 (θ := []) (hD := (ValidConfig_ok _ _ preB286 preB286 preB286));exact rfl;exact rfl;exact rfl;refine dM ?_)|(apply c4 0;exact callK1 (θ := []) (hD := (budgetOk_ok _));exact rfl;exact rfl;exact rfl;refine dM ?_)|(apply c4 3;exact callK0 (θ := []) (hD := (runnerOf_ok _ _ preB286 preB286));exact rfl;exact rfl;exact rfl;refine dM ?_)|(apply c4 2;exact callK0 (θ := [_,_,_]) (hD := (runRm_ok m k c hv hr hk.2));exact rfl;exact rfl;exact rfl;refine dM ?_)|(apply c4 0;exact callF (hD := (configC_ok _ _ preB286 preB286));exact rfl;exact rfl;exact rfl;refine dM ?_)|((refine g_cond rfl (fun hc => ?_) (fun hc => ?_)) <;> (try simp only [dcB] at hc) <;> (try first|contradiction|(exfalso;omega)))|fail
  · exfalso; rw [hv,hb] at hc; exact absurd hc (by decide)
  · skip
    repeat refine cr ?_
    refine ends_id ?_
    refine endK [] (h2 := ?_) (h3 := ?_) (nd := ?_)
    all_goals (repeat' first|exact ce0|refine ce ?_|refine ce2 ?_ ?_|exact SVLe.refl|refine ceb ?_)
    all_goals first | exact (show nodupB _ = true from rfl) | exact Or.inr rfl | (rfl)
end Go.Proofs.YtegpggobfdcafaaGreat
end
section
set_option linter.unusedVariables false
set_option linter.unusedSimpArgs false
set_option maxRecDepth 100000
namespace Go.Proofs.YtegpggobfdcafaaGreat
open Go Foot Go.Shelf Go.RowKit
end Go.Proofs.YtegpggobfdcafaaGreat
end
section

end
