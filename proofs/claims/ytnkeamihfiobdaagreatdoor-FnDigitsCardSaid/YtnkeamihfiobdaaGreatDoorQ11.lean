/- Parts of the proof (11 of 22). -/
import Derived.Laws.Concat
import Derived.Laws.Cover1
import Derived.Laws.DeepStrings4
import Derived.Laws.IdiomStrings
import Derived.Laws.Runes
import Derived.Laws.Strings2
import Derived.Laws.Strings3
import Derived.Test.YtnkeamihfiobdaaGreatDoorQ10
section
set_option linter.unusedVariables false
set_option linter.unusedSimpArgs false
set_option maxRecDepth 100000
namespace Go.Proofs.YtnkeamihfiobdaaGreatDoor
open Go Foot
abbrev Bs := List UInt8
abbrev sv (l : Bs) : Value := .string ⟨l.toArray⟩
abbrev str (l : Bs) : C := .d (.sc (sv l))
abbrev u8 (n : Int) : C := .d (.sc (.int .u8 n))
abbrev eY : Enc Int := ⟨1,fun n => [.sc (.int .u8 n)],fun _ => rfl,by decide⟩
abbrev eS : Enc Bs := ⟨1,fun b => [.sc (sv b)],fun _ => rfl,by decide⟩
theorem toL (l : Bs) : (ByteArray.mk l.toArray).toList = l := ByteArray.toList_mk l
theorem beq_dec (a b : Bs) : (a == b) = decide (a = b) := by cases h : decide (a = b) <;> simp_all
theorem sz_str (l : Bs) : (ByteArray.mk l.toArray).size = l.length := by simp [ByteArray.size]
@[irreducible] def byt (l : List Int) : Bs := l.map fun n => UInt8.ofNat n.toNat
section
variable {P : Program} {g : Gh} {st : St}
variable {dst : Option Tmp} {ty : TypeId} {pos : String} {after : Array Edge} {guard : Option (Nat × Bool)} {x y : Operand} {T U e : TypeId} {a b : Bs} {m n : Int}
theorem a_eqT (e1 : opd st x = .one (str a)) (e2 : opd st y = .one (str b)) : Acts P g ⟨dst,.binOp .eql T x y U,ty,pos,after,guard⟩ st (.one (boo (decide (a = b)))) [] [] := by
  have := a_bin (P := P) (g := g) (dst := dst) (T := T) (U := U) (ty := ty) (pos := pos) (after := after) (guard := guard) (op := .eql) e1 e2 rfl trivial
  rw [toL,toL] at this
  rwa [beq_dec] at this
theorem a_neT (e1 : opd st x = .one (str a)) (e2 : opd st y = .one (str b)) : Acts P g ⟨dst,.binOp .neq T x y U,ty,pos,after,guard⟩ st (.one (boo (!decide (a = b)))) [] [] := by
  have := a_bin (P := P) (g := g) (dst := dst) (T := T) (U := U) (ty := ty) (pos := pos) (after := after) (guard := guard) (op := .neq) e1 e2 rfl trivial
  rw [toL,toL] at this
  rwa [beq_dec] at this
theorem a_lenT (e1 : opd st x = .one (str a)) (hT : P.underlying T = some .string) : Acts P g ⟨dst,.call { callee := .builtin .len,args := #[x],argTypes := #[T] },ty,pos,after,guard⟩ st (.one (int a.length)) [] [] := by
  have := a_len_str (P := P) (g := g) (dst := dst) (ty := ty) (pos := pos) (after := after) (guard := guard) e1 hT
  rwa [sz_str] at this
theorem a_of8 (e1 : opd st x = .one (u8 m)) (hT : P.underlying T = some (.int .u8)) (hU : P.underlying U = some (.int .i64)) (h1 : 0 ≤ m) (h2 : m < 256) : Acts P g ⟨dst,.convert T U x,ty,pos,after,guard⟩ st (.one (int m)) [] [] := by
  have := a_conv (P := P) (g := g) (dst := dst) (T := T) (U := U) (ty := ty) (pos := pos) (after := after) (guard := guard) e1 (by rw [hT]; rfl) hU
  rwa [wrap64 (by omega) (by omega)] at this
theorem a_idxS (e1 : opd st x = .one (str a)) (e2 : opd st y = .one (int m)) (hT : P.underlying T = some .string) (h0 : 0 ≤ m) (h1 : m < a.length) : Acts P g ⟨dst,.index T x y,ty,pos,after,guard⟩ st (.one (u8 ((a.getD m.toNat 0).toNat : Nat))) [] [] := by
  refine acts_of fun ac w S ρ F h => ⟨.int .u8 ((a.getD m.toNat 0).toNat : Nat),?_,⟨rfl,rfl⟩⟩
  show (do pure (.value (← Instr.index T (ac.eval x) (ac.eval y))) : Sem Next).run P w = _
  rw [opd_sc h e1,opd_sc h e2]
  have hb : 0 ≤ m ∧ m < ((⟨a.toArray⟩ : ByteArray).size : Int) := ⟨h0,by rw [sz_str]; exact h1⟩
  have hs : ((⟨a.toArray⟩ : ByteArray)[m.toNat]'(by have := hb.2; omega)) = a.getD m.toNat 0 := by
    rw [List.getD_eq_getElem?_getD,List.getElem?_eq_getElem (by omega)]
    simp [ByteArray.getElem_eq_getElem_data]
  have key : (Instr.index T (sv a) (.int .i64 m)).run P w = .ok (.int .u8 ((a.getD m.toNat 0).toNat : Nat)) w := by
    rw [run_index_string w T _ _ _ hT,dif_pos hb,hs]
  simp [key]
end
end Go.Proofs.YtnkeamihfiobdaaGreatDoor
end
section
set_option linter.unusedVariables false
set_option linter.unusedSimpArgs false
set_option maxRecDepth 100000
set_option maxHeartbeats 4000000
namespace Go.Proofs.YtnkeamihfiobdaaGreatDoor
open Go Foot
theorem preA6 {p : Prop} (h : p := by first | with_reducible assumption | omega | (simp only [List.length_append,List.length_cons,List.length_nil,List.length_set,List.length_replicate,List.length_take,List.length_drop,List.length_tail,List.length_dropLast,List.length_reverse] at *; omega) | exact mem_len (by assumption) (by omega) | trivial) : p := h
theorem all_snoc {α : Type} (p : α → Bool) (l : List α) (n : Nat) (h : n < l.length) : (l.take (n + 1)).all p = ((l.take n).all p && p l[n]) := by
  rw [List.take_succ_eq_append_getElem h,List.all_append]; simp
theorem all_snocI {α : Type} (p : α → Bool) (l : List α) (i : Int) (h0 : 0 ≤ i) (h : i < l.length) (h1 : (l.take i.toNat).all p = true) (h2 : p (l[i.toNat]'(by omega)) = true) : (l.take (i + 1).toNat).all p = true := by
  rw [show (i + 1).toNat = i.toNat + 1 by omega,all_snoc p l _ (by omega),h1,h2]; rfl
theorem all_no {α : Type} (p : α → Bool) (l : List α) (n : Nat) (h : n < l.length) (h2 : ¬ p l[n] = true) : l.all p = false := by
  rw [List.all_eq_false]
  exact ⟨l[n],List.getElem_mem h,by simpa using h2⟩
@[irreducible] def idxF {α : Type} (p : α → Bool) (l : List α) : Int := match l.findIdx? p with | some i => i | none => -1
theorem idxF_stop {α : Type} (p : α → Bool) (l : List α) (i : Int) (h0 : 0 ≤ i) (h : i < l.length) (h1 : (l.take i.toNat).all (fun x => !p x) = true) (h2 : p (l[i.toNat]'(by omega)) = true) : idxF p l = i := by
  have : l.findIdx? p = some i.toNat := by
    rw [List.findIdx?_eq_some_iff_getElem]
    refine ⟨by omega,h2,fun j hj => ?_⟩
    rw [List.all_eq_true] at h1
    have := h1 (l[j]'(by omega)) (by rw [List.mem_take_iff_getElem]; exact ⟨j,by omega,rfl⟩)
    simpa using this
  unfold idxF
  rw [this]
  simp only
  omega
theorem idxF_none {α : Type} (p : α → Bool) (l : List α) (h1 : l.all (fun x => !p x) = true) : idxF p l = -1 := by
  have : l.findIdx? p = none := by
    rw [List.findIdx?_eq_none_iff]
    rw [List.all_eq_true] at h1
    intro x hx
    simpa using h1 x hx
  unfold idxF
  rw [this]
theorem idxF_any {α : Type} (p : α → Bool) (l : List α) : decide (0 ≤ idxF p l) = l.any p := by
  unfold idxF
  cases h : l.findIdx? p with
  | none =>
    rw [List.findIdx?_eq_none_iff] at h
    have : l.any p = false := by rw [List.any_eq_false]; intro x hx; simp [h x hx]
    rw [this]; rfl
  | some i =>
    obtain ⟨h1,h2,_⟩ := List.findIdx?_eq_some_iff_getElem.1 h
    have : l.any p = true := by rw [List.any_eq_true]; exact ⟨l[i],List.getElem_mem h1,h2⟩
    rw [this]
    simp
@[irreducible] def inAll (lo hi : Int) (l : List Int) : Bool := l.all (fun x => decide (lo ≤ x ∧ x ≤ hi))
theorem allWithin_ok (xs : List Int) (lo hi : Int) (hx : (xs.length : Int) ≤ 16777216) : Does Tryz.prog 84 [.one (shI xs),.one (int lo),.one (int hi)] [] (.one (boo (inAll lo hi xs))) [] := by
  refine does_of (k := 0) Tryz.func84 rfl Tryz.ntmps84 rfl rfl fun w F0 S0 ρ0 => ?_
  dsimp only [argT,argH]
  repeat' first|(apply p3;(first|exact pu1|exact puN);exact rfl)|refine cd ?_|fail
  refine g_loop_id ?_
  refine loopK [1,2,6,9,10] [] (fun i : Int => 0 ≤ i ∧ i ≤ xs.length ∧ (xs.take i.toNat).all (fun x => decide (lo ≤ x ∧ x ≤ hi)) = true) (fun i => [(11,.one (int i))]) (fun _ => []) (fun i => (xs.length - i).toNat) (0 : Int) [] (hI := ?_) (hr := ?_)
  · exact ⟨by omega,by omega,rfl⟩
  · rintro i ⟨h0,h1,h2⟩
    dsimp only [List.cons_append,List.nil_append] at *
    skip
    repeat' first|(apply p3;(first|exact pu1|exact puC|exact a_add rfl rfl (by omega) (by omega)|exact puI);exact rfl)|refine cd ?_|(apply c4 0;exact callK1 (θ := []) (hD := (within_ok _ _ _));exact rfl;exact rfl;exact rfl;refine dM ?_)|((refine g_cond rfl (fun hc => ?_) (fun hc => ?_)) <;> (try simp only [dcB] at hc) <;> (try first|contradiction|(exfalso;omega)))|fail
    · repeat refine cr ?_
      refine ends_id ?_
      refine endK [] (h2 := ?_) (h3 := ?_) (nd := ?_)
      all_goals (repeat' first|exact ce0|refine ce ?_|refine ce2 ?_ ?_|exact SVLe.refl|refine ceb ?_)
      all_goals first | exact (show nodupB _ = true from rfl) | exact Or.inr rfl | ((unfold inAll; rw [all_no _ _ i.toNat (by omega) (by rw [decide_eq_true_eq]; exact hc)]))
    · refine q_again (i + 1) [] (by exact stk) ?_ ?_
      · exact ⟨by omega,by omega,all_snocI _ _ _ h0 (by omega) h2 (by rw [decide_eq_true_eq]; exact hc)⟩
      · omega
    · repeat refine cr ?_
      refine ends_id ?_
      refine endK [] (h2 := ?_) (h3 := ?_) (nd := ?_)
      all_goals (repeat' first|exact ce0|refine ce ?_|refine ce2 ?_ ?_|exact SVLe.refl|refine ceb ?_)
      all_goals first | exact (show nodupB _ = true from rfl) | exact Or.inr rfl | ((unfold inAll; rw [List.take_of_length_le (by omega)] at h2; exact h2.symm))
theorem clone_ok (xs : List Int) (hx : (xs.length : Int) ≤ 16777216) : Does Tryz.prog 121 [.one (shI xs)] [] (.one (.gv 0)) [.row 1 (rows eI xs)] := by
  refine does_of (k := 0) Tryz.func121 rfl Tryz.ntmps121 rfl rfl fun w F0 S0 ρ0 => ?_
  dsimp only [argT,argH]
  repeat' first|(apply n3;exact a_nilO eI rfl;exact rfl)|(apply n3;(exact a_litE eI [] rfl rfl rfl rfl rfl rfl rfl rfl);exact rfl;refine dA ?_)|(apply p3;(exact pu1);exact rfl)|refine cd ?_|(apply s3;exact a_appE (fP rfl) rfl rfl rfl rfl nowR (by (simp <;> omega)) (by decide) (by decide) (by exact rfl);exact rfl;exact rfl)|(apply o_isnil;exact rfl;exact rfl;exact (fE rfl);exact rfl;exact rfl;intro b hnil)|((refine g_cond rfl (fun hc => ?_) (fun hc => ?_)) <;> (try simp only [dcB] at hc) <;> (try first|contradiction|(exfalso;omega)))|fail
  · repeat refine cr ?_
    refine ends_id ?_
    refine endK [?_] (h2 := ?_) (h3 := ?_) (nd := ?_)
    rotate_left 1
    all_goals (repeat' first|exact ce0|refine ce ?_|refine ce2 ?_ ?_|(refine Or.inr (bx_eq rfl rfl ?_);(try dsimp only [C.ren,C.ren.all]);(try exact rfl))|exact SVLe.refl|refine ceb ?_)
    all_goals first | exact (show nodupB _ = true from rfl) | exact Or.inr rfl | (exact (hnil hc).symm)
  · repeat refine cr ?_
    refine ends_id ?_
    refine endK [?_] (h2 := ?_) (h3 := ?_) (nd := ?_)
    rotate_left 1
    all_goals (repeat' first|exact ce0|refine ce ?_|refine ce2 ?_ ?_|(refine Or.inr (bx_eq rfl rfl ?_);(try dsimp only [C.ren,C.ren.all]);(try exact rfl))|exact SVLe.refl|refine ceb ?_)
    all_goals first | exact (show nodupB _ = true from rfl) | exact Or.inr rfl | (rfl)
theorem idxW_ok (xs : List (List Int)) (k : Nat) (p : List Int → Bool) (hx : (xs.length : Int) ≤ 16777216) (hxs : ∀ x ∈ xs,(x.length : Int) ≤ 16777216) (hE : entB Tryz.prog k = true) (hp : ∀ r,(r.length : Int) ≤ 16777216 → Does Tryz.prog k [.one (shI r)] [] (.one (boo (p r))) []) : Does Tryz.prog 237 [.one (shW xs),.one (.d (.fn (.func k) []))] [] (.one (int (idxF p xs))) [] := by
  refine does_of (k := 0) Tryz.func237 rfl Tryz.ntmps237 rfl rfl fun w F0 S0 ρ0 => ?_
  dsimp only [argT,argH]
  repeat' first|(apply p3;(first|exact pu1|exact puN);exact rfl)|refine cd ?_|fail
  refine g_loop_id ?_
  refine loopK [0,1,4,7] [] (fun i : Int => 0 ≤ i ∧ i ≤ xs.length ∧ (xs.take i.toNat).all (fun x => !p x) = true) (fun i => [(8,.one (int i))]) (fun _ => []) (fun i => (xs.length - i).toNat) (0 : Int) [] (hI := ?_) (hr := ?_)
  · exact ⟨by omega,by omega,rfl⟩
  · rintro i ⟨h0,h1,h2⟩
    dsimp only [List.cons_append,List.nil_append] at *
    skip
    repeat' first|(apply p3;(first|exact pu1|exact puC|exact a_add rfl rfl (by omega) (by omega)|exact puI);exact rfl)|refine cd ?_|(apply c4 0;exact callK0 (θ := []) (hE := hE) (hD := (hp _ preA6));exact rfl;exact rfl;exact rfl;refine dM ?_)|((refine g_cond rfl (fun hc => ?_) (fun hc => ?_)) <;> (try simp only [dcB] at hc) <;> (try first|contradiction|(exfalso;omega)))|fail
    · repeat refine cr ?_
      refine ends_id ?_
      refine endK [] (h2 := ?_) (h3 := ?_) (nd := ?_)
      all_goals (repeat' first|exact ce0|refine ce ?_|refine ce2 ?_ ?_|exact SVLe.refl|refine ceb ?_)
      all_goals first | exact (show nodupB _ = true from rfl) | exact Or.inr rfl | (exact (idxF_stop p xs i h0 (by omega) h2 hc).symm)
    · refine q_again (i + 1) [] (by exact stk) ?_ ?_
      · exact ⟨by omega,by omega,all_snocI _ _ _ h0 (by omega) h2 (by simp [hc])⟩
      · omega
    · repeat refine cr ?_
      refine ends_id ?_
      refine endK [] (h2 := ?_) (h3 := ?_) (nd := ?_)
      all_goals (repeat' first|exact ce0|refine ce ?_|refine ce2 ?_ ?_|exact SVLe.refl|refine ceb ?_)
      all_goals first | exact (show nodupB _ = true from rfl) | exact Or.inr rfl | ((rw [List.take_of_length_le (by omega)] at h2; exact (idxF_none p xs h2).symm))
theorem hasW_ok (xs : List (List Int)) (k : Nat) (p : List Int → Bool) (hx : (xs.length : Int) ≤ 16777216) (hxs : ∀ x ∈ xs,(x.length : Int) ≤ 16777216) (hE : entB Tryz.prog k = true) (hp : ∀ r,(r.length : Int) ≤ 16777216 → Does Tryz.prog k [.one (shI r)] [] (.one (boo (p r))) []) : Does Tryz.prog 170 [.one (shW xs),.one (.d (.fn (.func k) []))] [] (.one (boo (xs.any p))) [] := by
  refine does_of (k := 0) Tryz.func170 rfl Tryz.ntmps170 rfl rfl fun w F0 S0 ρ0 => ?_
  dsimp only [argT,argH]
  repeat' first|(apply p3;(first|exact pu1|exact puC);exact rfl)|refine cd ?_|(apply c4 0;exact callK1 (θ := []) (hD := (idxW_ok _ _ _ preA6 preA6 preA6 preA6));exact rfl;exact rfl;exact rfl;refine dM ?_)|fail
  repeat refine cr ?_
  refine ends_id ?_
  refine endK [] (h2 := ?_) (h3 := ?_) (nd := ?_)
  all_goals (repeat' first|exact ce0|refine ce ?_|refine ce2 ?_ ?_|exact SVLe.refl|refine ceb ?_)
  all_goals first | exact (show nodupB _ = true from rfl) | exact Or.inr rfl | (exact idxF_any p xs)
@[irreducible] def risesL (l : List Int) : Bool := (List.range (l.length - 1)).all fun i => decide (l.getD i 0 < l.getD (i + 1) 0)
end Go.Proofs.YtnkeamihfiobdaaGreatDoor
end
section
set_option linter.unusedVariables false
set_option linter.unusedSimpArgs false
set_option maxRecDepth 100000
set_option maxHeartbeats 1000000
namespace Go.Proofs.YtnkeamihfiobdaaGreatDoor
open Go Foot Go.RowKit
@[irreducible] def dg (b n : Nat) : List Int := if h : n = 0 ∨ b < 2 then [] else ((n % b : Nat) : Int) :: dg b (n / b)
termination_by n
decreasing_by exact Nat.div_lt_self (by omega) (by omega)
@[irreducible] def nv (b : Nat) (l : List Int) : Nat := l.foldr (fun x a => x.toNat + b * a) 0
structure Lb (b : Nat) (l : List Int) : Prop where
  h : ∀ x ∈ l,0 ≤ x ∧ x < (b : Int)
theorem dg_0 (b : Nat) : dg b 0 = [] := by rw [dg,dif_pos (.inl rfl)]
theorem dg_s {b n : Nat} (hb : 2 ≤ b) (hn : 0 < n) : dg b n = ((n % b : Nat) : Int) :: dg b (n / b) := by
  conv => lhs; rw [dg]
  rw [dif_neg (by omega)]
theorem nv_nil (b : Nat) : nv b [] = 0 := by unfold nv; rfl
theorem nv_cons (b : Nat) (x : Int) (l : List Int) : nv b (x :: l) = x.toNat + b * nv b l := by unfold nv; rfl
theorem dg_lb {b : Nat} (hb : 2 ≤ b) (n : Nat) : Lb b (dg b n) := by
  induction n using Nat.strongRecOn with
  | _ n ih =>
    rcases Nat.eq_zero_or_pos n with h | h
    · subst h; rw [dg_0]; exact ⟨fun x hx => by simp at hx⟩
    · rw [dg_s hb h]
      refine ⟨fun x hx => ?_⟩
      rcases List.mem_cons.mp hx with h1 | h1
      · have := Nat.mod_lt n (show b > 0 by omega); omega
      · exact (ih (n / b) (Nat.div_lt_self h (by omega))).h x h1
theorem nv_dg {b : Nat} (hb : 2 ≤ b) (n : Nat) : nv b (dg b n) = n := by
  induction n using Nat.strongRecOn with
  | _ n ih =>
    rcases Nat.eq_zero_or_pos n with h | h
    · subst h; rw [dg_0,nv_nil]
    · rw [dg_s hb h,nv_cons,ih (n / b) (Nat.div_lt_self h (by omega))]
      have := Nat.mod_add_div n b
      omega
theorem nv_app (b : Nat) : ∀ (l m : List Int),nv b (l ++ m) = nv b l + b ^ l.length * nv b m
  | [],m => by simp [nv_nil]
  | x :: l,m => by
    rw [List.cons_append,nv_cons,nv_cons,nv_app b l m,List.length_cons,Nat.pow_succ]
    rw [Nat.mul_add,Nat.add_assoc,← Nat.mul_assoc,Nat.mul_comm (b ^ l.length) b]
theorem nv_one (b : Nat) (x : Int) : nv b [x] = x.toNat := by rw [nv_cons,nv_nil]; omega
theorem nv_lt {b : Nat} : ∀ {l : List Int},Lb b l → nv b l < b ^ l.length
  | [],_ => by rw [nv_nil]; simp
  | x :: l,h => by
    have h1 := h.h x (by simp)
    have h2 := nv_lt (l := l) ⟨fun y hy => h.h y (by simp [hy])⟩
    rw [nv_cons,List.length_cons,Nat.pow_succ]
    have h3 : x.toNat < b := by omega
    calc x.toNat + b * nv b l < b + b * nv b l := by omega
      _ = b * (nv b l + 1) := by rw [Nat.mul_add]; omega
      _ ≤ b * b ^ l.length := Nat.mul_le_mul_left _ h2
      _ = b ^ l.length * b := Nat.mul_comm _ _
theorem dg_nv {b : Nat} (hb : 2 ≤ b) : ∀ {l : List Int},Lb b l → (∀ h : l ≠ [],l.getLast h ≠ 0) → l = dg b (nv b l) ∧ (l ≠ [] → 0 < nv b l)
  | [],_,_ => by rw [nv_nil,dg_0]; exact ⟨rfl,fun h => absurd rfl h⟩
  | x :: l,h,g => by
    have h1 := h.h x (by simp)
    have hl : Lb b l := ⟨fun y hy => h.h y (by simp [hy])⟩
    by_cases e : l = []
    · subst e
      have gx := g (by simp)
      simp only [List.getLast_singleton] at gx
      have hp : 0 < nv b [x] := by rw [nv_one]; omega
      refine ⟨?_,fun _ => hp⟩
      rw [dg_s hb hp,nv_one]
      have a1 : x.toNat % b = x.toNat := Nat.mod_eq_of_lt (by omega)
      have a2 : x.toNat / b = 0 := Nat.div_eq_of_lt (by omega)
      rw [a1,a2,dg_0]
      have : ((x.toNat : Nat) : Int) = x := by omega
      rw [this]
    · obtain ⟨i1,i2⟩ := dg_nv hb hl (fun hn => by have := g (by simp); rwa [List.getLast_cons hn] at this)
      have hp2 := i2 e
      have hp : 0 < nv b (x :: l) := by
        rw [nv_cons]
        have := Nat.mul_pos (show 0 < b by omega) hp2
        omega
      refine ⟨?_,fun _ => hp⟩
      rw [dg_s hb hp,nv_cons]
      have a1 : (x.toNat + b * nv b l) % b = x.toNat := by rw [Nat.add_mul_mod_self_left]; exact Nat.mod_eq_of_lt (by omega)
      have a2 : (x.toNat + b * nv b l) / b = nv b l := by rw [Nat.add_mul_div_left _ _ (by omega)]; rw [Nat.div_eq_of_lt (by omega)]; omega
      rw [a1,a2,← i1]
      have : ((x.toNat : Nat) : Int) = x := by omega
      rw [this]
theorem dg_last {b : Nat} (hb : 2 ≤ b) (n : Nat) : ∀ h : dg b n ≠ [],(dg b n).getLast h ≠ 0 := by
  induction n using Nat.strongRecOn with
  | _ n ih =>
    intro h
    rcases Nat.eq_zero_or_pos n with h0 | h0
    · subst h0; exact absurd (dg_0 b) h
    · by_cases e : dg b (n / b) = []
      · have e1 : n / b = 0 := by
          rcases Nat.eq_zero_or_pos (n / b) with h1 | h1
          · exact h1
          · rw [dg_s hb h1] at e; simp at e
        have e2 : n % b = n := Nat.mod_eq_of_lt (by rcases Nat.div_eq_zero_iff.mp e1 with h2 | h2 <;> omega)
        have e3 : dg b n = [(n : Int)] := by rw [dg_s hb h0,e,e2]
        simp only [e3,List.getLast_singleton]
        omega
      · have e3 := dg_s hb h0
        have := ih (n / b) (Nat.div_lt_self h0 (by omega)) e
        simp only [e3,List.getLast_cons e]
        exact this
theorem nv_zeros (b : Nat) : ∀ (l : List Int),(∀ x ∈ l,x = 0) → nv b l = 0
  | [],_ => nv_nil b
  | x :: l,h => by rw [nv_cons,h x (by simp),nv_zeros b l (fun y hy => h y (by simp [hy]))]; simp
theorem trim_eq {b : Nat} (hb : 2 ≤ b) {l : List Int} (hl : Lb b l) {k : Nat} (hk : k ≤ l.length) (hz : ∀ x ∈ l.drop k,x = 0) (he : k = 0 ∨ (∃ h : k - 1 < l.length,l[k - 1] ≠ 0)) : l.take k = dg b (nv b l) := by
  have e1 : nv b l = nv b (l.take k) := by
    conv => lhs; rw [← List.take_append_drop k l]
    rw [nv_app,nv_zeros b _ hz]; simp
  have h1 : Lb b (l.take k) := ⟨fun x hx => hl.h x (List.mem_of_mem_take hx)⟩
  rw [e1]
  refine (dg_nv hb h1 (fun hn => ?_)).1
  rcases he with h | ⟨h,g⟩
  · subst h; simp at hn
  · rw [List.getLast_eq_getElem]
    simp only [List.length_take,List.getElem_take]
    have : min k l.length - 1 = k - 1 := by omega
    simp only [this]
    exact g
theorem dg_len_lt {b : Nat} (hb : 2 ≤ b) {x y : Nat} (h : (dg b x).length < (dg b y).length) : x < y := by
  have h1 := nv_lt (dg_lb hb x)
  rw [nv_dg hb] at h1
  have hy : dg b y ≠ [] := by intro e; rw [e] at h; simp at h
  have h2 : b ^ ((dg b y).length - 1) ≤ y := by
    have e := (List.dropLast_concat_getLast hy).symm
    have h3 := congrArg (nv b) e
    rw [nv_dg hb,nv_app,nv_one,List.length_dropLast] at h3
    have h4 := dg_last hb y hy
    have h5 := (dg_lb hb y).h _ (List.getLast_mem hy)
    have h6 : 1 ≤ ((dg b y).getLast hy).toNat := by omega
    have h7 := Nat.mul_le_mul_left (b ^ ((dg b y).length - 1)) h6
    omega
  have h3 : b ^ (dg b x).length ≤ b ^ ((dg b y).length - 1) := Nat.pow_le_pow_right (by omega) (by omega)
  omega
theorem nv_top {b : Nat} (hb : 2 ≤ b) {l m : List Int} (hl : Lb b l) (hm : Lb b m) (he : l.length = m.length) {i : Nat} (hi : i < l.length) (hd : l.drop (i + 1) = m.drop (i + 1)) (hx : l[i] < m[i]'(he ▸ hi)) : nv b l < nv b m := by
  have f : ∀ {q : List Int} (hq : i < q.length),nv b q = nv b (q.take i) + b ^ i * (q[i].toNat + b * nv b (q.drop (i + 1))) := by
    intro q hq
    conv => lhs; rw [← List.take_append_drop i q,List.drop_eq_getElem_cons hq,nv_app,nv_cons]
    simp only [List.length_take]
    rw [show min i q.length = i by omega]
  have him : i < m.length := he ▸ hi
  rw [f hi,f him,hd]
  have h1 : nv b (l.take i) < b ^ i := by
    have := nv_lt (b := b) (l := l.take i) ⟨fun x hx => hl.h x (List.mem_of_mem_take hx)⟩
    simpa [List.length_take,show min i l.length = i by omega] using this
  have h2 := (hl.h l[i] (List.getElem_mem hi)).1
  have h3 : l[i].toNat + 1 ≤ m[i].toNat := by omega
  have h4 := Nat.mul_le_mul_left (b ^ i) (Nat.add_le_add_right h3 (b * nv b (m.drop (i + 1))))
  rw [Nat.add_right_comm,Nat.mul_add _ _ 1,Nat.mul_one] at h4
  omega
theorem nv_take_s (b : Nat) {l : List Int} {i : Nat} (hi : i < l.length) : nv b (l.take (i + 1)) = nv b (l.take i) + b ^ i * l[i].toNat := by
  rw [List.take_succ_eq_append_getElem hi,nv_app,nv_one]
  simp only [List.length_take]
  rw [show min i l.length = i by omega]
theorem nv_drop_s (b : Nat) {l : List Int} {i : Nat} (hi : i < l.length) : nv b (l.drop i) = l[i].toNat + b * nv b (l.drop (i + 1)) := by
  rw [List.drop_eq_getElem_cons hi,nv_cons]
theorem nv_set (b : Nat) {l : List Int} {i : Nat} (hi : i < l.length) (v : Int) : nv b (l.set i v) + b ^ i * l[i].toNat = nv b l + b ^ i * v.toNat := by
  have f : ∀ {q : List Int} (hq : i < q.length),nv b q = nv b (q.take i) + b ^ i * (q[i].toNat + b * nv b (q.drop (i + 1))) := by
    intro q hq
    conv => lhs; rw [← List.take_append_drop i q,List.drop_eq_getElem_cons hq,nv_app,nv_cons]
    simp only [List.length_take]
    rw [show min i q.length = i by omega]
  have hs : i < (l.set i v).length := by simpa using hi
  rw [f hs,f hi]
  have e1 : (l.set i v).take i = l.take i := List.take_set_of_le (Nat.le_refl i)
  have e2 : (l.set i v).drop (i + 1) = l.drop (i + 1) := List.drop_set_of_lt (by omega)
  rw [e1,e2]
  simp only [List.getElem_set_self,Nat.mul_add]
  omega
theorem lb_set {b : Nat} {l : List Int} (h : Lb b l) {i : Nat} {v : Int} (h0 : 0 ≤ v) (h1 : v < b) : Lb b (l.set i v) :=
  ⟨fun x hx => by rcases List.mem_or_eq_of_mem_set hx with hm | hm; exact h.h x hm; exact hm ▸ ⟨h0,h1⟩⟩
theorem lb_app {b : Nat} {l m : List Int} (h : Lb b l) (g : Lb b m) : Lb b (l ++ m) :=
  ⟨fun x hx => by rcases List.mem_append.mp hx with hm | hm; exact h.h x hm; exact g.h x hm⟩
theorem lb_zeros {b : Nat} (hb : 0 < b) (n : Nat) : Lb b (List.replicate n 0) := ⟨fun x hx => by have := List.eq_of_mem_replicate hx; omega⟩
theorem nv_rep (b n : Nat) : nv b (List.replicate n 0) = 0 := nv_zeros b _ (fun x hx => List.eq_of_mem_replicate hx)
theorem dg_inj {b : Nat} (hb : 2 ≤ b) {x y : Nat} (h : dg b x = dg b y) : x = y := by
  have := congrArg (nv b) h
  rwa [nv_dg hb,nv_dg hb] at this
theorem dg_nil {b : Nat} (hb : 2 ≤ b) {x : Nat} (h : dg b x = []) : x = 0 := by
  have := congrArg (nv b) h
  rwa [nv_dg hb,nv_nil] at this
theorem dg_le {b : Nat} (hb : 2 ≤ b) {x : Nat} {k : Nat} (h : x < b ^ k) : (dg b x).length ≤ k := by
  rcases Nat.lt_or_ge k (dg b x).length with g | g
  · exfalso
    have hy : dg b x ≠ [] := by intro e; rw [e] at g; simp at g
    have e := (List.dropLast_concat_getLast hy).symm
    have h3 := congrArg (nv b) e
    rw [nv_dg hb,nv_app,nv_one,List.length_dropLast] at h3
    have h4 := dg_last hb x hy
    have h5 := (dg_lb hb x).h _ (List.getLast_mem hy)
    have h6 : 1 ≤ ((dg b x).getLast hy).toNat := by omega
    have h7 := Nat.mul_le_mul_left (b ^ ((dg b x).length - 1)) h6
    have h8 : b ^ k ≤ b ^ ((dg b x).length - 1) := Nat.pow_le_pow_right (by omega) (by omega)
    omega
  · exact g
theorem dg_lt {b : Nat} (hb : 2 ≤ b) (x : Nat) : x < b ^ (dg b x).length := by
  have := nv_lt (dg_lb hb x)
  rwa [nv_dg hb] at this
end Go.Proofs.YtnkeamihfiobdaaGreatDoor
end
section
set_option linter.unusedVariables false
set_option linter.unusedSimpArgs false
set_option maxRecDepth 100000
set_option maxHeartbeats 1000000
namespace Go.Proofs.YtnkeamihfiobdaaGreatDoor
open Go Foot Go.RowKit
theorem div_nat {b : Nat} {c : Int} (hc : 0 ≤ c) : (c / (b : Int)).toNat = c.toNat / b ∧ (c % (b : Int)).toNat = c.toNat % b := by
  obtain ⟨n,rfl⟩ := Int.eq_ofNat_of_zero_le hc
  exact ⟨rfl,rfl⟩
theorem car_s {b : Nat} {c : Int} (hc : 0 ≤ c) (o : List Int) : nv b (o ++ [c % (b : Int)]) + b ^ (o.length + 1) * (c / (b : Int)).toNat = nv b o + b ^ o.length * c.toNat := by
  rw [nv_app,nv_one,(div_nat hc).1,(div_nat hc).2,Nat.pow_succ,Nat.add_assoc,Nat.mul_assoc,← Nat.mul_add,Nat.mod_add_div]
theorem car_l {b : Nat} (hb : 0 < b) {c : Int} {o : List Int} (h : Lb b o) : Lb b (o ++ [c % (b : Int)]) :=
  lb_app h ⟨fun x hx => by
    have : x = c % (b : Int) := by simpa using hx
    rw [this]
    exact ⟨Int.emod_nonneg _ (by omega),Int.emod_lt_of_pos _ (by omega)⟩⟩
theorem car_in {b : Nat} {l : List Int} {o : List Int} {i : Nat} {c : Int} (hi : i < l.length) (hp : 0 ≤ l[i]) (hc : 0 ≤ c) (h : nv b o + b ^ i * c.toNat = nv b (l.take i)) : nv b o + b ^ i * (c + l[i]).toNat = nv b (l.take (i + 1)) := by
  rw [nv_take_s b hi,← h,show (c + l[i]).toNat = c.toNat + l[i].toNat by omega,Nat.mul_add]
  omega
theorem mul_in {b : Nat} {o m : List Int} {i k T : Nat} {x c : Int} (hx : 0 ≤ x) (hc : 0 ≤ c) (hk : k < m.length) (hp : i + k < o.length) (ho : 0 ≤ o[i + k]) (hm : 0 ≤ m[k]) (h : nv b o + b ^ (i + k) * c.toNat = T + b ^ i * (x.toNat * nv b (m.take k))) : nv b (o.set (i + k) ((c + o[i + k] + x * m[k]) % (b : Int))) + b ^ (i + k + 1) * ((c + o[i + k] + x * m[k]) / (b : Int)).toNat = T + b ^ i * (x.toNat * nv b (m.take (k + 1))) := by
  have hxm : 0 ≤ x * m[k] := Int.mul_nonneg hx hm
  have hv : 0 ≤ c + o[i + k] + x * m[k] := by omega
  have e1 := nv_set b hp ((c + o[i + k] + x * m[k]) % (b : Int))
  rw [(div_nat hv).2] at e1
  rw [(div_nat hv).1,nv_take_s b hk]
  have e2 : (c + o[i + k] + x * m[k]).toNat = c.toNat + o[i + k].toNat + x.toNat * m[k].toNat := by
    have : (x * m[k]).toNat = x.toNat * m[k].toNat := Int.toNat_mul hx hm
    omega
  have e3 := Nat.mod_add_div (c + o[i + k] + x * m[k]).toNat b
  generalize hq : (c + o[i + k] + x * m[k]).toNat / b = q at *
  generalize hr : (c + o[i + k] + x * m[k]).toNat % b = r at *
  rw [e2] at e3
  have e4 : b ^ (i + k) * (r + b * q) = b ^ (i + k) * c.toNat + b ^ (i + k) * o[i + k].toNat + b ^ (i + k) * (x.toNat * m[k].toNat) := by rw [e3,Nat.mul_add,Nat.mul_add]
  rw [Nat.mul_add,← Nat.mul_assoc,← Nat.pow_succ] at e4
  rw [Nat.mul_add x.toNat,Nat.mul_add (b ^ i)]
  have e5 : b ^ (i + k) * (x.toNat * m[k].toNat) = b ^ i * (x.toNat * (b ^ k * m[k].toNat)) := by
    rw [Nat.pow_add,Nat.mul_assoc,Nat.mul_left_comm (b ^ k)]
  rw [e5] at e4
  simp only [Nat.succ_eq_add_one] at e4
  omega
theorem mul_out {b : Nat} {o : List Int} {p T : Nat} {c : Int} (hc : 0 ≤ c) (hp : p < o.length) (ho : 0 ≤ o[p]) (h : nv b o + b ^ p * c.toNat = T) : nv b (o.set p ((c + o[p]) % (b : Int))) + b ^ (p + 1) * ((c + o[p]) / (b : Int)).toNat = T := by
  have hv : 0 ≤ c + o[p] := by omega
  have e1 := nv_set b hp ((c + o[p]) % (b : Int))
  rw [(div_nat hv).2] at e1
  rw [(div_nat hv).1]
  have e2 : (c + o[p]).toNat = c.toNat + o[p].toNat := by omega
  have e3 := Nat.mod_add_div (c + o[p]).toNat b
  generalize hq : (c + o[p]).toNat / b = q at *
  generalize hr : (c + o[p]).toNat % b = r at *
  rw [e2] at e3
  have e4 : b ^ p * (r + b * q) = b ^ p * c.toNat + b ^ p * o[p].toNat := by rw [e3,Nat.mul_add]
  rw [Nat.mul_add,← Nat.mul_assoc,← Nat.pow_succ] at e4
  simp only [Nat.succ_eq_add_one] at e4
  omega
theorem mul_room {b : Nat} (hb : 2 ≤ b) {a m o : List Int} {i k : Nat} {c : Int} (ha : Lb b a) (hm : Lb b m) (hi : i < a.length) (hc : 0 < c) (hk : m.length ≤ k) (h : nv b o + b ^ (i + k) * c.toNat = nv b (a.take (i + 1)) * nv b m) : k = m.length := by
  have h1 := nv_lt (b := b) (l := a.take (i + 1)) ⟨fun x hx => ha.h x (List.mem_of_mem_take hx)⟩
  have h2 := nv_lt hm
  rw [List.length_take,show min (i + 1) a.length = i + 1 by omega] at h1
  rcases Nat.eq_or_lt_of_le hk with h3 | h3
  · exact h3.symm
  · exfalso
    have h4 : nv b (a.take (i + 1)) * nv b m < b ^ (i + 1) * b ^ m.length := Nat.mul_lt_mul'' h1 h2
    rw [← Nat.pow_add] at h4
    have h5 : b ^ (i + 1 + m.length) ≤ b ^ (i + k) := Nat.pow_le_pow_right (by omega) (by omega)
    have h6 : b ^ (i + k) * 1 ≤ b ^ (i + k) * c.toNat := Nat.mul_le_mul_left _ (by omega)
    omega
theorem mul_next {b : Nat} {a : List Int} {i : Nat} (hi : i < a.length) (M : Nat) : nv b (a.take i) * M + b ^ i * (a[i].toNat * M) = nv b (a.take (i + 1)) * M := by
  rw [nv_take_s b hi,Nat.add_mul,Nat.mul_assoc]
theorem div_s {b d : Nat} {l o : List Int} {i : Nat} {r : Int} (hd : 0 < d) (hr : 0 ≤ r) (hi : i < l.length) (ho : i < o.length) (hl : 0 ≤ l[i]) (h : nv b (l.drop (i + 1)) = d * nv b (o.drop (i + 1)) + r.toNat) : nv b (l.drop i) = d * nv b ((o.set i ((r * b + l[i]) / (d : Int))).drop i) + ((r * b + l[i]) % (d : Int)).toNat := by
  have hv : 0 ≤ r * b + l[i] := by have := Int.mul_nonneg hr (Int.natCast_nonneg b); omega
  rw [nv_drop_s b hi,h]
  have hs : i < (o.set i ((r * b + l[i]) / (d : Int))).length := by simpa using ho
  rw [nv_drop_s b hs,List.drop_set_of_lt (by omega)]
  simp only [List.getElem_set_self]
  rw [(div_nat hv).1,(div_nat hv).2]
  have e2 : (r * b + l[i]).toNat = r.toNat * b + l[i].toNat := by
    have : (r * (b : Int)).toNat = r.toNat * b := by rw [Int.toNat_mul hr (Int.natCast_nonneg b)]; rfl
    have h0 := Int.mul_nonneg hr (Int.natCast_nonneg b)
    omega
  have e3 := Nat.mod_add_div (r * b + l[i]).toNat d
  generalize (r * b + l[i]).toNat / d = q at *
  generalize (r * b + l[i]).toNat % d = s at *
  rw [e2] at e3
  rw [Nat.mul_add b,Nat.mul_add d,Nat.mul_comm b r.toNat,Nat.mul_left_comm b d]
  omega
theorem div_bd {b d : Nat} {r x : Int} (hr : 0 ≤ r) (hr2 : r < d) (hx : 0 ≤ x) (hx2 : x < b) : 0 ≤ (r * b + x) / (d : Int) ∧ (r * b + x) / (d : Int) < b ∧ 0 ≤ (r * b + x) % (d : Int) ∧ (r * b + x) % (d : Int) < d := by
  have hd : 0 < (d : Int) := by omega
  have hv : 0 ≤ r * b + x := by have := Int.mul_nonneg hr (Int.natCast_nonneg b); omega
  refine ⟨Int.ediv_nonneg hv (by omega),?_,Int.emod_nonneg _ (by omega),Int.emod_lt_of_pos _ hd⟩
  apply Int.ediv_lt_of_lt_mul hd
  have h1 : (r + 1) * b ≤ d * b := Int.mul_le_mul_of_nonneg_right (by omega) (Int.natCast_nonneg b)
  rw [Int.add_mul,Int.one_mul] at h1
  rw [Int.mul_comm (b : Int)]
  omega
theorem div_fin {b d : Nat} {l o : List Int} {r : Int} (hr : 0 ≤ r) (hr2 : r < d) (h : nv b (l.drop 0) = d * nv b (o.drop 0) + r.toNat) : nv b o = nv b l / d ∧ r = ((nv b l % d : Nat) : Int) := by
  simp only [List.drop_zero] at h
  have hd : 0 < d := by omega
  have h1 : r.toNat < d := by omega
  rw [h,Nat.mul_add_div hd,Nat.mul_add_mod,Nat.div_eq_of_lt h1,Nat.mod_eq_of_lt h1]
  omega
theorem horner {b : Nat} {l : List Int} {i : Nat} (hi : i < l.length) : nv b (l.drop (i + 1)) * b + l[i].toNat = nv b (l.drop i) := by
  rw [nv_drop_s b hi,Nat.mul_comm]
  omega
@[irreducible] def cmpN (x y : Nat) : Int := if x < y then -1 else if y < x then 1 else 0
theorem cmpN_le {x y : Nat} : cmpN x y ≤ 0 ↔ x ≤ y := by
  unfold cmpN
  split
  · exact ⟨fun _ => by omega,fun _ => by decide⟩
  · split
    · exact ⟨fun h => absurd h (by decide),fun h => by omega⟩
    · exact ⟨fun _ => by omega,fun _ => by decide⟩
theorem cmp_len {b : Nat} (hb : 2 ≤ b) {x y : Nat} (h : (dg b x).length ≠ (dg b y).length) : cmpN x y = if (dg b x).length < (dg b y).length then -1 else 1 := by
  unfold cmpN
  rcases Nat.lt_or_gt_of_ne h with g | g
  · rw [if_pos g,if_pos (dg_len_lt hb g)]
  · have := dg_len_lt hb g
    rw [if_neg (by omega),if_pos this,if_neg (by omega)]
theorem cmp_at {b : Nat} (hb : 2 ≤ b) {x y : Nat} (he : (dg b x).length = (dg b y).length) {i : Nat} (hi : i < (dg b x).length) (hd : (dg b x).drop (i + 1) = (dg b y).drop (i + 1)) (hne : (dg b x)[i] ≠ (dg b y)[i]'(he ▸ hi)) : cmpN x y = if (dg b x)[i] < (dg b y)[i]'(he ▸ hi) then -1 else 1 := by
  have hi2 : i < (dg b y).length := he ▸ hi
  unfold cmpN
  by_cases g : (dg b x)[i] < (dg b y)[i]
  · have := nv_top hb (dg_lb hb x) (dg_lb hb y) he hi hd g
    rw [nv_dg hb,nv_dg hb] at this
    rw [if_pos this,if_pos g]
  · have := nv_top hb (dg_lb hb y) (dg_lb hb x) he.symm hi2 hd.symm (by omega)
    rw [nv_dg hb,nv_dg hb] at this
    rw [if_neg (by omega),if_pos this,if_neg g]
theorem cmp_eq {b : Nat} (hb : 2 ≤ b) {x y : Nat} (h : dg b x = dg b y) : cmpN x y = 0 := by
  rw [dg_inj hb h]
  unfold cmpN
  rw [if_neg (by omega),if_neg (by omega)]
end Go.Proofs.YtnkeamihfiobdaaGreatDoor
end
section
set_option linter.unusedVariables false
set_option linter.unusedSimpArgs false
set_option maxRecDepth 100000
set_option maxHeartbeats 1000000
namespace Go.Proofs.YtnkeamihfiobdaaGreatDoor
open Go Foot Go.RowKit
def grW (P : Int → Bool) (lo hi : Int) : Int := if h : lo + 1 < hi then (if P ((lo + hi) / 2) = true then grW P ((lo + hi) / 2) hi else grW P lo ((lo + hi) / 2)) else lo
termination_by (hi - lo).toNat
decreasing_by all_goals omega
theorem grW_y {P : Int → Bool} {lo hi : Int} (h : lo + 1 < hi) (p : P ((lo + hi) / 2) = true) : grW P lo hi = grW P ((lo + hi) / 2) hi := by
  conv => lhs; rw [grW]
  rw [dif_pos h,if_pos p]
theorem grW_n {P : Int → Bool} {lo hi : Int} (h : lo + 1 < hi) (p : P ((lo + hi) / 2) = false) : grW P lo hi = grW P lo ((lo + hi) / 2) := by
  conv => lhs; rw [grW]
  rw [dif_pos h,if_neg (by rw [p]; decide)]
theorem grW_0 {P : Int → Bool} {lo hi : Int} (h : ¬ lo + 1 < hi) : grW P lo hi = lo := by rw [grW,dif_neg h]
theorem grW_ok (P : Int → Bool) (B : Int) : ∀ (n : Nat) (lo hi : Int),(hi - lo).toNat ≤ n → lo < hi → P lo = true → (hi = B ∨ P hi = false) → P (grW P lo hi) = true ∧ lo ≤ grW P lo hi ∧ grW P lo hi < hi ∧ (grW P lo hi + 1 = B ∨ P (grW P lo hi + 1) = false)
  | 0,lo,hi,hn,h,_,_ => by omega
  | n + 1,lo,hi,hn,h,p,q => by
    by_cases g : lo + 1 < hi
    · cases e : P ((lo + hi) / 2) with
      | true =>
        rw [grW_y g e]
        have := grW_ok P B n ((lo + hi) / 2) hi (by omega) (by omega) e q
        exact ⟨this.1,by omega,this.2.2.1,this.2.2.2⟩
      | false =>
        rw [grW_n g e]
        have := grW_ok P B n lo ((lo + hi) / 2) (by omega) (by omega) p (.inr e)
        exact ⟨this.1,this.2.1,by omega,this.2.2.2⟩
    · rw [grW_0 g]
      have e : hi = lo + 1 := by omega
      rw [← e]
      exact ⟨p,by omega,h,q⟩
def isqR : Nat → Nat
  | 0 => 0
  | n + 1 => if (isqR n + 1) * (isqR n + 1) ≤ n + 1 then isqR n + 1 else isqR n
@[irreducible] def isq (n : Nat) : Nat := isqR n
theorem isq_0 : isq 0 = 0 := by unfold isq; rfl
theorem isq_s (n : Nat) : isq (n + 1) = if (isq n + 1) * (isq n + 1) ≤ n + 1 then isq n + 1 else isq n := by unfold isq; rfl
theorem sq_s (r : Nat) : (r + 1) * (r + 1) = r * r + 2 * r + 1 := by
  rw [Nat.add_mul,Nat.mul_add]
  omega
theorem isq_bd : ∀ n,isq n * isq n ≤ n ∧ n < (isq n + 1) * (isq n + 1)
  | 0 => by rw [isq_0]; decide
  | n + 1 => by
    have ih := isq_bd n
    rw [isq_s]
    split
    · next h =>
      refine ⟨h,?_⟩
      have e1 := sq_s (isq n)
      have e2 := sq_s (isq n + 1)
      generalize (isq n + 1 + 1) * (isq n + 1 + 1) = z at *
      generalize (isq n + 1) * (isq n + 1) = y at *
      omega
    · omega
theorem sq_mono {a b : Nat} (h : a ≤ b) : a * a ≤ b * b := Nat.mul_le_mul h h
theorem isq_un {n r : Nat} (h0 : r * r ≤ n) (h1 : n < (r + 1) * (r + 1)) : r = isq n := by
  have ⟨g0,g1⟩ := isq_bd n
  rcases Nat.lt_trichotomy r (isq n) with h | h | h
  · have := sq_mono (show r + 1 ≤ isq n by omega)
    omega
  · exact h
  · have := sq_mono (show isq n + 1 ≤ r by omega)
    omega
theorem isq_le (n : Nat) : isq n ≤ n := by
  have := (isq_bd n).1
  rcases Nat.eq_zero_or_pos (isq n) with h | h
  · omega
  · have := Nat.mul_le_mul_left (isq n) h
    omega
@[irreducible] def rtP (b : Nat) (l : List Int) (i : Nat) (N : Nat) (d : Int) : Bool := decide (nv b (l.set i d) * nv b (l.set i d) ≤ N)
theorem rt_init {b : Nat} (hb : 2 ≤ b) {N k : Nat} (h : N < b ^ (2 * k)) : nv b (List.replicate k 0) * nv b (List.replicate k 0) ≤ N ∧ N < (nv b (List.replicate k 0) + b ^ k) * (nv b (List.replicate k 0) + b ^ k) := by
  rw [nv_rep]
  refine ⟨by omega,?_⟩
  rw [Nat.zero_add,← Nat.pow_add]
  rwa [show k + k = 2 * k by omega]
theorem rt_step {b : Nat} (hb : 2 ≤ b) {l : List Int} {i N : Nat} {d : Int} (hi : i < l.length) (h0 : l[i] = 0) (hd : 0 ≤ d) (p : rtP b l i N d = true) (q : d + 1 = (b : Int) ∨ rtP b l i N (d + 1) = false) (g : N < (nv b l + b ^ (i + 1)) * (nv b l + b ^ (i + 1))) : nv b (l.set i d) * nv b (l.set i d) ≤ N ∧ N < (nv b (l.set i d) + b ^ i) * (nv b (l.set i d) + b ^ i) := by
  unfold rtP at p q
  rw [decide_eq_true_eq] at p
  refine ⟨p,?_⟩
  have e1 := nv_set b hi d
  have e2 := nv_set b hi (d + 1)
  rw [h0] at e1 e2
  have e3 : b ^ i * (d + 1).toNat = b ^ i * d.toNat + b ^ i := by rw [show (d + 1).toNat = d.toNat + 1 by omega,Nat.mul_add,Nat.mul_one]
  have e4 : nv b (l.set i d) + b ^ i = nv b (l.set i (d + 1)) := by
    simp only [Int.toNat_zero,Nat.mul_zero,Nat.add_zero] at e1 e2
    omega
  rw [e4]
  rcases q with q | q
  · have e5 : (d + 1).toNat = b := by omega
    rw [e5,← Nat.pow_succ] at e2
    simp only [Int.toNat_zero,Nat.mul_zero,Nat.add_zero,Nat.succ_eq_add_one] at e2
    rw [e2]
    exact g
  · have := of_decide_eq_false q
    omega
theorem rt_zero {b : Nat} {l : List Int} {i N : Nat} (hi : i < l.length) (h0 : l[i] = 0) (g : nv b l * nv b l ≤ N) : rtP b l i N 0 = true := by
  unfold rtP
  rw [decide_eq_true_eq]
  have e1 := nv_set b hi 0
  rw [h0] at e1
  have : nv b (l.set i 0) = nv b l := by omega
  rwa [this]
theorem rt_fin {b : Nat} {l : List Int} {N : Nat} (p : nv b l * nv b l ≤ N) (q : N < (nv b l + b ^ 0) * (nv b l + b ^ 0)) : nv b l = isq N := isq_un p (by simpa using q)
end Go.Proofs.YtnkeamihfiobdaaGreatDoor
end
section
set_option linter.unusedVariables false
set_option linter.unusedSimpArgs false
namespace Go.Proofs.YtnkeamihfiobdaaGreatDoor
open Go Foot
def YC (P : Program) (l : Nat) : List Value → World → (Ending → World → Prop) → Prop := fun vs w R =>
  ∃ f tmps assign body,(Instr.yield l vs.toArray).run P w = .ok (.round l f tmps assign body) w ∧ RoundIn (fen none) 0 P l f tmps assign body w R
theorem YC.mono {P : Program} {l : Nat} (vs : List Value) (w : World) (R R' : Ending → World → Prop) (h : YC P l vs w R) (hr : ∀ e w',R e w' → R' e w') : YC P l vs w R' := by
  obtain ⟨f,t,a,b,h1,h2⟩ := h
  exact ⟨f,t,a,b,h1,h2.mono hr⟩
section
variable {P : Program} {g : Gh} {st : St} {sv : SV} {dst : Option Tmp} {ty : TypeId} {pos : String} {after : Array Edge} {guard : Option (Nat × Bool)} {x : Operand}
end
structure Pkd (g : Gh) (tm : Array Value) (ρs : Env) (t0 : List (Nat × SV)) (hs : List (Nat × GB)) (n : Nat) (θc θp : List Nat) (l : Nat) (rec : Loop) (w : World) (S : Foot) (us : List Value) (F : Foot) (ρ : Env) (Fr : Nat → Foot) : Prop where
  slot : ∀ i,RepS w S ρ (lkS t0 i) (tm.getD i undef)
  root : ∀ i,i ∉ θc → lkG hs i = .dead ∨ ∃ v,ρ i = some v ∧ RepG w S ρ (lkG hs i) v (Fr i)
  dis : ∀ i j,i ≠ j → Foot.dis (Fr i) (Fr j)
  le : ∀ i,Foot.le (Fr i) F
  noc : ∀ i,i ∈ θc → Fr i = no
  notl : ∀ i o,¬ Fr i l o
  rcd : mapAt w l = some (.loop rec)
  hasl : ∀ o,F l o
  us : θp.map ρ = us.map some
  val : ∀ i,i ∈ θc → ∃ u,ρs i = some u ∧ ρ i = some u
  pin : ∀ i u,i < g.k → g.ρ0 i = some u → ρ i = some u
  new : ∀ i,n ≤ i → ρ i = none
theorem Pkd.keep {g : Gh} {tm : Array Value} {ρs : Env} {t0 : List (Nat × SV)} {hs : List (Nat × GB)} {n : Nat} {θc θp : List Nat} {l : Nat} {rec : Loop} {w w' : World} {S S' : Foot} {us : List Value} {F F' : Foot} {ρ : Env} {Fr : Nat → Foot}
    (h : Pkd g tm ρs t0 hs n θc θp l rec w S us F ρ Fr) (hF : Agree w w' F) (hS : Agree w w' S) (hle : Foot.le S S') (hf : Foot.le F F') : Pkd g tm ρs t0 hs n θc θp l rec w' S' us F' ρ Fr :=
  ⟨fun i => (h.slot i).keep hS hle (Env.le.refl _),fun i hi => (h.root i hi).imp id fun ⟨v,h1,h2⟩ => ⟨v,h1,h2.keep (hF.le (h.le i)) hS hle (Env.le.refl _) (le_refl _)⟩,h.dis,fun i => (h.le i).trans hf,h.noc,h.notl,by rw [(hF l 0 (h.hasl 0)).2.2,h.rcd],fun o => hf _ _ (h.hasl o),h.us,h.val,h.pin,h.new⟩
structure SameSt (s s' : St) : Prop where
  t : s.t = s'.t
  n : s.n = s'.n
  h : ∀ i,lkG s.h i = lkG s'.h i
theorem SameSt.trans {a b c : St} (h : SameSt a b) (h' : SameSt b c) : SameSt a c := ⟨h.t.trans h'.t,h.n.trans h'.n,fun i => (h.h i).trans (h'.h i)⟩
theorem SameSt.rel {g : Gh} {s s' : St} (h : SameSt s s') {a : Act} {w : World} {S : Foot} {ρ : Env} {F : Nat → Foot} (hr : Rel g s a w S ρ F) : Rel g s' a w S ρ F := hr.same (fun i => by rw [h.t]) (fun i => (h.h i).symm)
inductive qRound {X : Type} (kp : Nat) (T : X → St) (xb : X × Option Code) : Exit → St → Prop where
  | next {st s : St} (θ : List Nat) (hx : xb.2 = none) (hl : StLe kp θ st s) (hs : SameSt s (T xb.1)) : qRound kp T xb .normal st
  | ret {st s : St} (θ : List Nat) (hx : xb.2 = some .ret) (hl : StLe kp θ st s) (hs : SameSt s (T xb.1)) : qRound kp T xb .ret st
  | exit {st s : St} {id : Nat} (θ : List Nat) (hx : xb.2 = some (.exit id)) (hl : StLe kp θ st s) (hs : SameSt s (T xb.1)) : qRound kp T xb (.exit id) st
theorem qRound.same {X : Type} {kp : Nat} {T T' : X → St} {xb : X × Option Code} {e : Exit} {st : St} (h : qRound kp T xb e st) (hT : ∀ x,SameSt (T x) (T' x)) : qRound kp T' xb e st := by
  cases h with
  | next θ hx hl hs => exact .next θ hx hl (hs.trans (hT _))
  | ret θ hx hl hs => exact .ret θ hx hl (hs.trans (hT _))
  | exit θ hx hl hs => exact .exit θ hx hl (hs.trans (hT _))
section
variable {w w' : World} {S S' F F' : Foot} {ρ ρ' : Env}
end
end Go.Proofs.YtnkeamihfiobdaaGreatDoor
end
section
set_option linter.unusedVariables false
set_option linter.unusedSimpArgs false
namespace Go.Proofs.YtnkeamihfiobdaaGreatDoor
open Go Foot
def renL (f : Nat → Nat) : List GB → Prop
  | [] => True
  | x :: h => x.ren f = x ∧ renL f h
section
variable {P : Program} {g : Gh} {tm : Array Value} {ρs : Env} {t0 : List (Nat × SV)} {hx hx' : List (Nat × GB)} {n kq kp l : Nat} {θc θp θu cy : List Nat} {r0 : Loop} {ys : List SV} {HS : List GB} {j : Option Code}
structure RNums (g : Gh) (t0 : List (Nat × SV)) (n kq kp : Nat) (θc θp θu cy : List Nat) (ys : List SV) (HS : List GB) : Prop where
  n_kq : g.k ≤ kq
  n_qp : kq ≤ kp
  n_pn : kp ≤ n
  n_t : allT kq t0 = true
  n_c : θc.all (fun i => Nat.blt i kq) = true
  n_p : θp.all (fun i => θc.any (Nat.beq i)) = true
  n_u : θu.all (fun i => Nat.ble kq i && Nat.blt i kp) = true
  n_nd : nodupB (θp ++ θu) = true
  n_cy : cy.map (thF (n :: (θp ++ θu))) = θp
  n_cyl : cy.all (fun i => Nat.blt i (HS.length + 1)) = true
  n_ys : ltA 0 ys = true
  n_len : HS.length = (θp ++ θu).length
  n_lt : allG (HS.length + 1) HS = true
  n_z : renL (fun i => i - 1 + 1) HS
  n_live : HS.all GB.lives = true
theorem RNums.c' (h : RNums g t0 n kq kp θc θp θu cy ys HS) : ∀ i ∈ θc,i < kq := fun i hi => blt_lt ((List.all_eq_true.1 h.n_c) i hi)
theorem RNums.p' (h : RNums g t0 n kq kp θc θp θu cy ys HS) : ∀ i ∈ θp,i ∈ θc := fun i hi => by
  have := (List.all_eq_true.1 h.n_p) i hi
  rw [List.any_eq_true] at this
  obtain ⟨j,hj,e⟩ := this
  rw [Nat.eq_of_beq_eq_true e]
  exact hj
theorem RNums.u' (h : RNums g t0 n kq kp θc θp θu cy ys HS) : ∀ i ∈ θu,kq ≤ i ∧ i < kp := fun i hi => by
  have := (List.all_eq_true.1 h.n_u) i hi
  rw [Bool.and_eq_true] at this
  exact ⟨Nat.le_of_ble_eq_true this.1,blt_lt this.2⟩
theorem RNums.s' (h : RNums g t0 n kq kp θc θp θu cy ys HS) : ∀ i ∈ θp ++ θu,i < kp := fun i hi => by
  have := h.n_qp
  rcases List.mem_append.1 hi with hi | hi
  · have := h.c' i (h.p' i hi); omega
  · exact (h.u' i hi).2
end
end Go.Proofs.YtnkeamihfiobdaaGreatDoor
end
section
set_option linter.unusedVariables false
set_option linter.unusedSimpArgs false
namespace Go.Proofs.YtnkeamihfiobdaaGreatDoor
open Go Foot
section
variable {P : Program} {g : Gh} {tm : Array Value} {ρs : Env} {t0 : List (Nat × SV)} {hx hx' : List (Nat × GB)} {n kq kp l : Nat} {θc θp θu cy : List Nat} {r0 : Loop} {ys : List SV} {HS : List GB} {j : Option Code}
end
end Go.Proofs.YtnkeamihfiobdaaGreatDoor
end
section
set_option linter.unusedVariables false
set_option linter.unusedSimpArgs false
namespace Go.Proofs.YtnkeamihfiobdaaGreatDoor
open Go Foot
section
variable {P : Program} {g : Gh}
end
end Go.Proofs.YtnkeamihfiobdaaGreatDoor
end
section
set_option linter.unusedVariables false
set_option linter.unusedSimpArgs false
namespace Go.Proofs.YtnkeamihfiobdaaGreatDoor
open Go Foot
section
variable {P : Program} {g : Gh} {Q : Exit → St → Prop}
end
end Go.Proofs.YtnkeamihfiobdaaGreatDoor
end
section
set_option linter.unusedVariables false
set_option linter.unusedSimpArgs false
set_option maxRecDepth 100000
namespace Go.Proofs.YtnkeamihfiobdaaGreatDoor
open Go Foot
section
variable {g : Gh} {dst : Option Tmp} {ty : TypeId} {pos : String} {after : Array Edge} {guard : Option (Nat × Bool)} {x : Operand} {l : Nat} {c0 : C} {cap : List C} {xs : List Operand} {Ts : Array TypeId} {ags : List SV} {H H' : List GB} {res : SV} {θ : List Nat} {t : List (Nat × SV)} {h : List (Nat × GB)} {n : Nat}
end
section
variable {g : Gh} {Q : Exit → St → Prop} {t t0 : List (Nat × SV)} {h h0 hE : List (Nat × GB)} {n n1 : Nat}
end
end Go.Proofs.YtnkeamihfiobdaaGreatDoor
end
section
set_option linter.unusedVariables false
set_option linter.unusedSimpArgs false
set_option maxRecDepth 100000
set_option maxHeartbeats 1000000
namespace Go.Proofs.YtnkeamihfiobdaaGreatDoor
open Go Foot Go.RowKit
theorem drop_z {l : List Int} {k : Nat} (hk : 0 < k) (hl : k ≤ l.length) (hz : ∀ x ∈ l.drop k,x = 0) (h : l[k - 1]'(by omega) = 0) : ∀ x ∈ l.drop (k - 1),x = 0 := by
  intro x hx
  rw [List.drop_eq_getElem_cons (by omega),show k - 1 + 1 = k by omega] at hx
  rcases List.mem_cons.mp hx with e | e
  · rw [e]; exact h
  · exact hz x e
theorem trimmed_ok (l : List Int) (hx : (l.length : Int) ≤ 1048576) (hl : Lb 1000000 l) : Does Tryz.prog 89 [.one (shI l)] [] (.one (shI (dg 1000000 (nv 1000000 l)))) [] := by
  refine does_of (k := 0) Tryz.func89 rfl Tryz.ntmps89 rfl rfl fun w F0 S0 ρ0 => ?_
  dsimp only [argT,argH]
  repeat' first|(apply p3;(exact pu1);exact rfl)|refine cd ?_|fail
  refine g_loop_id ?_
  refine loopK [2] [] (fun y : List Int => ∃ k : Nat,k ≤ l.length ∧ y = l.take k ∧ ∀ x ∈ l.drop k,x = 0) (fun y => [(0,.one (shI y))]) (fun _ => []) (fun y => y.length) l [] (hI := ?_) (hr := ?_)
  · exact ⟨l.length,Nat.le_refl _,by simp,by simp⟩
  · rintro y ⟨k,h0,h1,h2⟩
    dsimp only [List.cons_append,List.nil_append] at *
    skip
    have hyl : y.length = k := (by rw [h1,List.length_take]; omega)
    repeat' first|(apply p3;(first|exact pu1|exact puN|exact puC|exact a_sub rfl rfl (by omega) (by omega)|exact a_slH rfl rfl rfl (fS rfl) (by omega) (by omega) (by exact rfl));exact rfl)|refine cd ?_|refine o_no rfl rfl rfl rfl ?_|(apply py3;exact rfl;exact rfl;(first|exact pu1|exact puN|exact puC|exact a_sub rfl rfl (by omega) (by omega)|exact puI);exact rfl;exact rfl)|((first|refine o_gs rfl rfl (fun hc => ?_) (fun hc => ?_)|refine g_cond rfl (fun hc => ?_) (fun hc => ?_)) <;> (try simp only [dcB] at hc) <;> (try first|contradiction|(exfalso;omega)))|fail
    · have hk : l[k - 1]'(by omega) = 0 := by
        have hc2 := hc
        simp only [h1,List.getElem_take,List.length_take] at hc2
        simpa only [show ((min k l.length : Nat) - 1 : Int).toNat = k - 1 by omega] using hc2
      refine q_again (y.take ((y.length : Int) - 1).toNat) [] (by exact stk) ?_ ?_
      · refine ⟨k - 1,by omega,?_,drop_z (by omega) h0 h2 hk⟩
        rw [h1,List.take_take,List.length_take]
        congr 1
        omega
      · rw [List.length_take]; omega
    · have hk : l[k - 1]'(by omega) ≠ 0 := by
        have hc2 := hc
        simp only [h1,List.getElem_take,List.length_take] at hc2
        simpa only [show ((min k l.length : Nat) - 1 : Int).toNat = k - 1 by omega] using hc2
      have e : y = dg 1000000 (nv 1000000 l) := by rw [h1]; exact trim_eq (by decide) hl h0 h2 (.inr ⟨by omega,hk⟩)
      rw [← e]
      repeat refine cr ?_
      refine ends_id ?_
      refine endK [] (h2 := ?_) (h3 := ?_) (nd := ?_)
      all_goals (repeat' first|exact ce0|refine ce ?_|refine ce2 ?_ ?_|exact SVLe.refl|refine ceb ?_)
      all_goals first | exact (show nodupB _ = true from rfl) | exact Or.inr rfl | (rfl)
    · have e : y = dg 1000000 (nv 1000000 l) := by rw [h1]; exact trim_eq (by decide) hl h0 h2 (.inl (by omega))
      rw [← e]
      repeat refine cr ?_
      refine ends_id ?_
      refine endK [] (h2 := ?_) (h3 := ?_) (nd := ?_)
      all_goals (repeat' first|exact ce0|refine ce ?_|refine ce2 ?_ ?_|exact SVLe.refl|refine ceb ?_)
      all_goals first | exact (show nodupB _ = true from rfl) | exact Or.inr rfl | (rfl)
theorem l02Trim_ok (l : List Int) (hx : (l.length : Int) ≤ 1048576) (hl : Lb 1000000 l) : Does Tryz.prog 153 [.one (shI l)] [] (.one (shI (dg 1000000 (nv 1000000 l)))) [] := by
  refine does_of (k := 0) Tryz.func153 rfl Tryz.ntmps153 rfl rfl fun w F0 S0 ρ0 => ?_
  dsimp only [argT,argH]
  repeat' first|(apply p3;(first|exact pu1|exact puN);exact rfl)|refine cd ?_|fail
  refine g_loop_id ?_
  refine loopK [0,2] [] (fun k : Int => 0 ≤ k ∧ k ≤ l.length ∧ ∀ x ∈ l.drop k.toNat,x = 0) (fun k => [(3,.one (int k))]) (fun _ => []) (fun k => k.toNat) (l.length : Int) [] (hI := ?_) (hr := ?_)
  · exact ⟨by omega,Int.le_refl _,by simp⟩
  · rintro k ⟨h0,h1,h2⟩
    dsimp only [List.cons_append,List.nil_append] at *
    skip
    repeat' first|(apply p3;(first|exact pu1|exact puC|exact a_sub rfl rfl (by omega) (by omega)|exact a_slH rfl rfl rfl (fS rfl) (by omega) (by omega) (by exact rfl));exact rfl)|refine cd ?_|refine o_no rfl rfl rfl rfl ?_|(apply py3;exact rfl;exact rfl;(first|exact pu1|exact puC|exact a_sub rfl rfl (by omega) (by omega)|exact puI);exact rfl;exact rfl)|((first|refine o_gs rfl rfl (fun hc => ?_) (fun hc => ?_)|refine g_cond rfl (fun hc => ?_) (fun hc => ?_)) <;> (try simp only [dcB] at hc) <;> (try first|contradiction|(exfalso;omega)))|fail
    · have hk : l[k.toNat - 1]'(by omega) = 0 := by
        have hc2 := hc
        simpa only [show (k - 1).toNat = k.toNat - 1 by omega] using hc2
      refine q_again (k - 1) [] (by exact stk) ?_ ?_
      · refine ⟨by omega,by omega,?_⟩
        rw [show (k - 1).toNat = k.toNat - 1 by omega]
        exact drop_z (by omega) (by omega) h2 hk
      · omega
    · have hk : l[k.toNat - 1]'(by omega) ≠ 0 := by
        have hc2 := hc
        simpa only [show (k - 1).toNat = k.toNat - 1 by omega] using hc2
      have e : l.take k.toNat = dg 1000000 (nv 1000000 l) := trim_eq (by decide) hl (by omega) h2 (.inr ⟨by omega,hk⟩)
      rw [← e]
      repeat refine cr ?_
      refine ends_id ?_
      refine endK [] (h2 := ?_) (h3 := ?_) (nd := ?_)
      all_goals (repeat' first|exact ce0|refine ce ?_|refine ce2 ?_ ?_|exact SVLe.refl|refine ceb ?_)
      all_goals first | exact (show nodupB _ = true from rfl) | exact Or.inr rfl | (rfl)
    · have e : l.take k.toNat = dg 1000000 (nv 1000000 l) := trim_eq (by decide) hl (by omega) h2 (.inl (by omega))
      rw [← e]
      repeat refine cr ?_
      refine ends_id ?_
      refine endK [] (h2 := ?_) (h3 := ?_) (nd := ?_)
      all_goals (repeat' first|exact ce0|refine ce ?_|refine ce2 ?_ ?_|exact SVLe.refl|refine ceb ?_)
      all_goals first | exact (show nodupB _ = true from rfl) | exact Or.inr rfl | (rfl)
theorem l02Of_ok (n : Int) (h0 : 0 ≤ n) (h1 : n ≤ 1000000000000) : Does Tryz.prog 151 [.one (int n)] [] (.one (.gv 0)) [roI (dg 1000000 n.toNat)] := by
  refine does_of (k := 0) Tryz.func151 rfl Tryz.ntmps151 rfl rfl fun w F0 S0 ρ0 => ?_
  dsimp only [argT,argH]
  repeat' first|(apply n3;exact a_nilO eI rfl;exact rfl)|(apply n3;(exact a_litE eI [] rfl rfl rfl rfl rfl rfl rfl rfl);exact rfl;refine dA ?_)|(apply p3;(exact pu1);exact rfl)|refine cd ?_|fail
  refine g_loop_id ?_
  refine loopK [2] [1] (fun y : Int × List Int => 0 ≤ y.1 ∧ y.1 ≤ n ∧ y.2 ++ dg 1000000 y.1.toNat = dg 1000000 n.toNat) (fun y => [(0,.one (int y.1)),(3,.one (.gv 1))]) (fun y => [(1,roI y.2)]) (fun y => y.1.toNat) (n,[]) [0,1] (hI := ?_) (hr := ?_)
  · exact ⟨h0,by simp,by simp⟩
  · have hlen : (dg 1000000 n.toNat).length ≤ 3 := dg_le (by decide) (by simp; omega)
    rintro ⟨k,l⟩ ⟨j0,j1,j2⟩
    dsimp only [List.cons_append,List.nil_append] at *
    skip
    have jl : l.length ≤ (dg 1000000 n.toNat).length := by (rw [← j2,List.length_append]; omega)
    repeat' first|(apply n3;(exact a_litE eI [_] rfl rfl rfl rfl rfl rfl rfl rfl);exact rfl;refine dA ?_)|(apply p3;(first|exact pu1|exact puC|exact a_rem rfl rfl (by omega) (by omega) (by omega)|exact a_quo rfl rfl (by omega) (by omega) (by omega));exact rfl)|refine cd ?_|(apply s3;exact a_appE (fP rfl) rfl rfl rfl rfl nowR (by (simp <;> omega)) (by decide) (by decide) (by exact rfl);exact rfl;exact rfl)|((refine g_cond rfl (fun hc => ?_) (fun hc => ?_)) <;> (try simp only [dcB] at hc) <;> (try first|contradiction|(exfalso;omega)))|fail
    · have hb := dg_s (b := 1000000) (n := k.toNat) (by decide) (by omega)
      refine q_again (k / 1000000,l ++ [k % 1000000]) [0,3] (by exact stk) ?_ ?_
      · dsimp only
        refine ⟨by omega,by omega,?_⟩
        rw [List.append_assoc,← j2,hb]
        have e1 : ((k.toNat % 1000000 : Nat) : Int) = k % 1000000 := by omega
        have e2 : k.toNat / 1000000 = (k / 1000000).toNat := by omega
        rw [e1,e2]
        rfl
      · dsimp only; omega
    · have e : k = 0 := by omega
      subst e
      rw [show (0 : Int).toNat = 0 from rfl,dg_0,List.append_nil] at j2
      rw [← j2]
      repeat refine cr ?_
      refine ends_id ?_
      refine endK [?_] (h2 := ?_) (h3 := ?_) (nd := ?_)
      rotate_left 1
      all_goals (repeat' first|exact ce0|refine ce ?_|refine ce2 ?_ ?_|(refine Or.inr (bx_eq rfl rfl ?_);(try dsimp only [C.ren,C.ren.all]);(try exact rfl))|exact SVLe.refl|refine ceb ?_)
      all_goals first | exact (show nodupB _ = true from rfl) | exact Or.inr rfl | (rfl)
end Go.Proofs.YtnkeamihfiobdaaGreatDoor
end
section
set_option linter.unusedVariables false
set_option linter.unusedSimpArgs false
set_option maxRecDepth 100000
set_option maxHeartbeats 1000000
namespace Go.Proofs.YtnkeamihfiobdaaGreatDoor
open Go Foot Go.RowKit
theorem preB236 {p : Prop} (h : p := by first | with_reducible assumption | omega | (simp only [List.length_append,List.length_cons,List.length_nil,List.length_set,List.length_replicate,List.length_take,List.length_drop,List.length_tail,List.length_dropLast,List.length_reverse] at *; omega) | exact mem_len (by assumption) (by omega) | (with_reducible refine Int.le_trans (Int.ofNat_le.2 (trimR_len _)) ?_; simp only [List.length_cons,List.length_tail]; omega) | (exact (ruAt_ok (by assumption) (by assumption) (by assumption)).2.1) | (exact (ruAt_ok (by assumption) (by assumption) (by assumption)).2.1) | (have := vMach_bd (by assumption); omega) | (simp only [List.length_append,List.length_cons,List.length_nil,repW_len,seN_len] at *; omega) | (simp only [mC_ch,mC_tu]; omega) | (have := vTag_bd (by assumption); omega) | (have := (‹Gd _ _›).le; omega) | (exact tgHalts_no (by assumption)) | (exact tgHead (by assumption) (by assumption) (by assumption)) | (exact Int.le_trans (tgStep_gd (by assumption) (by assumption) (by assumption) (by assumption)).le (by decide)) | (exact vTag_r (by assumption)) | (with_reducible refine Int.le_trans (Int.ofNat_le.2 (pushL_len _ _)) ?_; simp only [List.length_dropLast]; omega) | exact ls_at (by assumption) (by omega) | exact pt_gd (by assumption) | exact lv_at (by assumption) (by omega) | exact pt_gd (lv_at (by assumption) (by omega)) | exact (ask_ok (by assumption)).1 | exact (ask_ok (by assumption)).2.1 | exact (ask_ok (by assumption)).2.2.1 | exact (ask_ok (by assumption)).2.2.2 | trivial) : p := h
theorem IsNatural_ok (x : Nat) (hx : ((dg 1000000 x).length : Int) ≤ 1048576) : Does Tryz.prog 81 [.one (shI (dg 1000000 x))] [] (.one (boo (decide ((dg 1000000 x).length ≤ 40)))) [] := by
  have hin : inAll 0 999999 (dg 1000000 x) = true := by
    unfold inAll
    rw [List.all_eq_true]
    intro y hy
    have := (dg_lb (b := 1000000) (by decide) x).h y hy
    rw [decide_eq_true_eq]
    omega
  have hz : ∀ h : ¬ ((dg 1000000 x).length : Int) = 0,¬ (dg 1000000 x)[(((dg 1000000 x).length : Int) - 1).toNat]'(by omega) = 0 := fun h => by
    have := dg_last (b := 1000000) (by decide) x (by intro e; rw [e] at h; simp at h)
    rw [List.getLast_eq_getElem] at this
    simpa only [show (((dg 1000000 x).length : Int) - 1).toNat = (dg 1000000 x).length - 1 by omega] using this
  have hz0 : ∀ h : 0 < (dg 1000000 x).length,(dg 1000000 x)[(dg 1000000 x).length - 1]'(by omega) ≠ 0 := fun h => by
    have := dg_last (b := 1000000) (by decide) x (by intro e; rw [e] at h; simp at h)
    rwa [List.getLast_eq_getElem] at this
  refine does_of (k := 0) Tryz.func81 rfl Tryz.ntmps81 rfl rfl fun w F0 S0 ρ0 => ?_
  dsimp only [argT,argH]
  repeat' first|(apply p3;(first|exact pu1|exact puN|exact puC);exact rfl)|refine cd ?_|refine o_no rfl rfl rfl rfl ?_|(apply py3;exact rfl;exact rfl;(first|exact pu1|exact puN|exact puC|exact a_sub rfl rfl (by omega) (by omega)|exact a_ne rfl rfl|exact puI);exact rfl;exact rfl)|(apply cy4 0;exact rfl;exact rfl;exact callK1 (θ := []) (hD := (allWithin_ok _ _ _ preB236));exact rfl;exact rfl;exact rfl;exact rfl;refine dM ?_)|((refine o_gs rfl rfl (fun hc => ?_) (fun hc => ?_)) <;> (try simp only [dcB] at hc) <;> (try first|contradiction|(exfalso;omega)))|fail
  · repeat refine cr ?_
    refine ends_id ?_
    refine endK [] (h2 := ?_) (h3 := ?_) (nd := ?_)
    all_goals (repeat' first|exact ce0|refine ce ?_|refine ce2 ?_ ?_|exact SVLe.refl|refine ceb ?_)
    all_goals first | exact (show nodupB _ = true from rfl) | exact Or.inr rfl | ((rw [decide_eq_true (by omega)]))
  · have hz1 := hz hc
    repeat refine cr ?_
    refine ends_id ?_
    refine endK [] (h2 := ?_) (h3 := ?_) (nd := ?_)
    all_goals (repeat' first|exact ce0|refine ce ?_|refine ce2 ?_ ?_|exact SVLe.refl|refine ceb ?_)
    all_goals first | exact (show nodupB _ = true from rfl) | exact Or.inr rfl | ((rw [decide_eq_false hz1,decide_eq_true (by omega)]; rfl))
  · exfalso
    rw [hin] at hc
    cases hc
  · repeat refine cr ?_
    refine ends_id ?_
    refine endK [] (h2 := ?_) (h3 := ?_) (nd := ?_)
    all_goals (repeat' first|exact ce0|refine ce ?_|refine ce2 ?_ ?_|exact SVLe.refl|refine ceb ?_)
    all_goals first | exact (show nodupB _ = true from rfl) | exact Or.inr rfl | ((rw [decide_eq_false (by omega)]))
theorem carried_ok (l : List Int) (hx : (l.length : Int) ≤ 100000) (hl : ∀ x ∈ l,0 ≤ x ∧ x ≤ 1000000000000) : Does Tryz.prog 172 [.one (shI l)] [] (.one (shI (dg 1000000 (nv 1000000 l)))) [] := by
  refine does_of (k := 0) Tryz.func172 rfl Tryz.ntmps172 rfl rfl fun w F0 S0 ρ0 => ?_
  dsimp only [argT,argH]
  repeat' first|(apply n3;(exact a_litE eI [] rfl rfl rfl rfl rfl rfl rfl rfl);exact rfl;refine dA ?_)|(apply p3;(exact pu1);exact rfl)|refine cd ?_|fail
  refine g_loop_id ?_
  refine loopK [0,2] [0] (fun y : Int × List Int × Int => 0 ≤ y.1 ∧ (y.2.1.length : Int) = y.1 ∧ Lb 1000000 y.2.1 ∧ 0 ≤ y.2.2 ∧ y.2.2 ≤ 1000002 ∧ (y.1 ≤ l.length ∨ y.1 = l.length + 1 ∧ y.2.2 ≤ 1 ∨ y.1 = l.length + 2 ∧ y.2.2 = 0) ∧ nv 1000000 y.2.1 + 1000000 ^ y.1.toNat * y.2.2.toNat = nv 1000000 (l.take y.1.toNat)) (fun y => [(5,.one (int y.1)),(3,.one (.gv 0)),(4,.one (int y.2.2))]) (fun y => [(0,roI y.2.1)]) (fun y => (l.length - y.1).toNat * 100000000 + y.2.2.toNat) ((0 : Int),([] : List Int),(0 : Int)) [0] (hI := ?_) (hr := ?_)
  · exact ⟨by simp,by simp,⟨fun x hx => by simp at hx⟩,by simp,by simp,by simp,by simp⟩
  · rintro ⟨i,o,c⟩ ⟨j0,j1,j2,j3,j4,j5,j6⟩
    dsimp only [List.cons_append,List.nil_append] at *
    skip
    repeat' first|(apply p3;(first|exact pu1|exact puN|exact puC);exact rfl)|refine cdn ?_|refine g_reg (id := 3) ?_|refine g_reg (id := 5) ?_|refine g_reg (id := 9) ?_|refine o_no rfl rfl rfl rfl ?_|(apply py3;exact rfl;exact rfl;(first|exact pu1|exact puC);exact rfl;exact rfl)|((first|refine o_gs rfl rfl (fun hc => ?_) (fun hc => ?_)|refine g_cond rfl (fun hc => ?_) (fun hc => ?_)) <;> (try simp only [dcB] at hc) <;> (try first|contradiction|(exfalso;omega)))|fail
    · have hli := hl _ (List.getElem_mem (show i.toNat < l.length by omega))
      repeat' first|(apply n3;(exact a_litE eI [_] rfl rfl rfl rfl rfl rfl rfl rfl);exact rfl;refine dA ?_)|(apply p3;(first|exact pu1|exact a_add rfl rfl (by omega) (by omega)|exact a_rem rfl rfl (by omega) (by omega) (by omega)|exact a_quo rfl rfl (by omega) (by omega) (by omega)|exact puI);exact rfl)|refine cd ?_|(apply s3;exact a_appE (fP rfl) rfl rfl rfl rfl nowR (by (simp <;> omega)) (by decide) (by decide) (by exact rfl);exact rfl;exact rfl)|fail
      refine q_again (i + 1,o ++ [(c + l[i.toNat]) % 1000000],(c + l[i.toNat]) / 1000000) [2] (by exact stk) ?_ ?_
      · have e1 := car_in (b := 1000000) (show i.toNat < l.length by omega) hli.1 j3 j6
        have e2 := car_s (b := 1000000) (c := c + l[i.toNat]) (by omega) o
        have e3 := car_l (b := 1000000) (by decide) (c := c + l[i.toNat]) j2
        have e4 : o.length = i.toNat := by omega
        rw [e4] at e2
        refine ⟨by dsimp only; omega,by dsimp only; rw [List.length_append]; simp; omega,e3,by dsimp only; omega,by dsimp only; omega,by dsimp only; omega,?_⟩
        dsimp only
        rw [show (i + 1).toNat = i.toNat + 1 by omega]
        exact e2.trans e1
      · dsimp only; omega
    · repeat' first|(apply n3;(exact a_litE eI [_] rfl rfl rfl rfl rfl rfl rfl rfl);exact rfl;refine dA ?_)|(apply p3;(first|exact pu1|exact a_add rfl rfl (by omega) (by omega)|exact a_rem rfl rfl (by omega) (by omega) (by omega)|exact a_quo rfl rfl (by omega) (by omega) (by omega));exact rfl)|refine cd ?_|(apply s3;exact a_appE (fP rfl) rfl rfl rfl rfl nowR (by (simp <;> omega)) (by decide) (by decide) (by exact rfl);exact rfl;exact rfl)|fail
      refine q_again (i + 1,o ++ [c % 1000000],c / 1000000) [2] (by exact stk) ?_ ?_
      · have e2 := car_s (b := 1000000) (c := c) (by omega) o
        have e3 := car_l (b := 1000000) (by decide) (c := c) j2
        have e4 : o.length = i.toNat := by omega
        rw [e4,j6] at e2
        refine ⟨by dsimp only; omega,by dsimp only; rw [List.length_append]; simp; omega,e3,by dsimp only; omega,by dsimp only; omega,by dsimp only; omega,?_⟩
        dsimp only
        rw [show (i + 1).toNat = i.toNat + 1 by omega,List.take_of_length_le (by omega)]
        rw [List.take_of_length_le (by omega)] at e2
        exact e2
      · dsimp only; omega
    · have e : nv 1000000 o = nv 1000000 l := by
        have hc0 : c = 0 := by omega
        rw [hc0,List.take_of_length_le (by omega)] at j6
        simpa using j6
      rw [← e]
      refine o_turn (t_freeze (i := 0) rfl nowR) ?_
      repeat' first|(apply p3;(exact pu1);exact rfl)|refine cd ?_|(apply c4 0;exact callK0 (θ := []) (hD := (trimmed_ok o (by omega) j2));exact rfl;exact rfl;exact rfl;refine dM ?_)|fail
      repeat refine cr ?_
      refine ends_id ?_
      refine endK [] (h2 := ?_) (h3 := ?_) (nd := ?_)
      all_goals (repeat' first|exact ce0|refine ce ?_|refine ce2 ?_ ?_|exact SVLe.refl|refine ceb ?_)
      all_goals first | exact (show nodupB _ = true from rfl) | exact Or.inr rfl | (rfl)
theorem naturalOf_ok (n : Int) (h0 : 0 ≤ n) (h1 : n ≤ 1000000000000) : Does Tryz.prog 154 [.one (int n)] [] (.one (shI (dg 1000000 n.toNat))) [] := by
  have e : nv 1000000 [n] = n.toNat := nv_one _ _
  rw [← e]
  have hl : ∀ x ∈ [n],0 ≤ x ∧ x ≤ 1000000000000 := fun x hx => by
    have : x = n := by simpa using hx
    omega
  refine does_of (k := 0) Tryz.func154 rfl Tryz.ntmps154 rfl rfl fun w F0 S0 ρ0 => ?_
  dsimp only [argT,argH]
  repeat' first|(apply n3;exact a_litE eI [_] rfl rfl rfl rfl rfl rfl rfl rfl;exact rfl;refine dA ?_)|(apply p3;exact pu1;exact rfl)|refine cd ?_|fail
  refine o_turn (t_freeze (i := 0) rfl nowR) ?_
  repeat' first|(apply p3;exact pu1;exact rfl)|refine cd ?_|(apply c4 0;exact callK0 (θ := []) (hD := (carried_ok [n] (by simp) hl));exact rfl;exact rfl;exact rfl;refine dM ?_)|fail
  repeat refine cr ?_
  refine ends_id ?_
  refine endK [] (h2 := ?_) (h3 := ?_) (nd := ?_)
  all_goals (repeat' first|exact ce0|refine ce ?_|refine ce2 ?_ ?_|exact SVLe.refl|refine ceb ?_)
  all_goals first | exact (show nodupB _ = true from rfl) | exact Or.inr rfl | (rfl)
theorem divideSmall_ok (x : Nat) (d : Int) (hx : ((dg 1000000 x).length : Int) ≤ 100000) (h0 : 1 ≤ d) (h1 : d ≤ 1000000) : Does Tryz.prog 83 [.one (shI (dg 1000000 x)),.one (int d)] [] (.tup [(false,[shI (dg 1000000 (x / d.toNat))]),(false,[int ((x % d.toNat : Nat) : Int)])]) [] := by
  have hlb := dg_lb (b := 1000000) (by decide) x
  refine does_of (k := 0) Tryz.func83 rfl Tryz.ntmps83 rfl rfl fun w F0 S0 ρ0 => ?_
  dsimp only [argT,argH]
  repeat' first|(apply n3;exact a_make (fE rfl) (fZ rfl) (fP rfl) (by decide) rfl rfl (by omega) rfl (by omega) (by omega) (rows_rep eI 0 _);exact rfl;refine dA ?_)|(apply p3;(first|exact pu1|exact puN|exact a_sub rfl rfl (by omega) (by omega));exact rfl)|refine cd ?_|fail
  refine g_loop_id ?_
  refine loopK [0,1,4,5] [0] (fun y : Int × List Int × Int => -1 ≤ y.1 ∧ y.1 < (dg 1000000 x).length ∧ y.2.1.length = (dg 1000000 x).length ∧ Lb 1000000 y.2.1 ∧ 0 ≤ y.2.2 ∧ y.2.2 < d ∧ nv 1000000 ((dg 1000000 x).drop (y.1 + 1).toNat) = d.toNat * nv 1000000 (y.2.1.drop (y.1 + 1).toNat) + y.2.2.toNat) (fun y => [(8,.one (int y.1)),(6,.one (.gv 0)),(7,.one (int y.2.2))]) (fun y => [(0,roI y.2.1)]) (fun y => (y.1 + 1).toNat) (((dg 1000000 x).length - 1 : Int),List.replicate (dg 1000000 x).length (0 : Int),(0 : Int)) [0] (hI := ?_) (hr := ?_)
  · refine ⟨by dsimp only; omega,by dsimp only; omega,by simp,lb_zeros (by decide) _,by simp,by dsimp only; omega,?_⟩
    dsimp only
    rw [List.drop_eq_nil_of_le (by omega),List.drop_eq_nil_of_le (by simp),nv_nil]
    rfl
  · rintro ⟨i,o,r⟩ ⟨j0,j1,j2,j3,j4,j5,j6⟩
    dsimp only [List.cons_append,List.nil_append] at *
    skip
    repeat' first|(apply p3;(first|exact pu1|exact puC);exact rfl)|refine cdn ?_|refine g_reg (id := 3) ?_|refine g_reg (id := 7) ?_|((refine g_cond rfl (fun hc => ?_) (fun hc => ?_)) <;> (try simp only [dcB] at hc) <;> (try first|contradiction|(exfalso;omega)))|fail
    · have hi : i.toNat < (dg 1000000 x).length := by omega
      have hli := hlb.h _ (List.getElem_mem hi)
      have hb := div_bd (b := 1000000) (d := d.toNat) j4 (by omega) hli.1 hli.2
      have hd : ((d.toNat : Nat) : Int) = d := by omega
      have hs := div_s (b := 1000000) (d := d.toNat) (o := o) (by omega) j4 hi (by omega) hli.1 (by rw [show i.toNat + 1 = (i + 1).toNat by omega]; exact j6)
      rw [hd] at hb hs
      repeat' first|(apply p3;(first|exact pu1|exact a_mulB rfl rfl (by omega) (by omega) (by omega) (by omega)|exact a_add rfl rfl (by omega) (by omega)|exact a_sub rfl rfl (by omega) (by omega)|exact puI);exact rfl)|refine cd ?_|(apply g_drN (id := 6) okM [[],[],[],[],[2,3],[],[],[5,6],[0,1,2,3,4],[0,1,2,3,4,8],[0,1,2,3,4,5,6,7,8,9]] [([],[]),([],[]),([],[]),([],[]),([],[]),([],[]),([],[]),([],[]),([],[]),([],[0]),([],[])] 0;(focus (refine dp 0 0 [27,28,29,30,31,32,33] [] pu1 ?_;refine dp 1 0 [26,28,29,30,31,32,33] [] pu1 ?_;refine dp 2 0 [26,27,29,31,32,33] [] pu1 ?_;refine dp 3 0 [26,27,28,31,32,33] [] pu1 ?_;refine dp 4 3 [26,27,31,32,33] [] (a_quo rfl rfl (by omega) (by omega) (by omega)) ?_;refine dp 5 0 [26,27,28,29,30,32,34] [(false,0)] pu1 ?_;refine dp 6 0 [26,27,28,29,30,31,34] [(false,0)] pu1 ?_;refine dp 7 3 [26,27,28,29,30,34] [(false,0)] (a_rem rfl rfl (by omega) (by omega) (by omega)) ?_;refine dp 8 248 [31,32,33] [] puI ?_;refine duE 9 497 [31,32,33] [] (by exact a_st_rowI rfl rfl rfl rfl (fN rfl rfl) bnd) (by exact rfl) (by exact rfl) ?_;refine dp 10 1023 [] [] pu1 ?_;(refine d_nil ?_;refine dN ?_)));any_goals kernel_rfl)|fail
      refine q_again (i - 1,o.set i.toNat ((r * 1000000 + (dg 1000000 x)[i.toNat]) / d),(r * 1000000 + (dg 1000000 x)[i.toNat]) % d) [0] (by exact stk) ?_ ?_
      · refine ⟨by dsimp only; omega,by dsimp only; omega,by simpa using j2,lb_set j3 hb.1 hb.2.1,hb.2.2.1,hb.2.2.2,?_⟩
        dsimp only
        rw [show (i - 1 + 1).toNat = i.toNat by omega]
        exact hs
      · dsimp only; omega
    · have hf := div_fin (b := 1000000) (d := d.toNat) j4 (by omega) (by rw [show (i + 1).toNat = 0 by omega] at j6; exact j6)
      rw [nv_dg (by decide)] at hf
      rw [← hf.1,← hf.2]
      refine o_turn (t_freeze (i := 0) rfl nowR) ?_
      repeat' first|(apply p3;(exact pu1);exact rfl)|refine cd ?_|(apply c4 0;exact callK0 (θ := []) (hD := (trimmed_ok o (by omega) j3));exact rfl;exact rfl;exact rfl;refine dM ?_)|fail
      repeat refine cr ?_
      refine ends_id ?_
      refine endK [] (h2 := ?_) (h3 := ?_) (nd := ?_)
      all_goals (repeat' first|exact ce0|refine ce ?_|refine ce2 ?_ ?_|exact SVLe.refl|refine ceb ?_)
      all_goals first | exact (show nodupB _ = true from rfl) | exact Or.inr rfl | (rfl)
theorem dg_mono {b : Nat} (hb : 2 ≤ b) {x y : Nat} (h : x ≤ y) : (dg b x).length ≤ (dg b y).length := dg_le hb (Nat.lt_of_le_of_lt h (dg_lt hb y))
theorem dg_40 {x : Nat} (h : (dg 1000000 x).length ≤ 40) : x < 1000000 ^ 40 := Nat.lt_of_lt_of_le (dg_lt (by decide) x) (Nat.pow_le_pow_right (by decide) h)
theorem dg_800 {x b : Nat} (hb : 2 ≤ b) (h : (dg 1000000 x).length ≤ 40) : (dg b x).length ≤ 800 :=
  dg_le hb (Nat.lt_of_lt_of_le (dg_40 h) (Nat.le_trans (show 1000000 ^ 40 ≤ 2 ^ 800 by decide +kernel) (Nat.pow_le_pow_left hb 800)))
theorem DigitsOf_ok (x : Nat) (b : Int) (hx : (dg 1000000 x).length ≤ 40) (h0 : 2 ≤ b) (h1 : b ≤ 1000000) : Does Tryz.prog 25 [.one (shI (dg 1000000 x)),.one (int b)] [] (.tup [(false,[.gv 0]),(false,[int 0])]) [roI (dg b.toNat x)] := by
  have h8 := dg_800 (b := b.toNat) (by omega) hx
  refine does_of (k := 0) Tryz.func25 rfl Tryz.ntmps25 rfl rfl fun w F0 S0 ρ0 => ?_
  dsimp only [argT,argH]
  repeat' first|(apply n3;(exact a_litE eI [] rfl rfl rfl rfl rfl rfl rfl rfl);exact rfl;refine dA ?_)|(apply p3;(exact pu1);exact rfl)|refine cd ?_|(apply c4 0;exact callK1 (θ := []) (hD := (IsNatural_ok _ preB236));exact rfl;exact rfl;exact rfl;refine dM ?_)|(apply c4 0;exact callK1 (θ := []) (hD := (within_ok _ _ _));exact rfl;exact rfl;exact rfl;refine dM ?_)|((refine g_cond rfl (fun hc => ?_) (fun hc => ?_)) <;> (try simp only [dcB] at hc) <;> (try first|contradiction|(exfalso;omega)))|fail
  all_goals first | (exfalso; omega) | skip
  refine g_loop_id ?_
  refine loopK [1,4,5] [0] (fun y : Nat × List Int => y.1 ≤ x ∧ y.2 ++ dg b.toNat y.1 = dg b.toNat x) (fun y => [(0,.one (shI (dg 1000000 y.1))),(6,.one (.gv 0))]) (fun y => [(0,roI y.2)]) (fun y => y.1) (x,([] : List Int)) [0] (hI := ?_) (hr := ?_)
  · exact ⟨Nat.le_refl _,by simp⟩
  · rintro ⟨z,l⟩ ⟨j0,j1⟩
    dsimp only [List.cons_append,List.nil_append] at *
    skip
    repeat' first|(apply p3;(first|exact pu1|exact puN|exact puC);exact rfl)|refine cdn ?_|refine g_reg (id := 6) ?_|refine g_reg (id := 9) ?_|((refine g_cond rfl (fun hc => ?_) (fun hc => ?_)) <;> (try simp only [dcB] at hc) <;> (try first|contradiction|(exfalso;omega)))|fail
    · have hz : 0 < z := by
        rcases Nat.eq_zero_or_pos z with h | h
        · subst h; rw [dg_0] at hc; simp at hc
        · exact h
      have hm := dg_mono (b := 1000000) (by decide) j0
      have hs := dg_s (b := b.toNat) (by omega) hz
      have hl := congrArg List.length j1
      rw [List.length_append] at hl
      repeat' first|(apply n3;(exact a_litE eI [_] rfl rfl rfl rfl rfl rfl rfl rfl);exact rfl;refine dA ?_)|(apply p3;(exact pu1);exact rfl)|refine cd ?_|(apply s3;exact a_appE (fP rfl) rfl rfl rfl rfl nowR (by (simp <;> omega)) (by decide) (by decide) (by exact rfl);exact rfl;exact rfl)|(apply c4 0;exact callK0 (θ := []) (hD := (divideSmall_ok z b (by omega) (by omega) h1));exact rfl;exact rfl;exact rfl;refine dM ?_)|fail
      refine q_again (z / b.toNat,l ++ [((z % b.toNat : Nat) : Int)]) [2] (by exact stk) ?_ ?_
      · refine ⟨Nat.le_trans (Nat.div_le_self _ _) j0,?_⟩
        rw [List.append_assoc,← j1,hs]
        rfl
      · exact Nat.div_lt_self hz (by omega)
    · have e : z = 0 := dg_nil (b := 1000000) (by decide) (List.eq_nil_of_length_eq_zero (by omega))
      rw [e,dg_0,List.append_nil] at j1
      rw [← j1]
      repeat refine cr ?_
      refine ends_id ?_
      refine endK [?_] (h2 := ?_) (h3 := ?_) (nd := ?_)
      rotate_left 1
      all_goals (repeat' first|exact ce0|refine ce ?_|refine ce2 ?_ ?_|(refine Or.inr (bx_eq rfl rfl ?_);(try dsimp only [C.ren,C.ren.all]);(try exact rfl))|exact SVLe.refl|refine ceb ?_)
      all_goals first | exact (show nodupB _ = true from rfl) | exact Or.inr rfl | (rfl)
end Go.Proofs.YtnkeamihfiobdaaGreatDoor
end
section
set_option linter.unusedVariables false
set_option linter.unusedSimpArgs false
set_option maxRecDepth 100000
set_option maxHeartbeats 4000000
namespace Go.Proofs.YtnkeamihfiobdaaGreatDoor
open Go Foot
structure Tg where
  de : Int
  wo : List (List Int)
  ha : List Int
end Go.Proofs.YtnkeamihfiobdaaGreatDoor
end
section
set_option linter.unusedVariables false
set_option linter.unusedSimpArgs false
set_option linter.unusedSectionVars false
namespace Go.Proofs.YtnkeamihfiobdaaGreatDoor
section
variable {α : Type} [DecidableEq α] (f : α → α) (h o : α → Bool)
def itr : Nat → α → α
  | 0,x => x
  | n + 1,x => itr n (f x)
theorem itr_succ (n : Nat) (x : α) : itr f (n + 1) x = f (itr f n x) := by
  induction n generalizing x with
  | zero => rfl
  | succ n ih => rw [itr,ih,itr]
def cSt : Nat → α → α → Nat
  | 0,_,_ => 0
  | k + 1,a,b => bif decide (a = b) then 0 else cSt k (f a) (f b) + 1
variable {f h o}
section
variable {x : α} {i n b B : Nat}
structure Cyc (f : α → α) (x : α) (i b : Nat) : Prop where
  pos : 0 < b
  eq : itr f i x = itr f (i + b) x
  inj : ∀ j k,j < k → k < i + b → itr f j x ≠ itr f k x
theorem itr_add (m n : Nat) (x : α) : itr f (m + n) x = itr f n (itr f m x) := by
  induction m generalizing x with
  | zero => simp [itr]
  | succ m ih => rw [Nat.succ_add,itr,ih,itr]
theorem Cyc.per (c : Cyc f x i b) (m : Nat) (hm : i ≤ m) : itr f (m + b) x = itr f m x := by
  obtain ⟨d,rfl⟩ := Nat.exists_eq_add_of_le hm
  rw [show i + d + b = i + b + d by omega,itr_add (i + b) d,← c.eq,← itr_add]
theorem Cyc.red (c : Cyc f x i b) : ∀ (d : Nat),itr f (i + d) x = itr f (i + d % b) x := by
  intro d
  induction d using Nat.strongRecOn with
  | _ d ih =>
    by_cases hd : d < b
    · rw [Nat.mod_eq_of_lt hd]
    · have := c.per (i + (d - b)) (by omega)
      rw [show i + (d - b) + b = i + d by omega] at this
      rw [this,ih (d - b) (by have := c.pos; omega),← Nat.mod_eq_sub_mod (by omega)]
theorem Cyc.ne (c : Cyc f x i b) {s l : Nat} (hl : 1 ≤ l) (e : itr f s x = itr f (s + l) x) : i ≤ s ∧ b ≤ l := by
  have hb := c.pos
  by_cases hs : i ≤ s
  · refine ⟨hs,?_⟩
    obtain ⟨d,rfl⟩ := Nat.exists_eq_add_of_le hs
    rw [c.red d,show i + d + l = i + (d + l) by omega,c.red (d + l)] at e
    have h1 := Nat.mod_lt d hb
    have h2 := Nat.mod_lt (d + l) hb
    have h3 : d % b = (d + l) % b := by
      rcases Nat.lt_trichotomy (d % b) ((d + l) % b) with h | h | h
      · exact absurd e (c.inj _ _ (by omega) (by omega))
      · exact h
      · exact absurd e.symm (c.inj _ _ (by omega) (by omega))
    have h4 : (d + l - d) % b = 0 := Nat.sub_mod_eq_zero_of_mod_eq h3.symm
    rw [show d + l - d = l by omega] at h4
    exact Nat.le_of_dvd (by omega) (Nat.dvd_of_mod_eq_zero h4)
  · exfalso
    by_cases hn : s + l < i + b
    · exact c.inj s (s + l) (by omega) hn e
    · have h1 : s + l = i + (s + l - i) := by omega
      rw [h1,c.red] at e
      have h2 := Nat.mod_lt (s + l - i) hb
      exact c.inj s _ (by omega) (by omega) e
theorem Cyc.st (c : Cyc f x i b) : ∀ (K s : Nat),s ≤ i → i - s < K → cSt f K (itr f s x) (itr f (s + b) x) = i - s := by
  intro K
  induction K with
  | zero => intro s _ h; omega
  | succ K ih =>
    intro s hs hK
    rw [cSt,← itr_succ f,← itr_succ f]
    by_cases e : itr f s x = itr f (s + b) x
    · have := (c.ne c.pos e).1
      rw [decide_eq_true e]
      simp only [cond_true]
      omega
    · rw [decide_eq_false e]
      have hne : s ≠ i := fun e' => e (by rw [e']; exact c.eq)
      simp only [cond_false]
      rw [show s + b + 1 = s + 1 + b by omega,ih (s + 1) (by omega) (by omega)]
      omega
end
end
end Go.Proofs.YtnkeamihfiobdaaGreatDoor
end
